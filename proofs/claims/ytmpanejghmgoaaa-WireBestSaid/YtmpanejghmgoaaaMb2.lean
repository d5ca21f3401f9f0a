/- The reference's code with the least cost: words, and the whole, walked. -/
import Derived.Test.YtmpanejghmgoaaaMb1
import Derived.Laws.Bits64b
import Derived.Shelf.SortG.Plain
import Derived.OrdersIn
set_option linter.unusedVariables false
set_option linter.unusedSimpArgs false
namespace Go.Proofs.Ytmpanejghmgoaaa.T
open Go.RowKit Go.Eng
def sh (n : Nat) : Int := (64 : Int) / 2 ^ n
abbrev Cst := Option (List Nat × Int)
def betC : Cst → Cst → Cst
 | a, none => a
 | none, some x => some x
 | some x, some y => if y.2 < x.2 then some y else some x
def addC (pre : List Nat) (c : Int) : Cst → Cst
 | none => none
 | some x => some (pre ++ x.1, c + x.2)
def lenK (f : Int → Cst) (o left : Int) : Nat → Cst
 | 0 => none
 | k + 1 => betC (lenK f o left k) (if sh (k + 1) ≤ left then addC [k + 1] (o * ((k + 1 : Nat) : Int)) (f (left - sh (k + 1))) else none)
def lenR : List Int → Int → Cst
 | [], _ => some ([], 0)
 | o :: os, left => lenK (lenR os) o left 6
theorem betC_none (a : Cst) : betC a none = a := by cases a <;> rfl
theorem betC_nl (a : Cst) : betC none a = a := by cases a <;> rfl
theorem betC_ss (x y : List Nat × Int) : betC (some x) (some y) = if y.2 < x.2 then some y else some x := rfl
theorem betC_assoc (a b c : Cst) : betC (betC a b) c = betC a (betC b c) := by
 cases c with
 | none => rw [betC_none, betC_none]
 | some z =>
  cases b with
  | none => rw [betC_none, betC_nl]
  | some y =>
   cases a with
   | none => rw [betC_nl, betC_nl]
   | some x =>
    by_cases h1 : y.2 < x.2 <;> by_cases h2 : z.2 < y.2 <;> by_cases h3 : z.2 < x.2 <;> simp [betC, h1, h2, h3] <;> omega
theorem addC_bet (p : List Nat) (c : Int) (a b : Cst) : addC p c (betC a b) = betC (addC p c a) (addC p c b) := by
 cases b with
 | none => rw [betC_none]; cases a <;> rfl
 | some y =>
  cases a with
  | none => rfl
  | some x =>
   have h : (c + y.2 < c + x.2) ↔ y.2 < x.2 := by omega
   by_cases h1 : y.2 < x.2 <;> simp [betC, addC, h1, h]
theorem addC_add (p q : List Nat) (c d : Int) (a : Cst) : addC p c (addC q d a) = addC (p ++ q) (c + d) a := by
 cases a with
 | none => rfl
 | some x => simp [addC, Int.add_assoc]
theorem addC_nil (a : Cst) : addC [] 0 a = a := by
 cases a with
 | none => rfl
 | some x => simp [addC]
def Cst.Ok (n : Nat) (a : Cst) : Prop := ∀ l c, a = some (l, c) → l.length = n ∧ (∀ x ∈ l, 1 ≤ x ∧ x ≤ 6) ∧ 0 ≤ c ∧ c ≤ 6000 * (n : Int)
theorem betC_ok {n : Nat} {a b : Cst} (ha : Cst.Ok n a) (hb : Cst.Ok n b) : Cst.Ok n (betC a b) := by
 intro l c h
 cases b with
 | none => rw [betC_none] at h; exact ha l c h
 | some y =>
  cases a with
  | none => rw [betC_nl] at h; exact hb l c h
  | some x =>
   rw [betC_ss] at h
   split at h
   ·exact hb l c h
   ·exact ha l c h
theorem addC_ok {n m : Nat} {p : List Nat} {c : Int} {a : Cst} (ha : Cst.Ok n a) (hp : p.length = m) (hp6 : ∀ x ∈ p, 1 ≤ x ∧ x ≤ 6) (h0 : 0 ≤ c) (h1 : c ≤ 6000 * (m : Int)) : Cst.Ok (m + n) (addC p c a) := by
 intro l d h
 cases a with
 | none => cases h
 | some x =>
  obtain ⟨x1, x2⟩ := x
  simp only [addC, Option.some.injEq, Prod.mk.injEq] at h
  obtain ⟨rfl, rfl⟩ := h
  obtain ⟨h2, h3, h4, h5⟩ := ha x1 x2 rfl
  refine ⟨by rw [List.length_append, hp, h2], fun y hy => ?_, by omega, ?_⟩
  ·rcases List.mem_append.1 hy with hy | hy
   ·exact hp6 y hy
   ·exact h3 y hy
  ·push_cast
   omega
theorem lenK_ok {n : Nat} {f : Int → Cst} {o left : Int} (hf : ∀ left, Cst.Ok n (f left)) (h0 : 0 ≤ o) (h1 : o ≤ 1000) : ∀ k, k ≤ 6 → Cst.Ok (n + 1) (lenK f o left k)
 | 0, _ => fun l c h => by cases h
 | k + 1, hk => by
  unfold lenK
  refine betC_ok (lenK_ok hf h0 h1 k om0) ?_
  split
  ·have hb : o * ((k + 1 : Nat) : Int) ≤ 1000 * 6 := Int.mul_le_mul h1 om0 om0 om0
   have := addC_ok (m := 1) (p := [k + 1]) (c := o * ((k + 1 : Nat) : Int)) (hf (left - sh (k + 1))) rfl (fun x hx => by rw [List.mem_singleton] at hx; omega) (Int.mul_nonneg h0 om0) om0
   rw [Nat.add_comm] at this
   exact this
  ·intro l c h; cases h
theorem lenR_ok : ∀ (os : List Int) (left : Int), (∀ o ∈ os, 0 ≤ o ∧ o ≤ 1000) → Cst.Ok os.length (lenR os left)
 | [], left, _ => fun l c h => by
  simp only [lenR, Option.some.injEq, Prod.mk.injEq] at h
  obtain ⟨rfl, rfl⟩ := h
  exact ⟨rfl, fun x hx => by simp at hx, by omega, by simp⟩
 | o :: os, left, h => by
  unfold lenR
  have ho := h o (List.mem_cons_self ..)
  exact lenK_ok (fun left => lenR_ok os left fun x hx => h x (List.mem_cons_of_mem _ hx)) ho.1 ho.2 6 (Nat.le_refl _)
theorem betC_some {a b : Cst} (h : b.isSome = true) : (betC a b).isSome = true := by
 cases b with
 | none => cases h
 | some y =>
  cases a with
  | none => rfl
  | some x => rw [betC_ss]; split <;> rfl
theorem lenR_some : ∀ (os : List Int) (left : Int), (os.length : Int) ≤ left → (lenR os left).isSome = true
 | [], _, _ => rfl
 | o :: os, left, h => by
  rw [List.length_cons] at h
  unfold lenR lenK
  have h6 : sh 6 = 1 := by decide
  rw [if_pos (by rw [h6]; omega)]
  refine betC_some ?_
  have := lenR_some os (left - sh (5 + 1)) (by rw [show sh (5 + 1) = 1 from h6]; push_cast at h; omega)
  cases hx : lenR os (left - sh (5 + 1)) with
  | none => rw [hx] at this; cases this
  | some x => rfl
def setC (st : Cst) (pre : List Nat) (cost : Int) (os : List Int) (left : Int) : Cst := betC st (addC pre cost (lenR os left))
def setK (st : Cst) (pre : List Nat) (cost o : Int) (os : List Int) (left : Int) (k : Nat) : Cst := betC st (addC pre cost (lenK (lenR os) o left k))
theorem setK_zero (st : Cst) (pre : List Nat) (cost o : Int) (os : List Int) (left : Int) : setK st pre cost o os left 0 = st := betC_none st
theorem setK_skip {st : Cst} {pre : List Nat} {cost o : Int} {os : List Int} {left : Int} {k : Nat} (h : ¬ sh (k + 1) ≤ left) : setK st pre cost o os left (k + 1) = setK st pre cost o os left k := by
 unfold setK
 rw [lenK, if_neg h, betC_none]
theorem setK_go {st : Cst} {pre : List Nat} {cost o : Int} {os : List Int} {left : Int} {k : Nat} (h : sh (k + 1) ≤ left) : setC (setK st pre cost o os left k) (pre ++ [k + 1]) (cost + o * ((k + 1 : Nat) : Int)) os (left - sh (k + 1)) = setK st pre cost o os left (k + 1) := by
 unfold setK setC
 rw [lenK, if_pos h, addC_bet, addC_add, betC_assoc]
theorem setC_cut {l : List Nat} {c : Int} {pre : List Nat} {cost : Int} {os : List Int} {left : Int} (hos : ∀ o ∈ os, 0 ≤ o ∧ o ≤ 1000) (h : c ≤ cost) : setC (some (l, c)) pre cost os left = some (l, c) := by
 unfold setC
 cases hx : lenR os left with
 | none => rfl
 | some x =>
  obtain ⟨x1, x2⟩ := x
  have := (lenR_ok os left hos x1 x2 hx).2.2.1
  show betC (some (l, c)) (some (pre ++ x1, cost + x2)) = _
  rw [betC_ss, if_neg (by simp only; omega)]
theorem setC_end {st : Cst} {pre : List Nat} {cost left : Int} (h : st = none ∨ ∃ l c, st = some (l, c) ∧ cost < c) : setC st pre cost [] left = some (pre, cost) := by
 unfold setC
 rcases h with rfl | ⟨l, c, rfl, h⟩
 ·simp [lenR, addC, betC]
 ·simp [lenR, addC, betC, h]
structure Sz where
 s0 : Int
 s1 : Int
 s2 : Int
 s3 : Int
 s4 : Int
 s5 : Int
 s6 : Int
def Sz.cells (s : Sz) : List Value := [.int .i64 s.s0, .int .i64 s.s1, .int .i64 s.s2, .int .i64 s.s3, .int .i64 s.s4, .int .i64 s.s5, .int .i64 s.s6]
def Sz.g (s : Sz) : Nat → Int
 | 0 => s.s0
 | 1 => s.s1
 | 2 => s.s2
 | 3 => s.s3
 | 4 => s.s4
 | 5 => s.s5
 | _ => s.s6
def Sz.w (s : Sz) (k : Nat) (v : Int) : Sz :=
 match k with
 | 0 => { s with s0 := v }
 | 1 => { s with s1 := v }
 | 2 => { s with s2 := v }
 | 3 => { s with s3 := v }
 | 4 => { s with s4 := v }
 | 5 => { s with s5 := v }
 | _ => { s with s6 := v }
theorem seven {k : Nat} (h : k < 7) : k = 0 ∨ k = 1 ∨ k = 2 ∨ k = 3 ∨ k = 4 ∨ k = 5 ∨ k = 6 := by omega
theorem Sz.splice (s : Sz) {k : Nat} (v : Int) (h : k < 7) : Go.Eng.splice s.cells (0 + k * 1) [.int .i64 v] = (s.w k v).cells := by
 obtain rfl | rfl | rfl | rfl | rfl | rfl | rfl := seven h <;> rfl
theorem Sz.drop (s : Sz) {k : Nat} (h : k < 7) : ∃ rest, s.cells.drop (0 + k * 1) = .int .i64 (s.g k) :: rest := by
 obtain rfl | rfl | rfl | rfl | rfl | rfl | rfl := seven h <;> exact ⟨_, rfl⟩
def szL (l : List Nat) : Sz := ⟨(l.getD 0 0 : Nat), (l.getD 1 0 : Nat), (l.getD 2 0 : Nat), (l.getD 3 0 : Nat), (l.getD 4 0 : Nat), (l.getD 5 0 : Nat), (l.getD 6 0 : Nat)⟩
theorem szL_put (l : List Nat) (x : Nat) (h : l.length < 7) : (szL l).w l.length (x : Int) = szL (l ++ [x]) := by
 match l, h with
 | [], _ => rfl
 | [_], _ => rfl
 | [_, _], _ => rfl
 | [_, _, _], _ => rfl
 | [_, _, _, _], _ => rfl
 | [_, _, _, _, _], _ => rfl
 | [_, _, _, _, _, _], _ => rfl
 | _ :: _ :: _ :: _ :: _ :: _ :: _ :: _, h => simp only [List.length_cons] at h; omega
def stS : Cst → Sz
 | none => szL []
 | some x => szL x.1
def stC : Cst → Int
 | none => 0
 | some x => x.2
def szB (s : Sz) : Bool := !(ieq s.s0 0 && ieq s.s1 0 && ieq s.s2 0 && ieq s.s3 0 && ieq s.s4 0 && ieq s.s5 0 && ieq s.s6 0)
theorem szB_st {st : Cst} {n : Nat} (h : Cst.Ok n st) (hn : 0 < n) : szB (stS st) = st.isSome := by
 cases st with
 | none => rfl
 | some x =>
  obtain ⟨l, c⟩ := x
  obtain ⟨h1, h2, _⟩ := h l c rfl
  cases l with
  | nil => simp at h1; omega
  | cons x l =>
   have := h2 x (List.mem_cons_self ..)
   have hx : ieq ((x : Nat) : Int) 0 = false := by unfold ieq; simp; omega
   show szB (szL (x :: l)) = true
   unfold szB szL
   simp only [List.getD_cons_zero, hx, Bool.false_and, Bool.not_false]
abbrev Str := List UInt8
def wordB : Nat → Nat → Str
 | 0, _ => []
 | n + 1, k => (if k / 2 ^ n % 2 = 0 then 45 else 46) :: wordB n k
theorem wordB_len : ∀ n k, (wordB n k).length = n
 | 0, _ => rfl
 | n + 1, k => by rw [wordB, List.length_cons, wordB_len n k]
theorem wordB_mod : ∀ (n j k : Nat), wordB n (2 ^ n * j + k) = wordB n k
 | 0, _, _ => rfl
 | n + 1, j, k => by
  have h1 : 2 ^ (n + 1) * j + k = 2 ^ n * (2 * j) + k := by rw [Nat.pow_succ, Nat.mul_assoc]
  rw [h1, wordB, wordB, wordB_mod n (2 * j) k]
  rw [Nat.mul_add_div (Nat.two_pow_pos n)]
  rw [show (2 * j + k / 2 ^ n) % 2 = k / 2 ^ n % 2 by omega]
theorem wordB_lo {n k : Nat} (h : k < 2 ^ n) : wordB (n + 1) k = 45 :: wordB n k := by
 rw [wordB, Nat.div_eq_of_lt h]; rfl
theorem wordB_hi {n k : Nat} (h : k < 2 ^ n) : wordB (n + 1) (2 ^ n + k) = 46 :: wordB n k := by
 have h1 := wordB_mod n 1 k
 rw [Nat.mul_one] at h1
 rw [wordB, h1]
 rw [Nat.add_div_left _ (Nat.two_pow_pos n), Nat.div_eq_of_lt h]
 rfl
theorem beg_iff {s w : Str} : w <+: s ↔ w.length ≤ s.length ∧ s.take w.length = w := by
 constructor
 ·intro h
  exact ⟨h.length_le, (List.prefix_iff_eq_take.1 h).symm⟩
 ·rintro ⟨_, h⟩
  rw [← h]; exact List.take_prefix _ _
def begB (s w : Str) : Bool := decide (w <+: s)
def Free (l : List Str) : Prop := ∀ i k, i < l.length → k < l.length → i ≠ k → begB (l.getD i []) (l.getD k []) = false
open Classical in
noncomputable def freeB (l : List Str) : Bool := decide (Free l)
theorem freeB_iff {l : List Str} : freeB l = true ↔ Free l := @decide_eq_true_iff _ (Classical.propDecidable _)
theorem freeB_no {l : List Str} {i k : Nat} (hi : i < l.length) (hk : k < l.length) (h : i ≠ k) (hb : begB (l.getD i []) (l.getD k []) = true) : freeB l = false := by
 cases hf : freeB l with
 | false => rfl
 | true => have := freeB_iff.1 hf i k hi hk h; rw [hb] at this; cases this
theorem free_pair {l : List Str} : Free l ↔ l.Pairwise (fun a b => ¬ a <+: b ∧ ¬ b <+: a) := by
 rw [List.pairwise_iff_getElem]
 constructor
 ·intro h i j hi hj hij
  have h1 := h i j hi hj om0
  have h2 := h j i hj hi om0
  unfold begB at h1 h2
  rw [decide_eq_false_iff_not] at h1 h2
  simp only [List.getD_eq_getElem?_getD, List.getElem?_eq_getElem hi, List.getElem?_eq_getElem hj, Option.getD_some] at h1 h2
  exact ⟨h2, h1⟩
 ·intro h i k hi hk hik
  unfold begB
  rw [decide_eq_false_iff_not]
  simp only [List.getD_eq_getElem?_getD, List.getElem?_eq_getElem hi, List.getElem?_eq_getElem hk, Option.getD_some]
  rcases Nat.lt_or_gt_of_ne hik with hlt | hlt
  ·exact (h i k hi hk hlt).2
  ·exact (h k i hk hi hlt).1
theorem free_perm {l m : List Str} (h : l.Perm m) : Free l ↔ Free m := by
 rw [free_pair, free_pair]
 exact h.pairwise_iff (fun h => ⟨h.2, h.1⟩)
theorem freeB_perm {l m : List Str} (h : l.Perm m) : freeB l = freeB m := by
 rw [Bool.eq_iff_iff, freeB_iff, freeB_iff, free_perm h]
theorem pre_between : ∀ {a b c : Str}, a <+: b → a ≤ c → c ≤ b → a <+: c
 | [], _, _, _, _, _ => List.nil_prefix
 | x :: a, b, c, h, h1, h2 => by
  obtain ⟨t, rfl⟩ := h
  cases c with
  | nil => exact absurd h1 (by simp)
  | cons y c =>
   rw [List.cons_append] at h2
   rw [List.cons_le_cons_iff] at h1 h2
   have hlt : ∀ {p q : UInt8}, p < q → ¬ q < p := fun h1 h2 => absurd (UInt8.lt_trans h1 h2) (UInt8.lt_irrefl _)
   rcases h1 with h1 | ⟨rfl, h1⟩
   ·rcases h2 with h2 | ⟨rfl, h2⟩
    ·exact absurd h2 (hlt h1)
    ·exact absurd h1 (UInt8.lt_irrefl _)
   ·rcases h2 with h2 | ⟨_, h2⟩
    ·exact absurd h2 (UInt8.lt_irrefl _)
    ·exact List.cons_prefix_cons.2 ⟨rfl, pre_between (List.prefix_append a t) h1 h2⟩
theorem pre_le : ∀ {a b : Str}, a <+: b → a ≤ b
 | [], _, _ => by simp
 | x :: a, b, h => by
  obtain ⟨t, rfl⟩ := h
  rw [List.cons_append, List.cons_le_cons_iff]
  exact .inr ⟨rfl, pre_le (List.prefix_append a t)⟩
theorem adj_free {l : List Str} (hs : l.Pairwise (· ≤ ·)) (h : ∀ i, i + 1 < l.length → begB (l.getD (i + 1) []) (l.getD i []) = false) : Free l := by
 rw [free_pair, List.pairwise_iff_getElem]
 rw [List.pairwise_iff_getElem] at hs
 have key : ∀ i j (hi : i < l.length) (hj : j < l.length), i < j → ¬ l[i] <+: l[j] := fun i j hi hj hij hp => by
  have h1 := h i om0
  unfold begB at h1
  rw [decide_eq_false_iff_not] at h1
  have hi1 : i + 1 < l.length := by omega
  simp only [List.getD_eq_getElem?_getD, List.getElem?_eq_getElem hi, List.getElem?_eq_getElem hi1, Option.getD_some] at h1
  refine h1 (pre_between hp (hs i (i + 1) hi hi1 om0) ?_)
  by_cases he : i + 1 = j
  ·subst he; exact List.le_refl _
  ·exact hs (i + 1) j hi1 hj om0
 intro i j hi hj hij
 refine ⟨key i j hi hj hij, fun hp => ?_⟩
 have h1 := pre_le hp
 have h2 := hs i j hi hj hij
 have h3 : l[i] = l[j] := List.le_antisymm h2 h1
 exact key i j hi hj hij (by rw [h3]; exact List.prefix_refl _)
def frK {β : Type} (f : Nat → Option β) : Nat → Option β
 | 0 => none
 | k + 1 => match frK f k with
  | some r => some r
  | none => f k
theorem frK_next {β : Type} {f : Nat → Option β} {k : Nat} (h : frK f k = none) : frK f (k + 1) = f k := by rw [frK, h]
theorem frK_hit {β : Type} {f : Nat → Option β} {k : Nat} {r : β} (h : frK f k = some r) : ∀ {N}, k ≤ N → frK f N = some r
 | 0, h1 => by rw [Nat.le_zero.1 h1] at h; exact h
 | N + 1, h1 => by
  by_cases hN : k = N + 1
  ·rw [← hN]; exact h
  ·rw [frK, frK_hit h om0]
open Classical in
noncomputable def spL (ls : List Nat) : Nat → List Str → Option (List Str)
 | 0, ws => some ws
 | m + 1, ws => frK (fun k => if freeB (ws ++ [wordB (ls.getD ws.length 0) k]) then spL ls m (ws ++ [wordB (ls.getD ws.length 0) k]) else none) (2 ^ ls.getD ws.length 0)
noncomputable def spF (ls : List Nat) (m : Nat) (ws : List Str) (k : Nat) : Option (List Str) := if freeB (ws ++ [wordB (ls.getD ws.length 0) k]) then spL ls m (ws ++ [wordB (ls.getD ws.length 0) k]) else none
theorem spL_succ (ls : List Nat) (m : Nat) (ws : List Str) : spL ls (m + 1) ws = frK (spF ls m ws) (2 ^ ls.getD ws.length 0) := by
 rw [spL]; rfl
theorem spL_len (ls : List Nat) : ∀ (m : Nat) (ws R : List Str), spL ls m ws = some R → R.length = ws.length + m
 | 0, ws, R, h => by rw [spL] at h; cases h; rfl
 | m + 1, ws, R, h => by
  rw [spL_succ] at h
  generalize 2 ^ ls.getD ws.length 0 = N at h
  induction N with
  | zero => cases h
  | succ N ih =>
   cases hN : frK (spF ls m ws) N with
   | some r => rw [frK_hit hN (Nat.le_succ N)] at h; exact ih (by rw [hN]; exact h)
   | none =>
    rw [frK_next hN] at h
    unfold spF at h
    split at h
    ·have := spL_len ls m _ R h
     rw [List.length_append, List.length_singleton] at this
     omega
    ·cases h
structure Cn where
 sz : List Int
 inn : List Int
 st : Int
def Cn.n (c : Cn) : Nat := c.sz.length
def Cn.s (c : Cn) (k : Nat) : Int := c.sz.getD k 0
def Cn.i (c : Cn) (k : Nat) : Int := c.inn.getD k 0
def Cn.fitB (c : Cn) (m : Nat) : Bool := (List.range m).all fun k => inB 0 (c.s k) [c.i k]
def Cn.okB (c : Cn) : Bool := (inB 1 3 [(c.n : Int)] && decide (c.inn.length = c.n)) && (inB 1 20 c.sz && inB 0 600 [c.st]) && c.fitB c.n
theorem inB_all {lo hi : Int} {xs : List Int} : inB lo hi xs = true ↔ ∀ k, k < xs.length → lo ≤ xs.getD k 0 ∧ xs.getD k 0 ≤ hi := by
 unfold inB
 simp only [List.all_eq_true, Bool.not_eq_true', outB_iff]
 constructor
 ·intro h k hk
  have := h xs[k] (List.getElem_mem hk)
  simpa [List.getD_eq_getElem?_getD, hk] using this
 ·intro h x hx
  obtain ⟨k, hk, rfl⟩ := List.getElem_of_mem hx
  simpa [List.getD_eq_getElem?_getD, hk] using h k hk
structure Cn.Ok (c : Cn) : Prop where
 n1 : 1 ≤ c.n
 n3 : c.n ≤ 3
 len : c.inn.length = c.n
 st0 : 0 ≤ c.st
 st1 : c.st ≤ 600
 s : ∀ k, k < c.n → 1 ≤ c.s k ∧ c.s k ≤ 20
 i : ∀ k, k < c.n → 0 ≤ c.i k ∧ c.i k ≤ c.s k
structure Po where
 f : Int
 t : Int
deriving DecidableEq
def Po.cells (p : Po) : List Value := [.int .i64 p.f, .int .i64 p.t]
def Po.z : Po := ⟨0, 0⟩
structure Co where
 a : Int
 b : Int
 c : Int
 d : Int
deriving DecidableEq
def Co.cells (x : Co) : List Value := [.int .i64 x.a, .int .i64 x.b, .int .i64 x.c, .int .i64 x.d]
def Co.z : Co := ⟨0, 0, 0, 0⟩
def Co.g (x : Co) : Nat → Int
 | 0 => x.a
 | 1 => x.b
 | 2 => x.c
 | _ => x.d
def Co.w (x : Co) (k : Nat) (v : Int) : Co :=
 match k with
 | 0 => ⟨v, x.b, x.c, x.d⟩
 | 1 => ⟨x.a, v, x.c, x.d⟩
 | 2 => ⟨x.a, x.b, v, x.d⟩
 | _ => ⟨x.a, x.b, x.c, v⟩
theorem lt4 {k : Nat} (h : k < 4) : k = 0 ∨ k = 1 ∨ k = 2 ∨ k = 3 := by omega
theorem Co.drop (x : Co) {k : Nat} (h : k < 4) : ∃ rest, List.drop (0 + k * 1) x.cells = [.int .i64 (x.g k)] ++ rest := by
 obtain rfl | rfl | rfl | rfl := lt4 h
 all_goals exact ⟨_, rfl⟩
theorem Co.splice (x : Co) (v : Int) {k : Nat} (h : k < 4) : splice x.cells (0 + k * 1) [.int .i64 v] = (x.w k v).cells := by
 obtain rfl | rfl | rfl | rfl := lt4 h
 all_goals rfl
theorem Co.g_w (x : Co) (v : Int) {k j : Nat} (hk : k < 4) (hj : j < 4) : (x.w k v).g j = if j = k then v else x.g j := by
 obtain rfl | rfl | rfl | rfl := lt4 hk <;> obtain rfl | rfl | rfl | rfl := lt4 hj
 all_goals rfl
def Cn.co (c : Cn) : Co := ⟨c.st, c.i 0, c.i 1, c.i 2⟩
def Cn.room (c : Cn) (k : Nat) : Int := if k = 0 then 600 else c.s (k - 1)
def Cn.vldB (c : Cn) (p : Po) : Bool := inB 0 (c.n : Int) [p.f, p.t] && decide (p.f ≠ p.t)
def Cn.lack (c : Cn) (x : Co) (t : Nat) : Int := c.room t - x.g t
def Cn.amt (c : Cn) (x : Co) (f t : Nat) : Int := min (x.g f) (c.lack x t)
def Cn.noB (c : Cn) (x : Co) (f t : Nat) : Bool := decide (f = 0) && decide (x.g f < c.lack x t) || decide (t = 0) && decide (c.lack x t < x.g f)
def Cn.to (c : Cn) (x : Co) (f t : Nat) : Co := (x.w f (x.g f - c.amt x f t)).w t (x.g t + c.amt x f t)
def Cn.canB (c : Cn) (x : Co) (f t : Nat) : Bool := !c.noB x f t && decide (0 < c.amt x f t)
def Cn.of (c : Cn) (x : Co) : Cn := ⟨c.sz, [x.b, x.c, x.d].take c.n, x.a⟩
structure Cn.In (c : Cn) (x : Co) : Prop where
 lo : ∀ k, k < 4 → 0 ≤ x.g k
 hi : ∀ k, k ≤ c.n → x.g k ≤ c.room k
 z : ∀ k, c.n < k → k < 4 → x.g k = 0
theorem Cn.to_g (c : Cn) (x : Co) {f t k : Nat} (hf : f < 4) (ht : t < 4) (hk : k < 4) : (c.to x f t).g k = if k = t then x.g t + c.amt x f t else if k = f then x.g f - c.amt x f t else x.g k := by
 unfold Cn.to
 rw [Co.g_w _ _ ht hk, Co.g_w _ _ hf hk]
theorem Cn.In.to {c : Cn} {x : Co} {f t : Nat} (h : c.In x) (hn : c.n ≤ 3) (hf : f ≤ c.n) (ht : t ≤ c.n) (ha : 0 ≤ c.amt x f t) : c.In (c.to x f t) := by
 have hm : c.amt x f t ≤ x.g f ∧ c.amt x f t ≤ c.room t - x.g t := by unfold Cn.amt Cn.lack; omega
 have h0 := h.lo t om0
 refine ⟨fun k hk => ?_, fun k hk => ?_, fun k hk hk4 => ?_⟩
 ·rw [c.to_g x om0 om0 hk]
  have := h.lo k hk
  split
  ·omega
  ·split <;> omega
 ·rw [c.to_g x om0 om0 om0]
  split
  ·rename_i hkt; subst hkt; omega
  ·split
   ·rename_i hkf
    subst hkf
    have := h.hi k hk
    omega
   ·exact h.hi k hk
 ·rw [c.to_g x om0 om0 hk4, if_neg om0, if_neg om0]
  exact h.z k hk hk4
theorem Cn.canB_iff {c : Cn} {x : Co} {f t : Nat} : c.canB x f t = true ↔ (¬ (f = 0 ∧ x.g f < c.lack x t) ∧ ¬ (t = 0 ∧ c.lack x t < x.g f)) ∧ 0 < c.amt x f t := by
 unfold Cn.canB Cn.noB
 simp only [Bool.and_eq_true, Bool.not_eq_true', Bool.or_eq_false_iff, Bool.and_eq_false_iff, decide_eq_true_eq, decide_eq_false_iff_not]
 constructor
 ·rintro ⟨⟨h1, h2⟩, h3⟩; exact ⟨⟨by omega, by omega⟩, h3⟩
 ·rintro ⟨⟨h1, h2⟩, h3⟩; exact ⟨⟨by omega, by omega⟩, h3⟩
theorem Cn.of_i (c : Cn) (x : Co) (k : Nat) (h : k < c.n) (hn : c.n ≤ 3) : (c.of x).i k = x.g (k + 1) := by
 unfold Cn.i Cn.of
 obtain rfl | rfl | rfl : k = 0 ∨ k = 1 ∨ k = 2 := by omega
 all_goals
  obtain h1 | h1 | h1 : c.n = 1 ∨ c.n = 2 ∨ c.n = 3 := by omega
  all_goals first | omega | (simp only [h1]; rfl)
theorem Cn.of_len (c : Cn) (x : Co) (hn : c.n ≤ 3) : (c.of x).inn.length = c.n := by
 unfold Cn.of
 simp only [List.length_take, List.length_cons, List.length_nil]
 omega
theorem Cn.Ok.of {c : Cn} (h : c.Ok) {x : Co} (hx : c.In x) : (c.of x).Ok := by
 refine ⟨h.n1, h.n3, c.of_len x h.n3, hx.lo 0 (by decide), hx.hi 0 (Nat.zero_le _), h.s, fun k hk => ?_⟩
 have hk' : k < c.n := hk
 have := h.n3
 rw [c.of_i x k hk h.n3]
 exact ⟨hx.lo (k + 1) om0, hx.hi (k + 1) om0⟩
def Cn.stp (c : Cn) (x : Co) (p : Po) : Co := c.to x p.f.toNat p.t.toNat
def Cn.pE (c : Cn) (x : Co) (p : Po) : Int := if c.vldB p then if c.canB x p.f.toNat p.t.toNat then 0 else 6 else 81
def Cn.runK (c : Cn) (l : List Po) : Nat → Co
 | 0 => c.co
 | k + 1 => c.stp (c.runK l k) (l.getD k Po.z)
def bk (x y : Co) : Int := max 0 (y.a - x.a)
def Cn.backK (c : Cn) (l : List Po) : Nat → Int
 | 0 => 0
 | k + 1 => c.backK l k + bk (c.runK l k) (c.runK l (k + 1))
def Cn.badK (c : Cn) (l : List Po) : Nat → Nat → Option Nat
 | _, 0 => none
 | k, m + 1 => if c.pE (c.runK l k) (l.getD k Po.z) = 0 then c.badK l (k + 1) m else some k
def Cn.zero : Cn := ⟨[], [], 0⟩
def Cn.err (c : Cn) : Int := if c.okB then 0 else 80
def Cn.bad (c : Cn) (l : List Po) : Option Nat := c.badK l 0 l.length
def Cn.plC (c : Cn) (l : List Po) : Cn := if c.okB then match c.bad l with | none => c.of (c.runK l l.length) | some _ => Cn.zero else Cn.zero
def Cn.plB (c : Cn) (l : List Po) : Int := if c.okB then match c.bad l with | none => c.backK l l.length | some _ => 0 else 0
def Cn.plA (c : Cn) (l : List Po) : Int := if c.okB then match c.bad l with | none => 0 | some k => (k : Int) else 0
def Cn.plE (c : Cn) (l : List Po) : Int := if c.okB then match c.bad l with | none => 0 | some k => c.pE (c.runK l k) (l.getD k Po.z) else 80
def Cn.poC (c : Cn) (p : Po) : Cn := if c.okB then if c.pE c.co p = 0 then c.of (c.stp c.co p) else Cn.zero else Cn.zero
def Cn.poE (c : Cn) (p : Po) : Int := if c.okB then c.pE c.co p else 80
theorem Cn.vld_iff {c : Cn} {p : Po} : c.vldB p = true ↔ (0 ≤ p.f ∧ p.f ≤ c.n) ∧ (0 ≤ p.t ∧ p.t ≤ c.n) ∧ p.f ≠ p.t := by
 unfold Cn.vldB
 simp only [Bool.and_eq_true, inB2, decide_eq_true_eq]
 constructor
 ·rintro ⟨⟨h1, h2⟩, h3⟩; exact ⟨h1, h2, h3⟩
 ·rintro ⟨h1, h2, h3⟩; exact ⟨⟨h1, h2⟩, h3⟩
theorem Cn.pE_zero {c : Cn} {x : Co} {p : Po} : c.pE x p = 0 ↔ c.vldB p = true ∧ c.canB x p.f.toNat p.t.toNat = true := by
 unfold Cn.pE
 split
 ·rename_i h; split
  ·rename_i h2; simp [h, h2]
  ·rename_i h2; simp [h2]
 ·rename_i h; simp [h]
theorem Cn.In.stp {c : Cn} {x : Co} {p : Po} (h : c.In x) (hn : c.n ≤ 3) (hp : c.pE x p = 0) : c.In (c.stp x p) := by
 obtain ⟨h1, h2⟩ := Cn.pE_zero.1 hp
 rw [Cn.vld_iff] at h1
 exact h.to hn om0 om0 (Int.le_of_lt (Cn.canB_iff.1 h2).2)
end Go.Proofs.Ytmpanejghmgoaaa.T
namespace Go.Eng
section
variable {C : Ctx} {e : Env} {H : List Blk} {d : Option Tmp} {ty : TypeId} {pos : String} {af : Array Edge} {g : Option (Nat × Bool)} {x y : Operand} {t t' : TypeId} {m i : Nat}
theorem y_bitW (hx : ev e x = .int .i64 (m : Int)) (hy : ev e y = .int .i64 1) (hm : m < 1000000000) : YD C ⟨d, .binOp .and t x y t', ty, pos, af, g⟩ e H (.int .i64 ((m % 2 : Nat) : Int)) := yd_of fun w _ => by
 have h1 : (BitVec.ofInt 64 (m : Int)).toNat = m := by
  rw [BitVec.ofInt_natCast, BitVec.toNat_ofNat]; exact Nat.mod_eq_of_lt om0
 have h2 : (Op.intBits .and .i64 (m : Int) 1).run C.P w = .ok (.int .i64 ((m % 2 : Nat) : Int)) w := by
  show Result.ok (Value.int .i64 (IntKind.i64.wrap ((BitVec.ofInt 64 (m : Int) &&& BitVec.ofInt 64 (1 : Int)).toNat : Int))) w = _
  rw [BitVec.toNat_and, h1, show (BitVec.ofInt 64 (1 : Int)).toNat = 1 from rfl, Nat.and_one_is_mod, IntKind.wrap_i64]
  have e : ((m % 2 : Nat) + 9223372036854775808 : Int) % 18446744073709551616 - 9223372036854775808 = ((m % 2 : Nat) : Int) := by omega
  rw [e]
 simp [execOp, hx, hy, eqGuard, binOp, h2]
theorem y_shrW (hx : ev e x = .int .i64 (m : Int)) (hy : ev e y = .int .i64 (i : Int)) (hi : i ≤ 60) : YD C ⟨d, .binOp .shr t x y t', ty, pos, af, g⟩ e H (.int .i64 ((m / 2 ^ i : Nat) : Int)) :=
 y_shr hx hy om0 (by
  rw [show min (i : Int).toNat IntKind.i64.bits = i by rw [show IntKind.i64.bits = 64 from rfl]; omega, Int.fdiv_eq_ediv_of_nonneg _ (by have : 0 < 2 ^ i := Nat.two_pow_pos i; exact_mod_cast Nat.zero_le _)]
  push_cast; rfl)
theorem y_shlW (hx : ev e x = .int .i64 1) (hy : ev e y = .int .i64 (i : Int)) (hi : i ≤ 30) : YD C ⟨d, .binOp .shl t x y t', ty, pos, af, g⟩ e H (.int .i64 ((2 ^ i : Nat) : Int)) :=
 y_shl hx hy om0 (by
  have h30 : 2 ^ i ≤ 2 ^ 30 := Nat.pow_le_pow_right (by decide) hi
  rw [show min (i : Int).toNat IntKind.i64.bits = i by rw [show IntKind.i64.bits = 64 from rfl]; omega, Int.one_mul, IntKind.wrap_i64]
  have : ((2 : Int) ^ i) = ((2 ^ i : Nat) : Int) := by push_cast; rfl
  rw [this]
  generalize 2 ^ i = p at h30
  omega)
theorem y_neqNilW {x y : Operand} {T E T' : TypeId} {a : Option Addr} {n c : Nat} (hx : ev e x = .slice a n c) (hy : ev e y = .slice none 0 0) (hT : ∀ w, (underlying T).run C.P w = .ok (.slice E) w) : YD C ⟨d, .binOp .neq T x y T', ty, pos, af, g⟩ e H (.bool (!a.isNone)) := yd_of fun w _ => by
 have h : (Op.equalIn Op.maxDepth T (.slice a n c) (.slice none 0 0)).run C.P w = .ok a.isNone w := by
  unfold Op.maxDepth Op.equalIn
  rw [Sem.run_bind, hT]
  cases a <;> simp
 simp [execOp, hx, hy, eqGuard, binOp, Op.equal, h]
end
end Go.Eng
namespace Go.Proofs.Ytmpanejghmgoaaa.T
open Go.RowKit Go.Proofs Go.Eng
set_option maxRecDepth 100000
set_option maxHeartbeats 1000000
theorem Trymixed : Try.prog.follows .mixedOrders = true := by kernel_rfl
theorem bs22_1_0 {x0 : Int} : ∀ w, (Instr.buildSlice 22 1 #[(0, .int .i64 x0)]).run Try.prog w = .ok (.slice (some ⟨w.heap.size, 0, none⟩) 1 1) (w.alloc (CB [.int .i64 x0] 3)) := fun w => by kernel_rfl
def sE (s : Str) : List Value := [sv s]
theorem sE_len : ∀ s, (sE s).length = 1 := fun _ => rfl
abbrev Txs (w : World) (a : Option Addr) (n cap : Nat) (xs : List Str) : Prop := Rws sE 1 ([] : Str) w a n cap xs
def oftB (l : List Int) : Bool := inB 1 7 [(l.length : Int)] && inB 0 1000 l
theorem oftB_iff {l : List Int} : oftB l = true ↔ (1 ≤ l.length ∧ l.length ≤ 7) ∧ ∀ o ∈ l, 0 ≤ o ∧ o ≤ 1000 := by
 unfold oftB
 rw [Bool.and_eq_true, inB1]
 constructor
 ·rintro ⟨h1, h2⟩
  refine ⟨by omega, fun o ho => ?_⟩
  obtain ⟨k, hk, rfl⟩ := List.getElem_of_mem ho
  have := inB_all.1 h2 k hk
  simpa [List.getD_eq_getElem?_getD, hk] using this
 ·rintro ⟨h1, h2⟩
  refine ⟨by omega, inB_all.2 fun k hk => ?_⟩
  have := h2 l[k] (List.getElem_mem hk)
  simpa [List.getD_eq_getElem?_getD, hk] using this
def firstW (p : Int → Bool) : List Int → Nat → Int
 | [], _ => -1
 | x :: l, k => if p x then (k : Int) else firstW p l (k + 1)
theorem firstW_step {p : Int → Bool} {xs : List Int} {k : Nat} (h : k < xs.length) :
  firstW p (xs.drop k) k = if p (xs.getD k 0) then (k : Int) else firstW p (xs.drop (k + 1)) (k + 1) := by
 rw [List.drop_eq_getElem_cons h]; simp [firstW, h, List.getD_eq_getElem?_getD]
theorem firstW_lt {p : Int → Bool} : ∀ {xs : List Int} {k : Nat}, decide (0 ≤ firstW p xs k) = xs.any p
 | [], _ => by simp [firstW]
 | x :: l, k => by
  have ih := firstW_lt (p := p) (xs := l) (k := k + 1)
  unfold firstW
  cases hx : p x
  ·simp only [Bool.false_eq_true, if_false, List.any_cons, hx, Bool.false_or, ih]
  ·simp [hx]
structure TellsW (P : Program) (w : World) (fid : FuncId) (caps : List Value) (p : Int → Bool) : Prop where
 enter : ∀ args w, (callFunc fid args).run P w = .ok (.enter fid args) w
 call : ∀ x w', Below w.heap.size w w' → Ct P fid (Value.int .i64 x :: caps).toArray w' fun v _ => v = .bool (p x)
theorem TellsW.st {C : Ctx} {H : List Blk} {fid : FuncId} {caps : List Value} {p : Int → Bool} (h : TellsW C.P C.w0 fid caps p) (w : World) (hw : St C H w) : TellsW C.P w fid caps p :=
 ⟨h.enter, fun x w' hb => h.call x w' (hw.1.trans (hb.mono hw.1.size))⟩
theorem wix_any (fid : FuncId) (caps : List Value) (p : Int → Bool) (a : Option Addr) (n cap : Nat) (xs : List Int) (w : World) (hn : (n : Int) ≤ 9223372036854775806) (hx : Ints w a n cap xs) (hp : TellsW Try.prog w fid caps p) :
  Ct Try.prog 33 #[.slice a n cap, .func (.func fid) #[] caps.toArray] w fun v _ => v = .int .i64 (firstW p xs 0) := by
 have hl := hx.len
 have hF := wide_wide
 refine Ct_start (args := [_, _]) Try.func33 rf Try.ntmps33 rf ?_
 refine zR fun ds => ?_
 refine za (.int .i64 _) hF ?_
 refine zO ?_
 refine zR fun ds => ?_
 refine zm (.slice _ _ _) hF ?_
 refine zD hF (y_len rf Try.runUnderlying22) ?_
 refine zm (.int .i64 _) hF ?_
 refine zN ?_
 refine W_block ?_
 refine W_loop (γ := Nat) (fun k => k ≤ n ∧ firstW p (xs.drop k) k = firstW p xs 0) (fun k => [(8, .int .i64 (k : Int)), (7, .int .i64 (n : Int)), (0, .slice a n cap), (1, .func (.func fid) #[] caps.toArray)]) (fun _ => _) (fun k => n - k) (0) ⟨Nat.zero_le _, by simp⟩ s10 (List.Sublist.refl _) ?_
 intro k e hk
 refine zR fun ds => ?_
 refine zD hF (y_lss rf rf) ?_
 refine zO ?_
 refine W_cond rf (fun c2 => ?_) (fun c2 => ?_)
 ·
  try simp only [qz1, qz2, qz3, qz4, qz5, qz6, qz7, qz8] at c2
  obtain ⟨b, o, rfl, hc⟩ := hx.cell k om0
  refine zU ?_
  refine W_seq ?_
  refine W_block ?_
  refine zR fun ds => ?_
  refine zm (.int .i64 _) hF ?_
  refine za (.int .i64 _) hF ?_
  refine zP fun ds => ?_
  refine zm (_) hF ?_
  refine zm (.slice _ _ _) hF ?_
  refine zm (.int .i64 _) hF ?_
  refine zD hF (y_index (k := k) rf rf (by first | rfl | omega) (by first | decide | omega) Try.runUnderlying22 Try.sizeOf3) ?_
  refine zD hF (y_load1 rf Try.isAgg3 (by first | exact Mem.old1 (by assumption) | exact Mem.oldAt1 (by assumption) rf | exact Mem.old (by assumption) | exact Mem.oldAtL1 (by assumption) rf rf)) ?_
  refine zD hF (y_callL (first := []) (captured := caps) rf rf hp.enter (fun w hw => hp.call _ w hw.1)) ?_
  refine zN ?_
  refine W_cond rf (fun c4 => ?_) (fun c4 => ?_)
  ·
   try simp only [qz1, qz2, qz3, qz4, qz5, qz6, qz7, qz8] at c4
   refine zR fun ds => ?_
   refine zm (.int .i64 _) hF ?_
   refine za (.int .i64 _) hF ?_
   refine zN ?_
   refine W_ret ?_
   refine InB_ret ?_
   refine Then_ret ?_
   refine Loop_ret ?_
   refine InB_ret ?_
   refine Then_ret ?_
   refine Fin_ret [.int .i64 _] [] Try.results33 ⟨by rfl, trivial⟩ HSub.nil ?_
   show _ = _
   rw [firstW_step om0, c4] at hk
   simp [tupOf, ← hk.2]
  ·
   try simp only [qz1, qz2, qz3, qz4, qz5, qz6, qz7, qz8] at c4
   refine W_skip ?_
   refine InB_normal ?_
   refine zT fun ds => ?_
   refine zD hF (y_add rf rf ui) ?_
   refine zm (.int .i64 _) hF ?_
   refine WS_nil ?_
   exact Loop_next (k + 1) ⟨by omega, by rw [firstW_step om0, c4] at hk; exact hk.2⟩ s10 s20 om0
 ·
  try simp only [qz1, qz2, qz3, qz4, qz5, qz6, qz7, qz8] at c2
  refine W_exit ?_
  refine Then_exit ?_
  refine Loop_exit ?_
  refine InB_same ?_
  refine zS fun ds => ?_
  refine za (.int .i64 _) hF ?_
  refine zN ?_
  refine W_ret ?_
  refine Fin_ret [.int .i64 _] [] Try.results33 ⟨by rfl, trivial⟩ HSub.nil ?_
  show _ = _
  obtain rfl : k = n := by omega
  rw [← hk.2, ← hl]; simp [tupOf, firstW]
theorem wct_any (fid : FuncId) (caps : List Value) (p : Int → Bool) (a : Option Addr) (n cap : Nat) (xs : List Int) (w : World) (hn : (n : Int) ≤ 9223372036854775806) (hx : Ints w a n cap xs) (hp : TellsW Try.prog w fid caps p) :
  Ct Try.prog 26 #[.slice a n cap, .func (.func fid) #[] caps.toArray] w fun v _ => v = .bool (xs.any p) := by
 have hF := wide_wide
 refine Ct_start (args := [_, _]) Try.func26 rf Try.ntmps26 rf ?_
 refine zR fun ds => ?_
 refine za (.bool _) hF ?_
 refine zP fun ds => ?_
 refine zm (.slice _ _ _) hF ?_
 refine zm (_) hF ?_
 refine zD hF (y_callL rf rf Try.call33 (fun w hw => wix_any fid caps p a n cap xs w hn (hx.st w hw) (hp.st w hw))) ?_
 refine zD hF (y_geq rf rf) ?_
 refine za (.bool _) hF ?_
 refine zN ?_
 refine W_ret ?_
 refine Fin_ret [.bool _] [] Try.results26 ⟨by rfl, trivial⟩ HSub.nil ?_
 show Value.bool _ = _
 rw [firstW_lt]
theorem win1_any (n lo hi : Int) (p q o1 o2 : Nat) (w : World) (h1 : At w p o1 [.int .i64 lo]) (h2 : At w q o2 [.int .i64 hi]) :
  Ct Try.prog 27 #[.int .i64 n, .pointer (some ⟨p, o1, none⟩), .pointer (some ⟨q, o2, none⟩)] w fun v _ => v = .bool (outB lo hi n) := by
 have hF := wide_wide
 refine Ct_start (args := [_, _, _]) Try.func27 rf Try.ntmps27 rf ?_
 refine zR fun ds => ?_
 refine za (.bool _) hF ?_
 refine zP fun ds => ?_
 refine zm (.int .i64 _) hF ?_
 refine zD hF (y_load1 rf Try.isAgg3 (by first | exact Mem.old1 (by assumption) | exact Mem.oldAt1 (by assumption) rf | exact Mem.old (by assumption) | exact Mem.oldAtL1 (by assumption) rf rf)) ?_
 refine zD hF (y_lss rf rf) ?_
 refine zm (.bool _) hF ?_
 refine WS_split 8 rf (fun g1_3 => ?_) (fun g1_3 => ?_)
 ·
  try simp only [qz1, qz2, qz3, qz4, qz5, qz6, qz7, qz8] at g1_3
  refine zno hF ?_
  refine zno hF ?_
  refine zno hF ?_
  refine zD hF (zpk (.bool _)) ?_
  refine za (.bool _) hF ?_
  refine zN ?_
  refine W_ret ?_
  refine Fin_ret [.bool _] [] Try.results27 ⟨by rfl, trivial⟩ HSub.nil ?_
  show _ = _
  simp [tupOf, outB, *] <;> omega
 ·
  try simp only [qz1, qz2, qz3, qz4, qz5, qz6, qz7, qz8] at g1_3
  refine zm (.int .i64 _) hF ?_
  refine zD hF (y_load1 rf Try.isAgg3 (by first | exact Mem.old1 (by assumption) | exact Mem.oldAt1 (by assumption) rf | exact Mem.old (by assumption) | exact Mem.oldAtL1 (by assumption) rf rf)) ?_
  refine zD hF (y_gtr rf rf) ?_
  refine zD hF (zpk (.bool _)) ?_
  refine za (.bool _) hF ?_
  refine zN ?_
  refine W_ret ?_
  refine Fin_ret [.bool _] [] Try.results27 ⟨by rfl, trivial⟩ HSub.nil ?_
  show _ = _
  simp [tupOf, outB, *] <;> omega
theorem win_any (a : Option Addr) (n cap : Nat) (xs : List Int) (lo hi : Int) (w : World) (hn : (n : Int) ≤ 9223372036854775806) (hx : Ints w a n cap xs) :
  Ct Try.prog 17 #[.int .i64 lo, .int .i64 hi, .slice a n cap] w fun v _ => v = .bool (inB lo hi xs) := by
 have hF := wide_wide
 refine Ct_start (args := [_, _, _]) Try.func17 rf Try.ntmps17 rf ?_
 refine zR fun ds => ?_
 refine WS_new hF rf (y_box rf) (fun b1 => ?_)
 refine WS_new hF rf (y_box rf) (fun b2 => ?_)
 refine za (.bool _) hF ?_
 refine zP fun ds => ?_
 refine zm (.slice _ _ _) hF ?_
 refine zD hF (y_makeFuncL rf rf) ?_
 refine zD hF (y_callL rf rf Try.call26 (fun w hw => wct_any 27 [_, _] (outB lo hi) a n cap xs w hn (hx.st w hw) ⟨Try.call27, fun x w' hb => win1_any x lo hi _ _ 0 0 w' (At.old hb (Mem.own1 1 rfl rfl w hw)) (At.old hb (Mem.own1 0 rfl rfl w hw))⟩)) ?_
 refine zD hF (y_not rf) ?_
 refine za (.bool _) hF ?_
 refine zN ?_
 refine W_ret ?_
 refine Fin_ret [.bool _] [] Try.results17 ⟨by rfl, trivial⟩ HSub.nil ?_
 show Value.bool _ = _
 rw [inB_any]
theorem sent_any (a : Option Addr) (n cap : Nat) (xs : List Int) (w : World) (hn : n ≤ 1000000) (hx : Ints w a n cap xs) :
  Ct Try.prog 8 #[.slice a n cap] w fun v _ => v = .bool (oftB xs) := by
 have hl := hx.len
 have hF := wide_wide
 refine Ct_start (args := [_]) Try.func8 rf Try.ntmps8 rf ?_
 refine zR fun ds => ?_
 refine za (.bool _) hF ?_
 refine zP fun ds => ?_
 refine zm (.slice _ _ _) hF ?_
 refine zD hF (y_len rf Try.runUnderlying22) ?_
 refine WS_newS hF rf (y_buildSliceL bs22_1_0 rf) (fun b1 => ?_)
 refine zD hF (y_callL rf rf Try.call17 (fun w hw => win_any _ _ _ _ _ _ w (by decide) (by first | exact Ints.one 0 rfl w hw | exact Ints.two 0 rfl w hw))) ?_
 refine zm (.bool _) hF ?_
 refine WS_split 7 rf (fun g1_4 => ?_) (fun g1_4 => ?_)
 ·
  try simp only [qz1, qz2, qz3, qz4, qz5, qz6, qz7, qz8] at g1_4
  refine zm (.slice _ _ _) hF ?_
  refine zD hF (y_callL rf rf Try.call17 (fun w hw => win_any _ _ _ _ _ _ w om0 (hx.st w hw))) ?_
  refine zD hF (zpk (.bool _)) ?_
  refine za (.bool _) hF ?_
  refine zN ?_
  refine W_ret ?_
  refine Fin_ret [.bool _] [] Try.results8 ⟨by rfl, trivial⟩ HSub.nil ?_
  show Value.bool _ = _
  unfold oftB
  rw [hl]
  simp [*]
 ·
  try simp only [qz1, qz2, qz3, qz4, qz5, qz6, qz7, qz8] at g1_4
  refine zno hF ?_
  refine zno hF ?_
  refine zD hF (zpk (.bool _)) ?_
  refine za (.bool _) hF ?_
  refine zN ?_
  refine W_ret ?_
  refine Fin_ret [.bool _] [] Try.results8 ⟨by rfl, trivial⟩ HSub.nil ?_
  show Value.bool _ = _
  unfold oftB
  rw [hl]
  simp [*]
theorem rwin_any (n lo hi : Int) (w : World) : Ct Try.prog 23 #[.int .i64 n, .int .i64 lo, .int .i64 hi] w fun v _ => v = .bool (inB lo hi [n]) := by
 have hF := wide_wide
 refine Ct_start (args := [_, _, _]) Try.func23 rf Try.ntmps23 rf ?_
 refine zR fun ds => ?_
 refine za (.bool _) hF ?_
 refine zP fun ds => ?_
 refine zm (.int .i64 _) hF ?_
 refine zm (.int .i64 _) hF ?_
 refine zD hF (y_geq rf rf) ?_
 refine zm (.bool _) hF ?_
 refine WS_split 10 rf (fun g1_3 => ?_) (fun g1_3 => ?_)
 ·
  try simp only [qz1, qz2, qz3, qz4, qz5, qz6, qz7, qz8] at g1_3
  refine zm (.int .i64 _) hF ?_
  refine zm (.int .i64 _) hF ?_
  refine zD hF (y_leq rf rf) ?_
  refine zD hF (zpk (.bool _)) ?_
  refine za (.bool _) hF ?_
  refine zN ?_
  refine W_ret ?_
  refine Fin_ret [.bool _] [] Try.results23 ⟨by rfl, trivial⟩ HSub.nil ?_
  show Value.bool _ = .bool (inB lo hi [n])
  congr 1
  rw [Bool.eq_iff_iff, inB1]
  try simp only [decide_eq_true_eq, Bool.false_eq_true, false_iff]
  omega
 ·
  try simp only [qz1, qz2, qz3, qz4, qz5, qz6, qz7, qz8] at g1_3
  refine zno hF ?_
  refine zno hF ?_
  refine zno hF ?_
  refine zD hF (zpk (.bool _)) ?_
  refine za (.bool _) hF ?_
  refine zN ?_
  refine W_ret ?_
  refine Fin_ret [.bool _] [] Try.results23 ⟨by rfl, trivial⟩ HSub.nil ?_
  show Value.bool _ = .bool (inB lo hi [n])
  congr 1
  rw [Bool.eq_iff_iff, inB1]
  try simp only [decide_eq_true_eq, Bool.false_eq_true, false_iff]
  omega
theorem roften_any (a : Option Addr) (n cap : Nat) (xs : List Int) (w : World) (hn : n ≤ 1000000) (hx : Ints w a n cap xs) :
  Ct Try.prog 14 #[.slice a n cap] w fun v _ => v = .bool (oftB xs) := by
 have hl := hx.len
 have hF := wide_wide
 refine Ct_start (args := [_]) Try.func14 rf Try.ntmps14 rf ?_
 refine zR fun ds => ?_
 refine za (.bool _) hF ?_
 refine zO ?_
 refine zR fun ds => ?_
 refine zm (.slice _ _ _) hF ?_
 refine zD hF (y_len rf Try.runUnderlying22) ?_
 refine zD hF (y_callL rf rf Try.call23 (fun w hw => rwin_any _ _ _ w)) ?_
 refine zD hF (y_not rf) ?_
 refine zN ?_
 refine W_cond rf (fun c1 => ?_) (fun c1 => ?_)
 ·
  try simp only [qz1, qz2, qz3, qz4, qz5, qz6, qz7, qz8] at c1
  refine zR fun ds => ?_
  refine za (.bool _) hF ?_
  refine zN ?_
  refine W_ret ?_
  refine Then_ret ?_
  refine Fin_ret [.bool _] [] Try.results14 ⟨by rfl, trivial⟩ HSub.nil ?_
  show Value.bool _ = _
  unfold oftB
  rw [hl, c1]; rfl
 ·
  try simp only [qz1, qz2, qz3, qz4, qz5, qz6, qz7, qz8] at c1
  refine zU ?_
  refine W_seq ?_
  refine zR fun ds => ?_
  refine zm (.slice _ _ _) hF ?_
  refine zD hF (y_len rf Try.runUnderlying22) ?_
  refine zm (.int .i64 _) hF ?_
  refine zN ?_
  refine W_block ?_
  refine W_loop (γ := Nat) (fun k => k ≤ n ∧ ∀ j, j < k → 0 ≤ xs.getD j 0 ∧ xs.getD j 0 ≤ 1000) (fun k => [(9, .slice a n cap), (10, .int .i64 (n : Int)), (11, .int .i64 (k : Int))]) (fun _ => _) (fun k => n - k) (0) ⟨Nat.zero_le _, fun j h => absurd h (Nat.not_lt_zero _)⟩ s10 (List.Sublist.refl _) ?_
  rintro k e ⟨hk, hj⟩
  refine zR fun ds => ?_
  refine zD hF (y_lss rf rf) ?_
  refine zO ?_
  refine W_cond rf (fun c4 => ?_) (fun c4 => ?_)
  ·
   try simp only [qz1, qz2, qz3, qz4, qz5, qz6, qz7, qz8] at c4
   obtain ⟨b, o, rfl, hc⟩ := hx.cell k om0
   refine zU ?_
   refine W_seq ?_
   refine W_block ?_
   refine zR fun ds => ?_
   refine zD hF (y_index (k := k) rf rf (by first | rfl | omega) (by first | decide | omega) Try.runUnderlying22 Try.sizeOf3) ?_
   refine zD hF (y_load1 rf Try.isAgg3 (by first | exact Mem.old1 (by assumption) | exact Mem.oldAt1 (by assumption) rf | exact Mem.old (by assumption) | exact Mem.oldAtL1 (by assumption) rf rf)) ?_
   refine za (.int .i64 _) hF ?_
   refine zP fun ds => ?_
   refine zm (.int .i64 _) hF ?_
   refine zD hF (y_callL rf rf Try.call23 (fun w hw => rwin_any _ _ _ w)) ?_
   refine zD hF (y_not rf) ?_
   refine zN ?_
   refine W_cond rf (fun c6 => ?_) (fun c6 => ?_)
   ·
    try simp only [qz1, qz2, qz3, qz4, qz5, qz6, qz7, qz8] at c6
    refine zR fun ds => ?_
    refine za (.bool _) hF ?_
    refine zN ?_
    refine W_ret ?_
    refine InB_ret ?_
    refine Then_ret ?_
    refine Loop_ret ?_
    refine InB_ret ?_
    refine Then_ret ?_
    refine Fin_ret [.bool _] [] Try.results14 ⟨by rfl, trivial⟩ HSub.nil ?_
    show Value.bool _ = _
    cases hb : oftB xs with
    | false => rfl
    | true =>
     have := (inB_all.1 (by unfold oftB at hb; rw [Bool.and_eq_true] at hb; exact hb.2)) k om0
     exact absurd this (inB1f.1 c6)
   ·
    try simp only [qz1, qz2, qz3, qz4, qz5, qz6, qz7, qz8] at c6
    refine W_skip ?_
    refine InB_normal ?_
    refine zT fun ds => ?_
    refine zD hF (y_add rf rf ui) ?_
    refine zm (.int .i64 _) hF ?_
    refine WS_nil ?_
    exact Loop_next (k + 1) ⟨by omega, fun j h => by by_cases hjk : j = k; (subst hjk; exact inB1.1 c6); exact hj j om0⟩ s10 s20 om0
  ·
   try simp only [qz1, qz2, qz3, qz4, qz5, qz6, qz7, qz8] at c4
   refine W_exit ?_
   refine Then_exit ?_
   refine Loop_exit ?_
   refine InB_same ?_
   refine zS fun ds => ?_
   refine za (.bool _) hF ?_
   refine zN ?_
   refine W_ret ?_
   refine Fin_ret [.bool _] [] Try.results14 ⟨by rfl, trivial⟩ HSub.nil ?_
   show Value.bool _ = _
   unfold oftB
   rw [hl, c1, inB_all.2 fun j h => hj j om0]; rfl
theorem wsame_any (a a' : Option Addr) (n n' cap cap' : Nat) (xs ys : List Int) (w : World) (hn : n ≤ 1000000) (hx : Ints w a n cap xs) (hy : Ints w a' n' cap' ys) :
  Ct Try.prog 7 #[.slice a n cap, .slice a' n' cap'] w fun v _ => v = .bool (decide (xs = ys)) := by
 have hF := wide_wide
 refine Ct_start (args := [_, _]) Try.func7 rf Try.ntmps7 rf ?_
 refine zR fun ds => ?_
 refine za (.bool _) hF ?_
 refine zO ?_
 refine zR fun ds => ?_
 refine zm (.slice _ _ _) hF ?_
 refine zD hF (y_len rf Try.runUnderlying22) ?_
 refine zm (.slice _ _ _) hF ?_
 refine zD hF (y_len rf Try.runUnderlying22) ?_
 refine zD hF (y_neq rf rf) ?_
 refine zN ?_
 refine W_cond rf (fun c1 => ?_) (fun c1 => ?_)
 ·
  try simp only [qz1, qz2, qz3, qz4, qz5, qz6, qz7, qz8] at c1
  refine zR fun ds => ?_
  refine za (.bool _) hF ?_
  refine zN ?_
  refine W_ret ?_
  refine Then_ret ?_
  refine Fin_ret [.bool _] [] Try.results7 ⟨by rfl, trivial⟩ HSub.nil ?_
  show Value.bool _ = _
  rw [decide_eq_false]
  intro h
  have h1 := hx.len
  have h2 := hy.len
  rw [h] at h1
  omega
 ·
  try simp only [qz1, qz2, qz3, qz4, qz5, qz6, qz7, qz8] at c1
  obtain rfl : n = n' := by omega
  refine zU ?_
  refine W_seq ?_
  refine zR fun ds => ?_
  refine za (.int .i64 _) hF ?_
  refine zN ?_
  refine W_block ?_
  refine W_loop (γ := Nat) (fun k => k ≤ n ∧ ∀ j, j < k → xs.getD j 0 = ys.getD j 0) (fun k => [(5, .int .i64 (k : Int)), (0, .slice a n cap), (1, .slice a' n cap')]) (fun _ => _) (fun k => n - k) (0) ⟨Nat.zero_le _, fun j h => absurd h (Nat.not_lt_zero _)⟩ s10 (List.Sublist.refl _) ?_
  rintro k e ⟨hk, hj⟩
  refine W_seq ?_
  refine zR fun ds => ?_
  refine zm (.int .i64 _) hF ?_
  refine zm (.slice _ _ _) hF ?_
  refine zD hF (y_len rf Try.runUnderlying22) ?_
  refine zD hF (y_lss rf rf) ?_
  refine zN ?_
  refine W_cond rf (fun c4 => ?_) (fun c4 => ?_)
  ·
   try simp only [qz1, qz2, qz3, qz4, qz5, qz6, qz7, qz8] at c4
   obtain ⟨b, o, rfl, h1⟩ := hx.cell k om0
   obtain ⟨b', o', rfl, h2⟩ := hy.cell k om0
   refine zU ?_
   refine W_seq ?_
   refine W_block ?_
   refine W_seq ?_
   refine W_draw0 hF Trymixed [] (by decide +kernel) (fun ds => ?_)
   refine P_det rf (Over_nil (y_move (c := .slice _ _ _) rf)) ?_
   refine P_det rf (Over_nil (y_move (c := .int .i64 _) rf)) ?_
   refine P_det rf (Over_nil (y_index (k := k) rf rf (by first | rfl | omega) (by first | decide | omega) Try.runUnderlying22 Try.sizeOf3)) ?_
   refine P_det rf (Over_nil (y_load1 rf Try.isAgg3 (by first | exact Mem.old1 (by assumption) | exact Mem.oldAt1 (by assumption) rf | exact Mem.old (by assumption) | exact Mem.oldAtL1 (by assumption) rf rf))) ?_
   refine P_det rf (Over_nil (y_move (c := .slice _ _ _) rf)) ?_
   refine P_det rf (Over_nil (y_move (c := .int .i64 _) rf)) ?_
   refine P_det rf (Over_nil (y_index (k := k) rf rf (by first | rfl | omega) (by first | decide | omega) Try.runUnderlying22 Try.sizeOf3)) ?_
   refine P_det rf (Over_nil (y_load1 rf Try.isAgg3 (by first | exact Mem.old1 (by assumption) | exact Mem.oldAt1 (by assumption) rf | exact Mem.old (by assumption) | exact Mem.oldAtL1 (by assumption) rf rf))) ?_
   refine P_det rf (Over_nil (y_neq rf rf)) ?_
   refine PW_end rf ?_
   refine OverAll_nil ?_
   rintro -
   refine Then_normal ?_
   refine W_cond rf (fun c6 => ?_) (fun c6 => ?_)
   ·
    try simp only [qz1, qz2, qz3, qz4, qz5, qz6, qz7, qz8] at c6
    refine zR fun ds => ?_
    refine za (.bool _) hF ?_
    refine zN ?_
    refine W_ret ?_
    refine InB_ret ?_
    refine Then_ret ?_
    refine Loop_ret ?_
    refine InB_ret ?_
    refine Then_ret ?_
    refine Fin_ret [.bool _] [] Try.results7 ⟨by rfl, trivial⟩ HSub.nil ?_
    show Value.bool _ = _
    rw [decide_eq_false]
    intro h
    exact c6 (by rw [h])
   ·
    try simp only [qz1, qz2, qz3, qz4, qz5, qz6, qz7, qz8] at c6
    refine W_skip ?_
    refine InB_normal ?_
    refine zT fun ds => ?_
    refine zm (.int .i64 _) hF ?_
    refine zD hF (y_add rf rf ui) ?_
    refine za (.int .i64 _) hF ?_
    refine WS_nil ?_
    exact Loop_next (k + 1) ⟨by omega, fun j h => by by_cases hjk : j = k; (subst hjk; exact c6); exact hj j om0⟩ s10 s20 om0
  ·
   try simp only [qz1, qz2, qz3, qz4, qz5, qz6, qz7, qz8] at c4
   refine W_exit ?_
   refine Then_exit ?_
   refine Loop_exit ?_
   refine InB_same ?_
   refine zS fun ds => ?_
   refine za (.bool _) hF ?_
   refine zN ?_
   refine W_ret ?_
   refine Fin_ret [.bool _] [] Try.results7 ⟨by rfl, trivial⟩ HSub.nil ?_
   show Value.bool _ = _
   rw [decide_eq_true]
   have hkn : k = n := by omega
   subst hkn
   refine List.ext_getElem (hx.len.trans hy.len.symm) fun j h1 h2 => ?_
   have := hj j (by rw [← hx.len]; exact h1)
   simpa [List.getD_eq_getElem?_getD, h1, h2] using this
theorem stexts_any (a a' : Option Addr) (n n' cap cap' : Nat) (xs ys : List Str) (w : World) (hn : n ≤ 1000000) (hx : Txs w a n cap xs) (hy : Txs w a' n' cap' ys) :
  Ct Try.prog 6 #[.slice a n cap, .slice a' n' cap'] w fun v _ => v = .bool (decide (xs = ys)) := by
 have hF := wide_wide
 refine Ct_start (args := [_, _]) Try.func6 rf Try.ntmps6 rf ?_
 refine zR fun ds => ?_
 refine za (.bool _) hF ?_
 refine zO ?_
 refine zR fun ds => ?_
 refine zm (.slice _ _ _) hF ?_
 refine zD hF (y_len rf Try.runUnderlying23) ?_
 refine zm (.slice _ _ _) hF ?_
 refine zD hF (y_len rf Try.runUnderlying23) ?_
 refine zD hF (y_neq rf rf) ?_
 refine zN ?_
 refine W_cond rf (fun c1 => ?_) (fun c1 => ?_)
 ·
  try simp only [qz1, qz2, qz3, qz4, qz5, qz6, qz7, qz8] at c1
  refine zR fun ds => ?_
  refine za (.bool _) hF ?_
  refine zN ?_
  refine W_ret ?_
  refine Then_ret ?_
  refine Fin_ret [.bool _] [] Try.results6 ⟨by rfl, trivial⟩ HSub.nil ?_
  show Value.bool _ = _
  rw [decide_eq_false]
  intro h
  have h1 := hx.len
  have h2 := hy.len
  rw [h] at h1
  omega
 ·
  try simp only [qz1, qz2, qz3, qz4, qz5, qz6, qz7, qz8] at c1
  obtain rfl : n = n' := by omega
  refine zU ?_
  refine W_seq ?_
  refine zR fun ds => ?_
  refine za (.int .i64 _) hF ?_
  refine zN ?_
  refine W_block ?_
  refine W_loop (γ := Nat) (fun k => k ≤ n ∧ ∀ j, j < k → xs.getD j [] = ys.getD j []) (fun k => [(5, .int .i64 (k : Int)), (0, .slice a n cap), (1, .slice a' n cap')]) (fun _ => _) (fun k => n - k) (0) ⟨Nat.zero_le _, fun j h => absurd h (Nat.not_lt_zero _)⟩ s10 (List.Sublist.refl _) ?_
  rintro k e ⟨hk, hj⟩
  refine W_seq ?_
  refine zR fun ds => ?_
  refine zm (.int .i64 _) hF ?_
  refine zm (.slice _ _ _) hF ?_
  refine zD hF (y_len rf Try.runUnderlying23) ?_
  refine zD hF (y_lss rf rf) ?_
  refine zN ?_
  refine W_cond rf (fun c4 => ?_) (fun c4 => ?_)
  ·
   try simp only [qz1, qz2, qz3, qz4, qz5, qz6, qz7, qz8] at c4
   obtain ⟨b, o, rfl, h1⟩ := hx.cell k om0
   obtain ⟨b', o', rfl, h2⟩ := hy.cell k om0
   change At w b _ [sv (xs.getD k [])] at h1
   change At w b' _ [sv (ys.getD k [])] at h2
   refine zU ?_
   refine W_seq ?_
   refine W_block ?_
   refine W_seq ?_
   refine W_draw0 hF Trymixed [] (by decide +kernel) (fun ds => ?_)
   refine P_det rf (Over_nil (y_move (c := .slice _ _ _) rf)) ?_
   refine P_det rf (Over_nil (y_move (c := .int .i64 _) rf)) ?_
   refine P_det rf (Over_nil (y_index (k := k) rf rf (by first | rfl | omega) (by first | decide | omega) Try.runUnderlying23 Try.sizeOf9)) ?_
   refine P_det rf (Over_nil (y_load1 rf Try.isAgg9 (by first | exact Mem.old1 (by assumption) | exact Mem.oldAt1 (by assumption) rf | exact Mem.old (by assumption) | exact Mem.oldAtL1 (by assumption) rf rf))) ?_
   refine P_det rf (Over_nil (y_move (c := .slice _ _ _) rf)) ?_
   refine P_det rf (Over_nil (y_move (c := .int .i64 _) rf)) ?_
   refine P_det rf (Over_nil (y_index (k := k) rf rf (by first | rfl | omega) (by first | decide | omega) Try.runUnderlying23 Try.sizeOf9)) ?_
   refine P_det rf (Over_nil (y_load1 rf Try.isAgg9 (by first | exact Mem.old1 (by assumption) | exact Mem.oldAt1 (by assumption) rf | exact Mem.old (by assumption) | exact Mem.oldAtL1 (by assumption) rf rf))) ?_
   refine P_det rf (Over_nil (y_sneq rf rf)) ?_
   refine PW_end rf ?_
   refine OverAll_nil ?_
   rintro -
   refine Then_normal ?_
   refine W_cond rf (fun c6 => ?_) (fun c6 => ?_)
   ·
    try simp only [qz1, qz2, qz3, qz4, qz5, qz6, qz7, qz8] at c6
    refine zR fun ds => ?_
    refine za (.bool _) hF ?_
    refine zN ?_
    refine W_ret ?_
    refine InB_ret ?_
    refine Then_ret ?_
    refine Loop_ret ?_
    refine InB_ret ?_
    refine Then_ret ?_
    refine Fin_ret [.bool _] [] Try.results6 ⟨by rfl, trivial⟩ HSub.nil ?_
    show Value.bool _ = _
    rw [decide_eq_false]
    intro h
    exact c6 (by rw [h])
   ·
    try simp only [qz1, qz2, qz3, qz4, qz5, qz6, qz7, qz8] at c6
    refine W_skip ?_
    refine InB_normal ?_
    refine zT fun ds => ?_
    refine zm (.int .i64 _) hF ?_
    refine zD hF (y_add rf rf ui) ?_
    refine za (.int .i64 _) hF ?_
    refine WS_nil ?_
    exact Loop_next (k + 1) ⟨by omega, fun j h => by by_cases hjk : j = k; (subst hjk; exact c6); exact hj j om0⟩ s10 s20 om0
  ·
   try simp only [qz1, qz2, qz3, qz4, qz5, qz6, qz7, qz8] at c4
   refine W_exit ?_
   refine Then_exit ?_
   refine Loop_exit ?_
   refine InB_same ?_
   refine zS fun ds => ?_
   refine za (.bool _) hF ?_
   refine zN ?_
   refine W_ret ?_
   refine Fin_ret [.bool _] [] Try.results6 ⟨by rfl, trivial⟩ HSub.nil ?_
   show Value.bool _ = _
   rw [decide_eq_true]
   have hkn : k = n := by omega
   subst hkn
   refine List.ext_getElem (hx.len.trans hy.len.symm) fun j h1 h2 => ?_
   have := hj j (by rw [← hx.len]; exact h1)
   simpa [List.getD_eq_getElem?_getD, h1, h2] using this
theorem begB_eq (s t : Str) : (if t.length ≤ s.length then decide (s.take t.length = t) else false) = begB s t := by
 unfold begB
 split
 ·rename_i h
  rw [decide_eq_decide, beg_iff]
  exact ⟨fun h1 => ⟨h, h1⟩, fun h1 => h1.2⟩
 ·rename_i h
  rw [decide_eq_false]
  rw [beg_iff]
  exact fun h1 => h h1.1
theorem hpl_any (s t : Str) (w : World) : Ct Try.prog 31 #[sv s, sv t] w fun v _ => v = .bool (begB s t) := by
 have hb := begB_eq s t
 have hF := wide_wide
 refine Ct_start (args := [_, _]) Try.func31 rf Try.ntmps31 rf ?_
 refine zR fun ds => ?_
 refine za (.bool _) hF ?_
 refine zP fun ds => ?_
 refine zm (sv _) hF ?_
 refine zD hF (y_slen rf Try.runUnderlying9) ?_
 refine zm (sv _) hF ?_
 refine zD hF (y_slen rf Try.runUnderlying9) ?_
 refine zD hF (y_geq rf rf) ?_
 refine zm (.bool _) hF ?_
 refine WS_split 10 rf (fun g1_5 => ?_) (fun g1_5 => ?_)
 ·
  try simp only [qz1, qz2, qz3, qz4, qz5, qz6, qz7, qz8] at g1_5
  refine zm (sv _) hF ?_
  refine zm (sv _) hF ?_
  refine zD hF (y_slen rf Try.runUnderlying9) ?_
  refine zD hF (y_sslice_hi  rf rf (by first | rfl | omega) om0 Try.runUnderlying9) ?_
  refine zm (sv _) hF ?_
  refine zD hF (y_seql rf rf) ?_
  refine zD hF (zpk (.bool _)) ?_
  refine za (.bool _) hF ?_
  refine zN ?_
  refine W_ret ?_
  refine Fin_ret [.bool _] [] Try.results31 ⟨by rfl, trivial⟩ HSub.nil ?_
  show Value.bool _ = _
  rw [← hb]
  first
   | rw [if_pos om0]
   | rw [if_neg om0]
 ·
  try simp only [qz1, qz2, qz3, qz4, qz5, qz6, qz7, qz8] at g1_5
  refine zno hF ?_
  refine zno hF ?_
  refine zno hF ?_
  refine zno hF ?_
  refine zno hF ?_
  refine zno hF ?_
  refine zD hF (zpk (.bool _)) ?_
  refine za (.bool _) hF ?_
  refine zN ?_
  refine W_ret ?_
  refine Fin_ret [.bool _] [] Try.results31 ⟨by rfl, trivial⟩ HSub.nil ?_
  show Value.bool _ = _
  rw [← hb]
  first
   | rw [if_pos om0]
   | rw [if_neg om0]
theorem hp_any (s t : Str) (w : World) : Ct Try.prog 22 #[sv s, sv t] w fun v _ => v = .bool (begB s t) := by
 have hF := wide_wide
 refine Ct_start (args := [_, _]) Try.func22 rf Try.ntmps22 rf ?_
 refine zR fun ds => ?_
 refine za (.bool _) hF ?_
 refine zP fun ds => ?_
 refine zm (sv _) hF ?_
 refine zm (sv _) hF ?_
 refine zD hF (y_callL rf rf Try.call31 (fun w hw => hpl_any _ _ w)) ?_
 refine za (.bool _) hF ?_
 refine zN ?_
 refine W_ret ?_
 refine Fin_ret [.bool _] [] Try.results22 ⟨by rfl, trivial⟩ HSub.nil ?_
 rfl
theorem beg_any (s t : Str) (w : World) : Ct Try.prog 32 #[sv s, sv t] w fun v _ => v = .bool (begB s t) := by
 have hb := begB_eq s t
 have hF := wide_wide
 refine Ct_start (args := [_, _]) Try.func32 rf Try.ntmps32 rf ?_
 refine zR fun ds => ?_
 refine za (.bool _) hF ?_
 refine zP fun ds => ?_
 refine zm (sv _) hF ?_
 refine zD hF (y_slen rf Try.runUnderlying9) ?_
 refine zm (sv _) hF ?_
 refine zD hF (y_slen rf Try.runUnderlying9) ?_
 refine zD hF (y_geq rf rf) ?_
 refine zm (.bool _) hF ?_
 refine WS_split 10 rf (fun g1_5 => ?_) (fun g1_5 => ?_)
 ·
  try simp only [qz1, qz2, qz3, qz4, qz5, qz6, qz7, qz8] at g1_5
  refine zm (sv _) hF ?_
  refine zm (sv _) hF ?_
  refine zD hF (y_slen rf Try.runUnderlying9) ?_
  refine zD hF (y_sslice_hi  rf rf (by first | rfl | omega) om0 Try.runUnderlying9) ?_
  refine zm (sv _) hF ?_
  refine zD hF (y_seql rf rf) ?_
  refine zD hF (zpk (.bool _)) ?_
  refine za (.bool _) hF ?_
  refine zN ?_
  refine W_ret ?_
  refine Fin_ret [.bool _] [] Try.results32 ⟨by rfl, trivial⟩ HSub.nil ?_
  show Value.bool _ = _
  rw [← hb]
  first
   | rw [if_pos om0]
   | rw [if_neg om0]
 ·
  try simp only [qz1, qz2, qz3, qz4, qz5, qz6, qz7, qz8] at g1_5
  refine zno hF ?_
  refine zno hF ?_
  refine zno hF ?_
  refine zno hF ?_
  refine zno hF ?_
  refine zno hF ?_
  refine zD hF (zpk (.bool _)) ?_
  refine za (.bool _) hF ?_
  refine zN ?_
  refine W_ret ?_
  refine Fin_ret [.bool _] [] Try.results32 ⟨by rfl, trivial⟩ HSub.nil ?_
  show Value.bool _ = _
  rw [← hb]
  first
   | rw [if_pos om0]
   | rw [if_neg om0]
theorem bs23_0  : ∀ w, (Instr.buildSlice 23 0 #[]).run Try.prog w = .ok (.slice (some ⟨w.heap.size, 0, none⟩) 0 0) (w.alloc (CB [] 9)) := fun w => by kernel_rfl
theorem rfree_any (a : Option Addr) (n cap : Nat) (xs : List Str) (w : World) (hn : n ≤ 1000000) (hx : Txs w a n cap xs) :
  Ct Try.prog 25 #[.slice a n cap] w fun v _ => v = .bool (freeB xs) := by
 have hl := hx.len
 have hF := wide_wide
 refine Ct_start (args := [_]) Try.func25 rf Try.ntmps25 rf ?_
 refine zR fun ds => ?_
 refine za (.bool _) hF ?_
 refine zO ?_
 refine zR fun ds => ?_
 refine za (.int .i64 _) hF ?_
 refine zN ?_
 refine W_block ?_
 refine W_loop (γ := Nat) (fun i => i ≤ n ∧ ∀ p q, p < i → q < n → p ≠ q → begB (xs.getD p []) (xs.getD q []) = false) (fun i => [(0, .slice a n cap), (3, .int .i64 (i : Int))]) (fun _ => _) (fun i => n - i) (0) ⟨Nat.zero_le _, fun p q h => absurd h (Nat.not_lt_zero _)⟩ s10 (List.Sublist.refl _) ?_
 rintro i e ⟨hi, hp⟩
 refine W_seq ?_
 refine zR fun ds => ?_
 refine zm (.int .i64 _) hF ?_
 refine zm (.slice _ _ _) hF ?_
 refine zD hF (y_len rf Try.runUnderlying23) ?_
 refine zD hF (y_lss rf rf) ?_
 refine zN ?_
 refine W_cond rf (fun c2 => ?_) (fun c2 => ?_)
 ·
  try simp only [qz1, qz2, qz3, qz4, qz5, qz6, qz7, qz8] at c2
  refine zU ?_
  refine W_seq ?_
  refine W_block ?_
  refine zR fun ds => ?_
  refine za (.int .i64 _) hF ?_
  refine zN ?_
  refine W_block ?_
  refine W_loop (γ := Nat) (fun k => k ≤ n ∧ ∀ q, q < k → i ≠ q → begB (xs.getD i []) (xs.getD q []) = false) (fun k => [(0, .slice a n cap), (3, .int .i64 (i : Int)), (4, .int .i64 (k : Int))]) (fun _ => _) (fun k => n - k) (0) ⟨Nat.zero_le _, fun q h => absurd h (Nat.not_lt_zero _)⟩ s10 (List.Sublist.refl _) ?_
  rintro k e ⟨hk, hq⟩
  refine W_seq ?_
  refine zR fun ds => ?_
  refine zm (.int .i64 _) hF ?_
  refine zm (.slice _ _ _) hF ?_
  refine zD hF (y_len rf Try.runUnderlying23) ?_
  refine zD hF (y_lss rf rf) ?_
  refine zN ?_
  refine W_cond rf (fun c5 => ?_) (fun c5 => ?_)
  ·
   try simp only [qz1, qz2, qz3, qz4, qz5, qz6, qz7, qz8] at c5
   obtain ⟨b, o, rfl, h1⟩ := hx.cell i om0
   have h2 := hx.at (k := k) om0
   change At w b _ [sv (xs.getD i [])] at h1
   change At w b _ [sv (xs.getD k [])] at h2
   refine zU ?_
   refine W_seq ?_
   refine W_block ?_
   refine W_seq ?_
   refine W_draw0 hF Trymixed [] (by decide +kernel) (fun ds => ?_)
   refine P_det rf (Over_nil (y_move (c := .int .i64 _) rf)) ?_
   refine P_det rf (Over_nil (y_move (c := .int .i64 _) rf)) ?_
   refine P_det rf (Over_nil (y_neq rf rf)) ?_
   refine P_det rf (Over_nil (y_move (c := .bool _) rf)) ?_
   refine P_split 20 rf (fun g7_3 => ?_) (fun g7_3 => ?_)
   ·
    try simp only [qz1, qz2, qz3, qz4, qz5, qz6, qz7, qz8] at g7_3
    refine P_det rf (Over_nil (y_move (c := .slice _ _ _) rf)) ?_
    refine P_det rf (Over_nil (y_move (c := .int .i64 _) rf)) ?_
    refine P_det rf (Over_nil (y_index (k := i) rf rf (by first | rfl | omega) (by first | decide | omega) Try.runUnderlying23 Try.sizeOf9)) ?_
    refine P_det rf (Over_nil (y_load1 rf Try.isAgg9 (by first | exact Mem.old1 (by assumption) | exact Mem.oldAt1 (by assumption) rf | exact Mem.old (by assumption) | exact Mem.oldAtL1 (by assumption) rf rf))) ?_
    refine P_det rf (Over_nil (y_move (c := .slice _ _ _) rf)) ?_
    refine P_det rf (Over_nil (y_move (c := .int .i64 _) rf)) ?_
    refine P_det rf (Over_nil (y_index (k := k) rf rf (by first | rfl | omega) (by first | decide | omega) Try.runUnderlying23 Try.sizeOf9)) ?_
    refine P_det rf (Over_nil (y_load1 rf Try.isAgg9 (by first | exact Mem.old1 (by assumption) | exact Mem.oldAt1 (by assumption) rf | exact Mem.old (by assumption) | exact Mem.oldAtL1 (by assumption) rf rf))) ?_
    refine P_det rf (Over_nil (y_callL rf rf Try.call32 (fun w hw => beg_any _ _ w))) ?_
    refine P_det rf (Over_nil (by first | exact y_pick_t (c := .bool _) rf rf | exact y_pick_f (c := .bool _) rf rf)) ?_
    refine PW_end rf ?_
    refine OverAll_nil ?_
    rintro -
    refine Then_normal ?_
    refine W_cond rf (fun c7 => ?_) (fun c7 => ?_)
    ·
     try simp only [qz1, qz2, qz3, qz4, qz5, qz6, qz7, qz8] at c7
     refine zR fun ds => ?_
     refine za (.bool _) hF ?_
     refine zN ?_
     refine W_ret ?_
     refine InB_ret ?_
     refine Then_ret ?_
     refine Loop_ret ?_
     refine InB_ret ?_
     refine InB_ret ?_
     refine Then_ret ?_
     refine Loop_ret ?_
     refine InB_ret ?_
     refine Then_ret ?_
     refine Fin_ret [.bool _] [] Try.results25 ⟨by rfl, trivial⟩ HSub.nil ?_
     show Value.bool _ = _
     rw [freeB_no (l := xs) (i := i) (k := k) om0 om0 om0 c7]
    ·
     try simp only [qz1, qz2, qz3, qz4, qz5, qz6, qz7, qz8] at c7
     have hq2 : ∀ q, q < k + 1 → i ≠ q → begB (xs.getD i []) (xs.getD q []) = false := fun q h hne => by
      obtain h | rfl : q < k ∨ q = k := by omega
      ·exact hq q h hne
      ·first
        | exact c7
        | exact absurd hne om0
     refine W_skip ?_
     refine InB_normal ?_
     refine zT fun ds => ?_
     refine zm (.int .i64 _) hF ?_
     refine zD hF (y_add rf rf ui) ?_
     refine za (.int .i64 _) hF ?_
     refine WS_nil ?_
     exact Loop_next (k + 1) ⟨by omega, hq2⟩ s10 s20 om0
   ·
    try simp only [qz1, qz2, qz3, qz4, qz5, qz6, qz7, qz8] at g7_3
    refine P_no rf ?_
    refine P_no rf ?_
    refine P_no rf ?_
    refine P_no rf ?_
    refine P_no rf ?_
    refine P_no rf ?_
    refine P_no rf ?_
    refine P_no rf ?_
    refine P_no rf ?_
    refine P_det rf (Over_nil (by first | exact y_pick_t (c := .bool _) rf rf | exact y_pick_f (c := .bool _) rf rf)) ?_
    refine PW_end rf ?_
    refine OverAll_nil ?_
    rintro -
    refine Then_normal ?_
    refine W_cond rf (fun c7 => ?_) (fun c7 => ?_)
    ·cases c7
    ·
     try simp only [qz1, qz2, qz3, qz4, qz5, qz6, qz7, qz8] at c7
     have hq2 : ∀ q, q < k + 1 → i ≠ q → begB (xs.getD i []) (xs.getD q []) = false := fun q h hne => by
      obtain h | rfl : q < k ∨ q = k := by omega
      ·exact hq q h hne
      ·first
        | exact c7
        | exact absurd hne om0
     refine W_skip ?_
     refine InB_normal ?_
     refine zT fun ds => ?_
     refine zm (.int .i64 _) hF ?_
     refine zD hF (y_add rf rf ui) ?_
     refine za (.int .i64 _) hF ?_
     refine WS_nil ?_
     exact Loop_next (k + 1) ⟨by omega, hq2⟩ s10 s20 om0
  ·
   try simp only [qz1, qz2, qz3, qz4, qz5, qz6, qz7, qz8] at c5
   have hp2 : ∀ p q, p < i + 1 → q < n → p ≠ q → begB (xs.getD p []) (xs.getD q []) = false := fun p q h h2 hne => by
    obtain h | rfl : p < i ∨ p = i := by omega
    ·exact hp p q h h2 hne
    ·exact hq q om0 hne
   refine W_exit ?_
   refine Then_exit ?_
   refine Loop_exit ?_
   refine InB_same ?_
   refine InB_normal ?_
   refine zT fun ds => ?_
   refine zm (.int .i64 _) hF ?_
   refine zD hF (y_add rf rf ui) ?_
   refine za (.int .i64 _) hF ?_
   refine WS_nil ?_
   exact Loop_next (i + 1) ⟨by omega, hp2⟩ s10 s20 om0
 ·
  try simp only [qz1, qz2, qz3, qz4, qz5, qz6, qz7, qz8] at c2
  refine W_exit ?_
  refine Then_exit ?_
  refine Loop_exit ?_
  refine InB_same ?_
  refine zS fun ds => ?_
  refine za (.bool _) hF ?_
  refine zN ?_
  refine W_ret ?_
  refine Fin_ret [.bool _] [] Try.results25 ⟨by rfl, trivial⟩ HSub.nil ?_
  show Value.bool _ = _
  rw [freeB_iff.2 fun p q h1 h2 hne => hp p q om0 om0 hne]
theorem rword_any (n k : Nat) (w : World) (hn : n ≤ 30) (hk : k < 1000000) : Ct Try.prog 24 #[.int .i64 (n : Int), .int .i64 (k : Int)] w fun v _ => v = sv (wordB n k) := by
 have hF := wide_wide
 refine Ct_start (args := [_, _]) Try.func24 rf Try.ntmps24 rf ?_
 refine zR fun ds => ?_
 refine za (sv _) hF ?_
 refine zP fun ds => ?_
 refine za (sv _) hF ?_
 refine zO ?_
 refine zR fun ds => ?_
 refine zm (.int .i64 _) hF ?_
 refine zD hF (y_sub rf rf ui) ?_
 refine za (.int .i64 _) hF ?_
 refine zN ?_
 refine W_block ?_
 refine W_loop (γ := Nat × Str) (fun p => p.1 ≤ n ∧ p.2 ++ wordB p.1 k = wordB n k) (fun p => [(1, .int .i64 (k : Int)), (5, sv p.2), (6, .int .i64 ((p.1 : Int) - 1))]) (fun _ => _) (fun p => p.1) ((n, [])) ⟨Nat.le_refl _, rfl⟩ s10 (List.Sublist.refl _) ?_
 rintro ⟨m, out⟩ e ⟨hm, ho⟩
 refine W_seq ?_
 refine zR fun ds => ?_
 refine zm (.int .i64 _) hF ?_
 refine zD hF (y_geq rf rf) ?_
 refine zN ?_
 refine W_cond rf (fun c3 => ?_) (fun c3 => ?_)
 ·
  try simp only [qz1, qz2, qz3, qz4, qz5, qz6, qz7, qz8] at c3
  simp only at ho hm
  obtain ⟨m, rfl⟩ : ∃ j, m = j + 1 := ⟨m - 1, by omega⟩
  have hlen : out.length + (m + 1) = n := by
   have := congrArg List.length ho
   rw [List.length_append, wordB_len, wordB_len] at this
   exact this
  have hdv : k / 2 ^ m ≤ k := Nat.div_le_self _ _
  rw [show (((m + 1 : Nat) : Int) - 1) = (m : Int) by omega]
  refine zU ?_
  refine W_seq ?_
  refine W_block ?_
  refine zR fun ds => ?_
  refine zm (.int .i64 _) hF ?_
  refine zm (.int .i64 _) hF ?_
  refine zD hF (y_shrW (m := k) (i := m) rf rf om0) ?_
  refine zD hF (y_bitW (m := k / 2 ^ m) rf rf om0) ?_
  refine zD hF (y_eql rf rf) ?_
  refine zN ?_
  refine W_cond rf (fun c5 => ?_) (fun c5 => ?_)
  ·
   try simp only [qz1, qz2, qz3, qz4, qz5, qz6, qz7, qz8] at c5
   have ho2 : (out ++ [45]) ++ wordB m k = wordB n k := by
    rw [← ho, wordB, if_pos om0, List.append_assoc]; rfl
   refine W_region_lit (fun ds => ?_)
   refine zm (sv _) hF ?_
   refine zD hF (y_sadd rf rf (by first | omega | (simp only [List.length_cons, List.length_nil, List.length_append]; omega))) ?_
   refine za (sv _) hF ?_
   refine WS_nil ?_
   refine InB_normal ?_
   refine zT fun ds => ?_
   refine zm (.int .i64 _) hF ?_
   refine zD hF (y_sub rf rf ui) ?_
   refine za (.int .i64 _) hF ?_
   refine WS_nil ?_
   exact Loop_next (m, out ++ [45]) ⟨by simp only; omega, ho2⟩ s10 s20 (by simp only; omega)
  ·
   try simp only [qz1, qz2, qz3, qz4, qz5, qz6, qz7, qz8] at c5
   have ho2 : (out ++ [46]) ++ wordB m k = wordB n k := by
    rw [← ho, wordB, if_neg om0, List.append_assoc]; rfl
   refine W_region_lit (fun ds => ?_)
   refine zm (sv _) hF ?_
   refine zD hF (y_sadd rf rf (by first | omega | (simp only [List.length_cons, List.length_nil, List.length_append]; omega))) ?_
   refine za (sv _) hF ?_
   refine WS_nil ?_
   refine InB_normal ?_
   refine zT fun ds => ?_
   refine zm (.int .i64 _) hF ?_
   refine zD hF (y_sub rf rf ui) ?_
   refine za (.int .i64 _) hF ?_
   refine WS_nil ?_
   exact Loop_next (m, out ++ [46]) ⟨by simp only; omega, ho2⟩ s10 s20 (by simp only; omega)
 ·
  try simp only [qz1, qz2, qz3, qz4, qz5, qz6, qz7, qz8] at c3
  refine W_exit ?_
  refine Then_exit ?_
  refine Loop_exit ?_
  refine InB_same ?_
  refine zS fun ds => ?_
  refine zm (sv _) hF ?_
  refine za (sv _) hF ?_
  refine zN ?_
  refine W_ret ?_
  refine Fin_ret [sv _] [] Try.results24 ⟨by rfl, trivial⟩ HSub.nil ?_
  simp only at ho hm
  obtain rfl : m = 0 := by omega
  show sv out = _
  rw [← ho, wordB, List.append_nil]
theorem infStr : (Try.prog.info? 9).map (fun i => (i.zero, i.size, i.bytes)) = some (some (sv []), 1, 16) := by kernel_rfl
theorem cloneS_any (a : Option Addr) (n cap : Nat) (xs : List Str) (w : World) (hn : n ≤ 1000000) (hx : Txs w a n cap xs) :
  Ct Try.prog 12 #[.slice a n cap] w (NewRow 9 1 n (rowOf sE (fun k => xs.getD k []) n)) := by
 have hlen : (rowOf sE (fun k => xs.getD k []) n).length = n * 1 := rowOf_len sE_len _ _
 have hF := wide_wide
 refine Ct_start (args := [_]) Try.func12 rf Try.ntmps12 rf ?_
 refine zR fun ds => ?_
 refine za (.slice _ _ _) hF ?_
 refine zO ?_
 refine zR fun ds => ?_
 refine zm (.slice _ _ _) hF ?_
 refine zD hF (y_eqlNil rf rf Try.runUnderlying23) ?_
 refine zN ?_
 refine W_cond rf (fun c1 => ?_) (fun c1 => ?_)
 ·
  try simp only [qz1, qz2, qz3, qz4, qz5, qz6, qz7, qz8] at c1
  refine zR fun ds => ?_
  refine za (.slice _ _ _) hF ?_
  refine zN ?_
  refine W_ret ?_
  refine Then_ret ?_
  refine Fin_ret [.slice _ _ _] [] Try.results12 ⟨by rfl, trivial⟩ HSub.nil ?_
  have h0 : n = 0 := by
   rcases Nat.eq_zero_or_pos n with h | h
   ·exact h
   ·obtain ⟨b, o, rfl, _⟩ := hx.cell 0 h
    cases c1
  rw [h0]
  exact ⟨none, 0, rfl, Nat.le_refl _, .inr ⟨rfl, rfl, rfl⟩⟩
 ·
  try simp only [qz1, qz2, qz3, qz4, qz5, qz6, qz7, qz8] at c1
  refine W_skip ?_
  refine zS fun ds => ?_
  refine WS_newS hF rf (y_buildSliceL bs23_0 rf) (fun b1 => ?_)
  refine zm (.slice _ _ _) hF ?_
  refine WS_gen hF rf (y_append0 rf rf Try.underlying23 infStr rf (Rws.src sE_len hx) hlen om0 om0) ?_
  rintro _ Hc ⟨a', cap', rfl, hle, hd⟩
  refine za (.slice _ _ _) hF ?_
  refine zN ?_
  refine W_ret ?_
  refine Fin_ret [.slice _ _ _] Hc Try.results12 ⟨by rfl, trivial⟩ (HSub.sub (by repeat (first | exact List.Sublist.refl _ | exact List.sublist_append_left _ _ | exact List.nil_sublist _ | apply List.Sublist.cons_cons | apply List.Sublist.cons | refine List.Sublist.trans ?_ (List.sublist_append_right _ _)))) ?_
  exact ⟨a', cap', rfl, hle, hd⟩
end Go.Proofs.Ytmpanejghmgoaaa.T
namespace Go.Proofs.Ytmpanejghmgoaaa.T
open Go.RowKit Go.Proofs Go.Eng Go.Shelf Go.Sort
set_option maxRecDepth 100000
set_option maxHeartbeats 1000000
def snR : Go.Shelf.Ren := ⟨fun n => match n with
 | 54 => 29
 | 61 => 43
 | 64 => 36
 | 65 => 35
 | 69 => 53
 | 78 => 46
 | 79 => 47
 | 80 => 37
 | 81 => 38
 | 82 => 39
 | 83 => 40
 | 84 => 41
 | 85 => 42
 | 86 => 44
 | 87 => 45
 | 89 => 49
 | 90 => 50
 | 93 => 48
 | 94 => 51
 | 95 => 52
 | 97 => 54
 | _ => 0, fun n => match n with
 | 0 => 0
 | 3 => 3
 | 4 => 4
 | 5 => 5
 | 9 => 9
 | 25 => 23
 | 26 => 9
 | 44 => 68
 | 51 => 61
 | 60 => 63
 | 61 => 64
 | 67 => 71
 | 69 => 73
 | 75 => 74
 | 79 => 78
 | 83 => 80
 | 84 => 81
 | _ => 0, fun x => x⟩
theorem snL : SlLaysN.n54 Try.prog snR where
 mixed := by kernel_rfl
 f54 := ⟨Try.f29.name, by kernel_rfl, (Try.func29).trans (congrArg some (by kernel_rfl))⟩
 f61 := ⟨Try.f43.name, by kernel_rfl, (Try.func43).trans (congrArg some (by kernel_rfl))⟩
 f64 := (Try.func36).trans (congrArg some (by kernel_rfl))
 f65 := ⟨Try.f35.name, by kernel_rfl, (Try.func35).trans (congrArg some (by kernel_rfl))⟩
 f69 := ⟨Try.f53.name, by kernel_rfl, (Try.func53).trans (congrArg some (by kernel_rfl))⟩
 f78 := (Try.func46).trans (congrArg some (by kernel_rfl))
 f79 := (Try.func47).trans (congrArg some (by kernel_rfl))
 f80 := ⟨Try.f37.name, by kernel_rfl, (Try.func37).trans (congrArg some (by kernel_rfl))⟩
 f81 := ⟨Try.f38.name, by kernel_rfl, (Try.func38).trans (congrArg some (by kernel_rfl))⟩
 f82 := ⟨Try.f39.name, by kernel_rfl, (Try.func39).trans (congrArg some (by kernel_rfl))⟩
 f83 := ⟨Try.f40.name, by kernel_rfl, (Try.func40).trans (congrArg some (by kernel_rfl))⟩
 f84 := ⟨Try.f41.name, by kernel_rfl, (Try.func41).trans (congrArg some (by kernel_rfl))⟩
 f85 := ⟨Try.f42.name, by kernel_rfl, (Try.func42).trans (congrArg some (by kernel_rfl))⟩
 f86 := ⟨Try.f44.name, by kernel_rfl, (Try.func44).trans (congrArg some (by kernel_rfl))⟩
 f87 := ⟨Try.f45.name, by kernel_rfl, (Try.func45).trans (congrArg some (by kernel_rfl))⟩
 f89 := (Try.func49).trans (congrArg some (by kernel_rfl))
 f90 := (Try.func50).trans (congrArg some (by kernel_rfl))
 f93 := ⟨Try.f48.name, by kernel_rfl, (Try.func48).trans (congrArg some (by kernel_rfl))⟩
 f94 := ⟨Try.f51.name, by kernel_rfl, (Try.func51).trans (congrArg some (by kernel_rfl))⟩
 f95 := ⟨Try.f52.name, by kernel_rfl, (Try.func52).trans (congrArg some (by kernel_rfl))⟩
 f97 := ⟨Try.f54.name, by kernel_rfl, (Try.func54).trans (congrArg some (by kernel_rfl))⟩
 t0 := by kernel_rfl
 a0 := fun w => by kernel_rfl
 z0 := fun w => by kernel_rfl
 v0 := fun w => by kernel_rfl
 t3 := by kernel_rfl
 a3 := fun w => by kernel_rfl
 z3 := fun w => by kernel_rfl
 v3 := fun w => by kernel_rfl
 t4 := by kernel_rfl
 a4 := fun w => by kernel_rfl
 z4 := fun w => by kernel_rfl
 v4 := fun w => by kernel_rfl
 t5 := by kernel_rfl
 a5 := fun w => by kernel_rfl
 z5 := fun w => by kernel_rfl
 v5 := fun w => by kernel_rfl
 t9 := by kernel_rfl
 a9 := fun w => by kernel_rfl
 z9 := fun w => by kernel_rfl
 v9 := fun w => by kernel_rfl
 t25 := by kernel_rfl
 a25 := fun w => by kernel_rfl
 z25 := fun w => by kernel_rfl
 v25 := fun w => by kernel_rfl
 t26 := by kernel_rfl
 a26 := fun w => by kernel_rfl
 z26 := fun w => by kernel_rfl
 v26 := fun w => by kernel_rfl
 t44 := by kernel_rfl
 a44 := fun w => by kernel_rfl
 z44 := fun w => by kernel_rfl
 v44 := fun w => by kernel_rfl
 t51 := by kernel_rfl
 a51 := fun w => by kernel_rfl
 z51 := fun w => by kernel_rfl
 v51 := fun w => by kernel_rfl
 t60 := by kernel_rfl
 a60 := fun w => by kernel_rfl
 z60 := fun w => by kernel_rfl
 v60 := fun w => by kernel_rfl
 t61 := by kernel_rfl
 a61 := fun w => by kernel_rfl
 z61 := fun w => by kernel_rfl
 v61 := fun w => by kernel_rfl
 t67 := by kernel_rfl
 a67 := fun w => by kernel_rfl
 z67 := fun w => by kernel_rfl
 v67 := fun w => by kernel_rfl
 t69 := by kernel_rfl
 a69 := fun w => by kernel_rfl
 z69 := fun w => by kernel_rfl
 v69 := fun w => by kernel_rfl
 t75 := by kernel_rfl
 a75 := fun w => by kernel_rfl
 z75 := fun w => by kernel_rfl
 v75 := fun w => by kernel_rfl
 t79 := by kernel_rfl
 a79 := fun w => by kernel_rfl
 z79 := fun w => by kernel_rfl
 v79 := fun w => by kernel_rfl
 t83 := by kernel_rfl
 a83 := fun w => by kernel_rfl
 z83 := fun w => by kernel_rfl
 v83 := fun w => by kernel_rfl
 t84 := by kernel_rfl
 a84 := fun w => by kernel_rfl
 z84 := fun w => by kernel_rfl
 v84 := fun w => by kernel_rfl
theorem swapW_map {w : World} {b T : Nat} {vs us : List Value} {f : Array Value → Array Value} (h : w.heap[b]? = some (CB vs T)) (hf : f vs.toArray = us.toArray) : Swap [(b, CB vs T)] [(b, CB us T)] w (Sort.mapBlock w b f) :=
 ⟨rfl, rfl, rfl, rfl, by simp [Sort.mapBlock], fun k hk => by
  have hk' : b ≠ k := fun e => hk (by simp [e])
  simp [Sort.mapBlock, Array.getElem?_modify, hk'], fun x hx => by
  simp only [List.mem_singleton] at hx
  subst hx
  simp only [Sort.mapBlock, Array.getElem?_modify, if_pos, h]
  show some (Sort.onCells f (CB vs T)) = some (CB us T)
  unfold CB
  simp only [Sort.onCells, hf], fun x hx => by
  simp only [List.mem_singleton] at hx
  subst hx
  unfold CB
  simp⟩
theorem stW_mapRow {C : Ctx} {X : List Blk} {w : World} {b T : Nat} {vs us : List Value} {f : Array Value → Array Value} (h : St C ((b, CB vs T) :: X) w) (hf : f vs.toArray = us.toArray) : St C ((b, CB us T) :: X) (Sort.mapBlock w b f) := by
 have hs := swapW_map (f := f) (h.get (i := 0) rfl) hf
 exact ⟨swap_below (X := X) hs h.2 h.1, swap_ok (X := X) hs h.2, swap_marks (X := X) hs h.2 h.3⟩
theorem stW_ahead {C : Ctx} {H : List Blk} {w : World} (h : St C H w) : ∀ n, St C H (Sort.ahead w n)
 | 0 => h
 | n + 1 => by rw [← Sort.ahead_drew]; exact (stW_ahead h n).drew
theorem stW_more {C : Ctx} {H : List Blk} {w : World} (h : St C H w) (os : Array Obj) : St C H (Sort.grow w os) := by
 have hb : Below w.heap.size w (Sort.grow w os) := ⟨rfl, rfl, rfl, by simp [Sort.grow], fun k hk => by simp [Sort.grow, Array.getElem?_append_left hk]⟩
 exact h.grow (Hn := []) hb (HOk.nil _ _)
def sL (xs : List Str) : List Value := xs.map sv
theorem sL_row : ∀ (xs : List Str), rowOf sE (fun k => xs.getD k []) xs.length = sL xs := by
 intro xs
 have key : ∀ m, m ≤ xs.length → rowOf sE (fun k => xs.getD k []) m = sL (xs.take m) := by
  intro m
  induction m with
  | zero => intro _; rfl
  | succ m ih =>
   intro h
   have hm : xs.take (m + 1) = xs.take m ++ [xs.getD m []] := by
    rw [List.take_add_one, List.getElem?_eq_getElem om0, List.getD_eq_getElem?_getD, List.getElem?_eq_getElem om0]; rfl
   rw [rowOf_succ, ih om0, hm]
   unfold sL
   rw [List.map_append]; rfl
 rw [key xs.length (Nat.le_refl _), List.take_length]
theorem put_sL {xs zs : List Str} {junk : List Value} (hl : zs.length = xs.length) : Sort.putCells encStr 0 zs.toArray (sL xs ++ junk).toArray = (sL zs ++ junk).toArray := by
 have hix : (sL xs).length = xs.length := List.length_map _
 have hiz : (sL zs).length = zs.length := List.length_map _
 apply Array.ext
 ·simp [Sort.putCells, hix, hiz, hl]
 ·intro k h1 h2
  simp only [Sort.putCells, Array.getElem_mapIdx, List.getElem_toArray, List.size_toArray, Nat.zero_add, Nat.zero_le, true_and, Nat.sub_zero]
  by_cases hk : k < zs.length
  ·rw [if_pos hk, List.getElem_append_left om0]
   simp only [sL, List.getElem_map, hk, getElem!_pos, List.getElem_toArray, List.size_toArray]
   rfl
  ·rw [if_neg hk, List.getElem_append_right om0, List.getElem_append_right om0]
   congr 1
   omega
theorem holds_sL {w : World} {b T : Nat} {xs : List Str} {junk : List Value} (h : w.heap[b]? = some (CB (sL xs ++ junk) T)) : Sort.Holds encStr w b 0 xs.toArray := fun j hj => by
 simp only [List.size_toArray] at hj
 have h2 : At w b 0 (sL xs) := at_block (rest := junk) h rfl
 refine ⟨?_, ?_⟩
 ·have := h2.get j (sv xs[j]) (by simp [sL, hj])
  simpa [hj, sv, encStr] using this
 ·unfold World.frozen?
  rw [h]
  unfold CB
  simp
def sortS (xs : List Str) : List Str := xs.mergeSort fun x y => decide (x ≤ y)
theorem sortS_len (xs : List Str) : (sortS xs).length = xs.length := by unfold sortS; simp
theorem sortS_perm (xs : List Str) : (sortS xs).Perm xs := List.mergeSort_perm _ _
theorem sortS_le (xs : List Str) : (sortS xs).Pairwise (· ≤ ·) := by
 have := List.pairwise_mergeSort (le := fun (x y : Str) => decide (x ≤ y)) (fun a b c h1 h2 => by
  simp only [decide_eq_true_eq] at h1 h2 ⊢
  exact List.le_trans h1 h2) (fun a b => by
  simp only [Bool.or_eq_true, decide_eq_true_eq]
  exact List.le_total a b) xs
 exact this.imp fun h => by simpa using h
theorem sortS_cs (w0 : World) (ds0 out0 : List Deferred) (b T cap : Nat) (xs : List Str) (junk : List Value) (G : List Blk) (hn : xs.length ≤ 1000000) :
  Cs ⟨Try.prog, w0, ds0, out0⟩ 29 #[.slice (some ⟨b, 0, none⟩) xs.length cap] ((b, CB (sL xs ++ junk) T) :: G) fun v Hn => v = .tuple #[] ∧ Hn = (b, CB (sL (sortS xs) ++ junk) T) :: G := fun w hw => by
 have hh := hw.get (i := 0) rfl
 refine Calls.mono (AnyG.slices_Sort_string snL b 0 cap xs w (holds_sL hh) (Array.getElem?_eq_some_iff.1 hh).1 om0) ?_
 rintro e w' ⟨rfl, n, os, rfl⟩
 exact ⟨_, _, rfl, stW_more (stW_mapRow (stW_ahead hw n) (put_sL (sortS_len xs))) os, rfl, rfl⟩
end Go.Proofs.Ytmpanejghmgoaaa.T
namespace Go.Eng
open Go.RowKit
section
variable {K : Type} [DecidableEq K] {l : List (EntK K)} {seen : Array Nat} {y : EntK K}
def leftL (l : List (EntK K)) (seen : Array Nat) : Nat := (l.filter fun x => !decide (x.2.2 ∈ seen)).length
omit [DecidableEq K] in
structure Copied (ls ld l : List (EntK K)) (seen : Array Nat) : Prop where
 yes : ∀ y ∈ ls, y.2.2 ∈ seen → lookK y.1 l = some y.2.1
 no : ∀ k, (∀ y ∈ ls, y.1 = k → y.2.2 ∉ seen) → lookK k l = lookK k ld
theorem Copied.nil (ls ld : List (EntK K)) : Copied ls ld ld #[] := ⟨fun _ _ h => (by simp at h), fun _ _ => rfl⟩
theorem Copied.done {ls ld l : List (EntK K)} {seen : Array Nat} (h : Copied ls ld l seen) (hall : ∀ x ∈ ls, x.2.2 ∈ seen) (k : K) : lookK k l = (lookK k ls).or (lookK k ld) := by
 cases hl : lookK k ls with
 | some v =>
  obtain ⟨x, hx, rfl, rfl⟩ := lookK_some hl
  exact h.yes x hx (hall x hx)
 | none =>
  rw [lookK_none] at hl
  exact h.no k fun y hy he => absurd (List.mem_map.2 ⟨y, hy, he⟩) hl
end
end Go.Eng
namespace Go.Eng
open Go.RowKit
section
variable {F : Fence} {n : Nat} {P : Program} {ops : Array Oper} {Q : Exit → Act → World → Prop} {S : World → Prop}
def Off (d : Option Tmp) (a a' : Act) : Prop := ∃ u ds, a' = { a.put d u with defers := ds }
def anyS (F : Fence) (n : Nat) (P : Program) (ops : Array Oper) (Q : Exit → Act → World → Prop) (S : World → Prop) : Nat → Array Bool → Act → World → Prop
 | 0, listed, a, w => Region.ready .any ops listed = [] ∧ Q .normal a w
 | fuel + 1, listed, a, w => (Region.ready .any ops listed = [] → Q .normal a w) ∧
  ∀ j ∈ Region.ready .any ops listed, wpOpIn F n P ops Q j (fun a' w' => S w' ∧ anyS F n P ops Q S fuel (listed.setIfInBounds j true) a' w') a w
structure YieldsS (P : Program) (ops : Array Oper) (S : World → Prop) (o : Oper) (v : Value) (a : Act) : Prop where
 run : ∀ w, S w → (execOp a.eval o).run P w = .ok (.value v) w
 about : ∀ w, o.about P w a.eval = none
end
section
variable {C : Ctx} {F : Fence} {n : Nat} {ds : List Deferred} {ops : Array Oper} {fuel : Nat} {listed : Array Bool} {e : Env} {H H0 : List Blk} {M : Env → List Blk → Prop}
def WH (C : Ctx) (F : Fence) (n : Nat) (ds : List Deferred) (ops : Array Oper) (M : Env → List Blk → Prop) (H0 : List Blk) (fuel : Nat) (listed : Array Bool) (e : Env) (H : List Blk) : Prop :=
 (∀ w, St C H w → St C H0 w) ∧ ∀ w, St C H w → ∀ a, Rep n ds a e → anyS F 0 C.P ops (lift C n ds (OnlyQ M)) (St C H0) fuel listed a w
def YE (C : Ctx) (o : Oper) (e : Env) (H0 : List Blk) (c : Value) : Prop := (∀ w, St C H0 w → (execOp (ev e) o).run C.P w = .ok (.value c) w) ∧ ∀ w, o.about C.P w (ev e) = none
end
end Go.Eng
namespace Go.Eng
open Go.RowKit
section
variable {C : Ctx} {e : Env} {H : List Blk} {d : Option Tmp} {ty : TypeId} {pos : String} {af : Array Edge}
section
variable {x y : Operand} {t t' : TypeId} {m n : Int} {k : IntKind}
end
end
end Go.Eng
namespace Go.Eng
open Go.RowKit
section
variable {C : Ctx} {F : Fence} {n : Nat} {ds : List Deferred} {ops : Array Oper} {fuel : Nat} {listed : Array Bool} {e : Env} {H H' H0 M' L : List Blk} {M : Env → List Blk → Prop} {x : Blk}
theorem St.hsub {w : World} (hs : HSub H H') (hw : St C H w) : St C H' w := ⟨hw.1, hs _ _ hw.2, hw.3⟩
theorem PulL.base : (L ++ M').Perm (L ++ M') := List.Perm.refl _
theorem PulL.cons {y : Blk} (h : H.Perm (L ++ M')) : (y :: H).Perm (L ++ (y :: M')) := (h.cons y).trans List.perm_middle.symm
theorem PulL.app {X : List Blk} (h : H.Perm (L ++ M')) : (X ++ H).Perm (L ++ (X ++ M')) := (h.append_left X).trans (by rw [← List.append_assoc, ← List.append_assoc]; exact List.perm_append_comm.append_right M')
theorem PulE.one : L.Perm ([] ++ L) := List.Perm.refl _
theorem PulE.hd {M : List Blk} : (L ++ M).Perm (M ++ L) := List.perm_append_comm
theorem PulE.cons {y : Blk} (h : H.Perm (M' ++ L)) : (y :: H).Perm ((y :: M') ++ L) := h.cons y
theorem PulE.app {X : List Blk} (h : H.Perm (M' ++ L)) : (X ++ H).Perm ((X ++ M') ++ L) := by rw [List.append_assoc]; exact h.append_left X
end
end Go.Eng
namespace Go.Eng
open Go.RowKit
section
variable {C : Ctx} {F : Fence} {n : Nat} {ds : List Deferred} {all : Array Oper} {Q : Exit → Env → List Blk → Prop} {rest : List Oper} {e : Env} {H H' : List Blk} {d : Option Tmp} {ty : TypeId} {pos : String} {af : Array Edge} {g : Option (Nat × Bool)}
theorem WS_subW (hs : HSub H H') (k : WS C F n ds all Q rest e H') : WS C F n ds all Q rest e H := fun w hw a ha => k w ⟨hw.1, hs _ _ hw.2, hw.3⟩ a ha
theorem WS_appendW (hF : Wide F) {x y : Operand} {T E : TypeId} {a a' : Option Addr} {n' m cap cap' sz by_ : Nat} {us news : List Value} {z : Value} {H1 Hn : List Blk} (hc : chk n all e ⟨d, .call ⟨.builtin .append, #[x, y], #[T, T]⟩, ty, pos, af, g⟩ = true)
  (hx : ev e x = .slice a n' cap) (hy : ev e y = .slice a' m cap') (hT : C.P.underlying T = some (.slice E)) (hinf : (C.P.info? E).map (fun i => (i.zero, i.size, i.bytes)) = some (some z, sz, by_))
  (hzs : z.cells.size = sz) (hH : H = H1 ++ Hn) (hrow : NewRow E sz n' us (.slice a n' cap) Hn) (hul : us.length = n' * sz) (hs : Src C H a' m news) (hl : news.length = m * sz) (hone : news.all Value.oneCell' = true) (hb : (n' + m) * by_ ≤ 140737488355328) (hm : n' + m ≤ 140737488355328) (h0 : 0 < m)
  (hk : ∀ a' cap' Hn', NewRow E sz (n' + m) (us ++ news) (.slice a' (n' + m) cap') Hn' → WS C F n ds all Q rest (updo e d (.slice a' (n' + m) cap')) (H1 ++ Hn')) :
  WS C F n ds all Q (⟨d, .call ⟨.builtin .append, #[x, y], #[T, T]⟩, ty, pos, af, g⟩ :: rest) e H := by
 by_cases hn : n' = 0
 ·subst hn
  have hu : us = [] := by simpa using hul
  subst hu
  obtain ⟨a1, cap1, he, hle, ⟨h, _⟩ | ⟨_, rfl, rfl⟩⟩ := hrow
  ·omega
  cases he
  rw [Nat.zero_add] at hb hm hk
  refine WS_gen hF hc (y_append0 hx hy hT hinf hzs hs hl hb hm) fun v Hv hv => ?_
  have hv2 := hv
  obtain ⟨a2, cap2, rfl, _⟩ := hv
  subst hH
  intro w hw act ha
  exact hk a2 cap2 Hv (by rw [List.nil_append]; exact hv2) w ⟨hw.1, hw.2.perm (by rw [List.append_nil]; exact List.perm_append_comm), hw.3⟩ act ha
 ·have hrow2 : ∃ b junk, a = some ⟨b, 0, none⟩ ∧ Hn = [(b, CB (us ++ junk) E)] ∧ (us ++ junk).length = cap * sz ∧ n' ≤ cap := by
   obtain ⟨a1, cap1, he, hle, ⟨_, b, junk, rfl, rfl, hlen⟩ | ⟨h1, _⟩⟩ := hrow
   ·cases he; exact ⟨b, junk, rfl, rfl, hlen, hle⟩
   ·omega
  obtain ⟨a1, cap1, he, hr⟩ := hrow.row hul om0
  cases he
  refine WS_appendE hF hc hx hy hT hinf hzs hH hr hs hl hone hb hm fun a2 cap2 Hn' hr2 => hk a2 cap2 Hn' ?_
  obtain ⟨_, h, _⟩ | ⟨b, junk, rfl, rfl, h1, h2, h3⟩ := hr2
  ·omega
  ·exact ⟨_, _, rfl, h3, .inl ⟨by omega, b, junk, rfl, rfl, h2⟩⟩
end
end Go.Eng
namespace Go.Proofs.Ytmpanejghmgoaaa.T
open Go.RowKit Go.Proofs Go.Eng
set_option maxRecDepth 100000
set_option maxHeartbeats 1000000
theorem bs23_1_0 {x0 : List UInt8} : ∀ w, (Instr.buildSlice 23 1 #[(0, sv x0)]).run Try.prog w = .ok (.slice (some ⟨w.heap.size, 0, none⟩) 1 1) (w.alloc (CB [sv x0] 9)) := fun w => by kernel_rfl
theorem hsub_rot2 {x y : Blk} {A B : List Blk} : HSub (x :: y :: (A ++ B)) (x :: y :: (B ++ A)) := fun _ _ h => h.perm (List.Perm.cons _ (List.Perm.cons _ List.perm_append_comm))
theorem hsub_end {x y : Blk} {A B : List Blk} : HSub (x :: y :: (A ++ B)) (y :: (B ++ A)) := fun _ _ h => (HSub.sub (List.sublist_cons_self _ _) _ _ h).perm (List.Perm.cons _ List.perm_append_comm)
theorem values_any (a : Option Addr) (n cap : Nat) (w : World) : Ct Try.prog 21 #[.slice a n cap] w fun v Hn => ∃ bv, v = .func (.func 30) #[] #[.pointer (some ⟨bv, 0, none⟩)] ∧ Hn = [(bv, CB [.slice a n cap] 23)] := by
 have hF := wide_wide
 refine Ct_start (args := [_]) Try.func21 rf Try.ntmps21 rf ?_
 refine zR fun ds => ?_
 refine WS_new hF rf (y_box rf) (fun b1 => ?_)
 refine za (_) hF ?_
 refine zP fun ds => ?_
 refine zD hF (y_makeFuncL rf rf) ?_
 refine za (_) hF ?_
 refine zN ?_
 refine W_ret ?_
 refine Fin_ret [_] [(b1, _)] Try.results21 ⟨by rfl, trivial⟩ (HSub.sub (by repeat (first | exact List.nil_sublist _ | apply List.Sublist.cons_cons | apply List.Sublist.cons))) ?_
 exact ⟨_, rfl, rfl⟩
theorem values_it (w0 : World) (ds0 out0 : List Deferred) (bv : Nat) (a : Option Addr) (n cap : Nat) (xs : List Str) (hn : n ≤ 1000000) (hb : At w0 bv 0 [.slice a n cap]) (hx : Txs w0 a n cap xs) :
  It ⟨Try.prog, w0, ds0, out0⟩ 30 [.pointer (some ⟨bv, 0, none⟩)] (fun k => [sv (xs.getD k [])]) n [] := by
 intro lp J Jx hY G hJ
 have hF := wide_wide
 refine Cs_start (args := [_, _]) Try.func30 rf Try.ntmps30 rf ?_
 refine zR fun ds => ?_
 refine zD hF (y_load1 rf Try.isAgg23 (by first | exact Mem.old1 (by assumption) | exact Mem.oldAt1 (by assumption) rf | exact Mem.old (by assumption) | exact Mem.oldAtL1 (by assumption) rf rf)) ?_
 refine zD hF (y_len rf Try.runUnderlying23) ?_
 refine zm (.int .i64 _) hF ?_
 refine zN ?_
 refine W_block ?_
 refine W_loop (γ := Nat × List Blk) (fun p => p.1 ≤ n ∧ J p.1 p.2) (fun p => [(0, .func (.yield lp) #[] #[]), (5, .slice a n cap), (6, .int .i64 (n : Int)), (7, .int .i64 (p.1 : Int))]) (fun p => p.2) (fun p => n - p.1) ((0, G)) ⟨Nat.zero_le _, hJ⟩ s10 (sbA) ?_
 rintro ⟨k, G1⟩ e ⟨hk, hj⟩
 refine zR fun ds => ?_
 refine zD hF (y_lss rf rf) ?_
 refine zO ?_
 refine W_cond rf (fun c1 => ?_) (fun c1 => ?_)
 ·
  try simp only [qz1, qz2, qz3, qz4, qz5, qz6, qz7, qz8] at c1
  obtain ⟨b, o, rfl, h1⟩ := hx.cell k om0
  change At w0 b _ [sv (xs.getD k [])] at h1
  refine zU ?_
  refine W_seq ?_
  refine W_block ?_
  refine zR fun ds => ?_
  refine zD hF (y_index (k := k) rf rf (by first | rfl | omega) (by first | decide | omega) Try.runUnderlying23 Try.sizeOf9) ?_
  refine zD hF (y_load1 rf Try.isAgg9 (by first | exact Mem.old1 (by assumption) | exact Mem.oldAt1 (by assumption) rf | exact Mem.old (by assumption) | exact Mem.oldAtL1 (by assumption) rf rf)) ?_
  refine za (sv _) hF ?_
  refine zP fun ds => ?_
  refine zm (_) hF ?_
  refine zm (sv _) hF ?_
  refine WS_yield rf rf rf (hY k om0 ds [] G1 hj) ?_
  rintro yb G2 ⟨_, rfl, hb2⟩
  refine zD hF (y_not rf) ?_
  refine zN ?_
  refine W_cond rf (fun c3 => ?_) (fun c3 => ?_)
  ·
   try simp only [qz1, qz2, qz3, qz4, qz5, qz6, qz7, qz8] at c3
   obtain ⟨rfl, hj2⟩ | ⟨_, hj2⟩ := hb2
   ·cases c3
   refine W_ret ?_
   refine InB_ret ?_
   refine Then_ret ?_
   refine Loop_ret ?_
   refine InB_ret ?_
   refine Fin_ret [] G2 Try.results30 trivial (HSub.sub sbA) ?_
   exact ⟨G2, rfl, .inr ⟨k, by omega, hj2⟩⟩
  ·
   try simp only [qz1, qz2, qz3, qz4, qz5, qz6, qz7, qz8] at c3
   obtain ⟨_, hj2⟩ | ⟨rfl, hj2⟩ := hb2
   case inr => cases c3
   refine W_skip ?_
   refine InB_normal ?_
   refine zT fun ds => ?_
   refine zD hF (y_add rf rf ui) ?_
   refine zm (.int .i64 _) hF ?_
   refine WS_nil ?_
   exact Loop_next (k + 1, G2) ⟨by simp only; omega, hj2⟩ s10 sbA (by simp only; omega)
 ·
  try simp only [qz1, qz2, qz3, qz4, qz5, qz6, qz7, qz8] at c1
  refine W_exit ?_
  refine Then_exit ?_
  refine Loop_exit ?_
  refine InB_same ?_
  refine Fin_norm [] G1 Try.results30 trivial (HSub.sub sbA) ?_
  obtain rfl : k = n := by have : k ≤ n := hk; omega
  exact ⟨G1, rfl, .inl hj⟩
theorem appseq_any (bv : Nat) (a : Option Addr) (n cap : Nat) (xs : List Str) (w : World) (hn : n ≤ 1000000) (hb : At w bv 0 [.slice a n cap]) (hx : Txs w a n cap xs) :
  Ct Try.prog 34 #[.slice none 0 0, .func (.func 30) #[] #[.pointer (some ⟨bv, 0, none⟩)]] w fun v Hn => NewRow 9 1 n (rowOf sE (fun k => xs.getD k []) n) v Hn := by
 have hF := wide_wide
 refine Ct_start (args := [_, _]) Try.func34 rf Try.ntmps34 rf ?_
 refine zR fun ds => ?_
 refine WS_new hF rf (y_box rf) (fun b1 => ?_)
 refine za (.slice _ _ _) hF ?_
 refine zO ?_
 refine zR fun ds => ?_
 refine zm (_) hF ?_
 refine zN ?_
 refine W_block ?_
 refine W_range hF rf (encs := (fun k => [sv (xs.getD k [])])) (N := n) (H0 := []) (G0 := [_]) (fun k G => ∃ ra rcap Hf, G = (b1, CB [.slice ra k rcap] 23) :: Hf ∧ NewRow 9 1 k (rowOf sE (fun j => xs.getD j []) k) (.slice ra k rcap) Hf) (fun _ _ _ => False) rf Try.call30 rf (fun _ => rfl) (fun ds => values_it _ _ _ bv a n cap xs hn hb hx) (⟨none, 0, [], rfl, none, 0, rfl, Nat.le_refl _, .inr ⟨rfl, rfl, rfl⟩⟩) (HSub.refl) ?_ ?_ ?_
 ·rintro k hk G hj out lpr R R'
  have hF := wide_inRound wide_wide lpr
  obtain ⟨ra, rcap, Hf, rfl, hrow⟩ := hj
  refine W_region_lit (fun ds => ?_)
  refine za (sv _) hF ?_
  refine zN ?_
  refine ⟨(_ :: Hf), rfl, ?_⟩
  refine W_block ?_
  refine W_region_lit (fun ds => ?_)
  refine zD hF (y_load1 rf Try.isAgg23 (Mem.own1 0 rf rf)) ?_
  refine zm (sv _) hF ?_
  refine WS_newS hF rf (y_buildSliceL bs23_1_0 rf) (fun bx => ?_)
  refine WS_subW hsub_rot2 ?_
  refine WS_appendW hF (n' := k) (m := 1) (H1 := (_ :: _ :: (R'))) (Hn := Hf) rf rf rf Try.underlying23 infStr rf rf hrow (rowOf_len sE_len _ _) (.inr ⟨_, _, rfl, Mem.own (us := [sv _]) 0 rf rf⟩) rf rf om0 om0 om0 ?_
  intro ra2 rcap2 Hf2 hrow3
  have hrow2 : NewRow 9 1 (k + 1) (rowOf sE (fun j => xs.getD j []) (k + 1)) (.slice ra2 (k + 1) rcap2) Hf2 := by rw [rowOf_succ]; exact hrow3
  refine WS_store hF (i := 1) rf rf Try.sizeOf23 rf rf rf d2 ?_
  refine WS_nil ?_
  refine InB_normal ?_
  exact ⟨(b1, CB [.slice ra2 (k + 1) rcap2] 23) :: Hf2, show HSub ((bx, CB [sv (xs.getD k [])] 9) :: (b1, CB [.slice ra2 (k + 1) rcap2] 23) :: (R' ++ Hf2)) ((b1, CB [.slice ra2 (k + 1) rcap2] 23) :: (Hf2 ++ R')) from hsub_end, ra2, rcap2, Hf2, rfl, hrow2⟩
 ·rintro G hj
  obtain ⟨ra, rcap, Hf, rfl, hrow⟩ := hj
  refine InB_normal ?_
  refine zS fun ds => ?_
  refine zD hF (y_load1 rf Try.isAgg23 (Mem.own1 0 rf rf)) ?_
  refine za (.slice _ _ _) hF ?_
  refine zN ?_
  refine W_ret ?_
  refine Fin_ret [.slice _ _ _] Hf Try.results34 ⟨by rfl, trivial⟩ (HSub.sub sbA) ?_
  exact hrow
 ·rintro c k G hk hj
  exact hj.elim
theorem collect_any (bv : Nat) (a : Option Addr) (n cap : Nat) (xs : List Str) (w : World) (hn : n ≤ 1000000) (hb : At w bv 0 [.slice a n cap]) (hx : Txs w a n cap xs) :
  Ct Try.prog 28 #[.func (.func 30) #[] #[.pointer (some ⟨bv, 0, none⟩)]] w fun v Hn => NewRow 9 1 n (rowOf sE (fun k => xs.getD k []) n) v Hn := by
 have hF := wide_wide
 refine Ct_start (args := [_]) Try.func28 rf Try.ntmps28 rf ?_
 refine zR fun ds => ?_
 refine za (.slice _ _ _) hF ?_
 refine zP fun ds => ?_
 refine zm (_) hF ?_
 refine WS_gen hF rf (y_callL rf rf Try.call34 (fun w hw => appseq_any bv a n cap xs w hn (At.old hw.1 hb) (hx.st w hw))) ?_
 rintro _ Hc hrow
 have hrow2 := hrow
 obtain ⟨a', cap', rfl, _⟩ := hrow2
 refine za (.slice _ _ _) hF ?_
 refine zN ?_
 refine W_ret ?_
 refine Fin_ret [.slice _ _ _] Hc Try.results28 ⟨by rfl, trivial⟩ (HSub.sub sbA) ?_
 exact hrow
theorem sorted_any (bv : Nat) (a : Option Addr) (n cap : Nat) (xs : List Str) (w : World) (h0 : 0 < n) (hn : n ≤ 1000000) (hb : At w bv 0 [.slice a n cap]) (hx : Txs w a n cap xs) :
  Ct Try.prog 20 #[.func (.func 30) #[] #[.pointer (some ⟨bv, 0, none⟩)]] w fun v Hn => NewRow 9 1 n (sL (sortS xs)) v Hn := by
 have hl := hx.len
 subst hl
 have hF := wide_wide
 refine Ct_start (args := [_]) Try.func20 rf Try.ntmps20 rf ?_
 refine zR fun ds => ?_
 refine za (.slice _ _ _) hF ?_
 refine zP fun ds => ?_
 refine zm (_) hF ?_
 refine WS_gen hF rf (y_callL rf rf Try.call28 (fun w hw => collect_any bv a _ cap xs w hn (At.old hw.1 hb) (hx.st w hw))) ?_
 rintro _ Hc hrow
 have hrow2 := hrow
 obtain ⟨a', cap', rfl, _⟩ := hrow2
 obtain ⟨rb, junk, rfl, rfl, hlen, hle⟩ := NewRow.head hrow h0
 rw [sL_row] at hlen ⊢
 refine za (.slice _ _ _) hF ?_
 refine zP fun ds => ?_
 refine zm (.slice _ _ _) hF ?_
 refine WS_callS hF rf rf rf Try.call29 (sortS_cs _ _ _ rb 9 cap' xs junk _ hn) ?_
 rintro _ _ ⟨rfl, rfl⟩
 refine zP fun ds => ?_
 refine zm (.slice _ _ _) hF ?_
 refine za (.slice _ _ _) hF ?_
 refine zN ?_
 refine W_ret ?_
 refine Fin_ret [.slice _ _ _] [(rb, _)] Try.results20 ⟨by rfl, trivial⟩ (HSub.sub (by repeat (first | exact List.nil_sublist _ | apply List.Sublist.cons_cons | apply List.Sublist.cons))) ?_
 refine NewRow.mk (junk := junk) rfl ?_ hle h0
 rw [← hlen]
 simp [sL, sortS_len]
theorem Txs.of {C : Ctx} {H Hn : List Blk} {T : TypeId} {a : Option Addr} {n cap : Nat} {xs : List Str} (h : NewRow T 1 n (sL xs) (.slice a n cap) Hn) (hl : xs.length = n) (hs : Hn.Sublist H) (w : World) (hw : St C H w) : Txs w a n cap xs := by
 subst hl
 exact NewRow.rws sE_len (by rw [sL_row]; exact h) rfl hs w hw
theorem Txs.mem {C : Ctx} {H Hn : List Blk} {T : TypeId} {b o n cap k : Nat} {xs : List Str} (h : NewRow T 1 n (sL xs) (.slice (some ⟨b, o, none⟩) n cap) Hn) (hl : xs.length = n) (hs : Hn.Sublist H) (hk : k < n) : Mem C H b (o + k * 1) [sv (xs.getD k [])] :=
 fun w hw => (Txs.of h hl hs w hw).at hk
theorem free_any (a : Option Addr) (n cap : Nat) (xs : List Str) (w : World) (h0 : 0 < n) (hn : n ≤ 1000000) (hx : Txs w a n cap xs) :
  Ct Try.prog 13 #[.slice a n cap] w fun v _ => v = .bool (freeB xs) := by
 have hl := hx.len
 have hsl := sortS_len xs
 have hF := wide_wide
 refine Ct_start (args := [_]) Try.func13 rf Try.ntmps13 rf ?_
 refine zR fun ds => ?_
 refine za (.bool _) hF ?_
 refine zN ?_
 refine W_scope ?_
 refine zR fun ds => ?_
 refine zm (.slice _ _ _) hF ?_
 refine WS_gen hF rf (y_callL rf rf Try.call21 (fun w hw => values_any a n cap w)) ?_
 rintro _ _ ⟨bv, rfl, rfl⟩
 refine WS_gen hF rf (y_callL rf rf Try.call20 (fun w hw => sorted_any bv a n cap xs w h0 hn (Mem.own (us := [_]) 0 rf rf w hw) (hx.st w hw))) ?_
 rintro _ Hs hrow
 have hrow2 := hrow
 obtain ⟨sa, scap, rfl, _⟩ := hrow2
 refine za (.slice _ _ _) hF ?_
 refine zO ?_
 refine W_label ?_
 refine Then_normal ?_
 refine W_seq ?_
 refine zR fun ds => ?_
 refine zm (.slice _ _ _) hF ?_
 refine zD hF (y_len rf Try.runUnderlying23) ?_
 refine zm (.int .i64 _) hF ?_
 refine zN ?_
 refine W_block ?_
 refine W_loop (γ := Nat) (fun k => k ≤ n ∧ ∀ j, j + 1 < k → begB ((sortS xs).getD (j + 1) []) ((sortS xs).getD j []) = false) (fun k => [(3, .slice sa n scap), (9, .slice sa n scap), (10, .int .i64 (n : Int)), (11, .int .i64 (k : Int))]) (fun _ => _) (fun k => n - k) (0) ⟨Nat.zero_le _, fun j h => absurd h (Nat.not_lt_zero _)⟩ s10 (sbA) ?_
 rintro k e ⟨hk, hj⟩
 refine zR fun ds => ?_
 refine zD hF (y_lss rf rf) ?_
 refine zO ?_
 refine W_cond rf (fun c3 => ?_) (fun c3 => ?_)
 ·
  try simp only [qz1, qz2, qz3, qz4, qz5, qz6, qz7, qz8] at c3
  obtain ⟨sb, so, rfl⟩ : ∃ sb so, sa = some ⟨sb, so, none⟩ := by
   obtain ⟨rb, junk, rfl, _⟩ := NewRow.head hrow h0
   exact ⟨_, _, rfl⟩
  refine zU ?_
  refine W_seq ?_
  refine W_block ?_
  refine zR fun ds => ?_
  refine zm (.int .i64 _) hF ?_
  refine zD hF (y_index (k := k) rf rf (by first | rfl | omega) (by first | decide | omega) Try.runUnderlying23 Try.sizeOf9) ?_
  refine zD hF (y_load1 rf Try.isAgg9 (Txs.mem hrow (hsl.trans hl) sbA (k := k) om0)) ?_
  refine za (.int .i64 _) hF ?_
  refine za (sv _) hF ?_
  refine zO ?_
  refine zR fun ds => ?_
  refine zm (.int .i64 _) hF ?_
  refine zD hF (y_eql rf rf) ?_
  refine zm (.bool _) hF ?_
  refine WS_split 18 rf (fun g5_2 => ?_) (fun g5_2 => ?_)
  ·
   try simp only [qz1, qz2, qz3, qz4, qz5, qz6, qz7, qz8] at g5_2
   refine zno hF ?_
   refine zno hF ?_
   refine zno hF ?_
   refine zno hF ?_
   refine zno hF ?_
   refine zno hF ?_
   refine zno hF ?_
   refine zno hF ?_
   refine zD hF (zpk (.bool _)) ?_
   refine zN ?_
   refine W_cond rf (fun c5 => ?_) (fun c5 => ?_)
   ·
    try simp only [qz1, qz2, qz3, qz4, qz5, qz6, qz7, qz8] at c5
    have hj2 : ∀ j, j + 1 < k + 1 → begB ((sortS xs).getD (j + 1) []) ((sortS xs).getD j []) = false := fun j h => by
     by_cases hjk : j + 1 < k
     ·exact hj j hjk
     ·obtain rfl : k = j + 1 := by omega
      first
       | exact c5
       | (exfalso; omega)
    refine W_exit ?_
    refine Then_exit ?_
    refine InB_same ?_
    refine zT fun ds => ?_
    refine zD hF (y_add rf rf ui) ?_
    refine zm (.int .i64 _) hF ?_
    refine WS_nil ?_
    exact Loop_next (k + 1) ⟨by omega, hj2⟩ s10 sbA om0
   ·cases c5
  ·
   try simp only [qz1, qz2, qz3, qz4, qz5, qz6, qz7, qz8] at g5_2
   refine zm (sv _) hF ?_
   refine zm (.slice _ _ _) hF ?_
   refine zm (.int .i64 _) hF ?_
   refine zD hF (y_sub rf rf ui) ?_
   refine zD hF (y_index (k := k - 1) rf rf (by first | rfl | omega) (by first | decide | omega) Try.runUnderlying23 Try.sizeOf9) ?_
   refine zD hF (y_load1 rf Try.isAgg9 (Txs.mem hrow (hsl.trans hl) sbA (k := k - 1) om0)) ?_
   refine zD hF (y_callL rf rf Try.call22 (fun w hw => hp_any _ _ w)) ?_
   refine zD hF (y_not rf) ?_
   refine zD hF (zpk (.bool _)) ?_
   refine zN ?_
   refine W_cond rf (fun c5 => ?_) (fun c5 => ?_)
   ·
    try simp only [qz1, qz2, qz3, qz4, qz5, qz6, qz7, qz8] at c5
    have hj2 : ∀ j, j + 1 < k + 1 → begB ((sortS xs).getD (j + 1) []) ((sortS xs).getD j []) = false := fun j h => by
     by_cases hjk : j + 1 < k
     ·exact hj j hjk
     ·obtain rfl : k = j + 1 := by omega
      first
       | exact c5
       | (exfalso; omega)
    refine W_exit ?_
    refine Then_exit ?_
    refine InB_same ?_
    refine zT fun ds => ?_
    refine zD hF (y_add rf rf ui) ?_
    refine zm (.int .i64 _) hF ?_
    refine WS_nil ?_
    exact Loop_next (k + 1) ⟨by omega, hj2⟩ s10 sbA om0
   ·
    try simp only [qz1, qz2, qz3, qz4, qz5, qz6, qz7, qz8] at c5
    refine W_skip ?_
    refine zS fun ds => ?_
    refine za (.bool _) hF ?_
    refine zN ?_
    refine W_ret ?_
    refine InB_ret ?_
    refine Then_ret ?_
    refine Loop_ret ?_
    refine InB_ret ?_
    refine Then_ret ?_
    refine NoG_ret ?_
    refine Fin_ret [.bool _] [] Try.results13 ⟨by rfl, trivial⟩ HSub.nil ?_
    show Value.bool _ = _
    rw [← freeB_perm (sortS_perm xs), freeB_no (l := sortS xs) (i := k) (k := k - 1) om0 om0 om0 c5]
 ·
  try simp only [qz1, qz2, qz3, qz4, qz5, qz6, qz7, qz8] at c3
  refine W_exit ?_
  refine Then_exit ?_
  refine Loop_exit ?_
  refine InB_same ?_
  refine zS fun ds => ?_
  refine za (.bool _) hF ?_
  refine zN ?_
  refine W_ret ?_
  refine NoG_ret ?_
  refine Fin_ret [.bool _] [] Try.results13 ⟨by rfl, trivial⟩ HSub.nil ?_
  show Value.bool _ = _
  rw [← freeB_perm (sortS_perm xs), freeB_iff.2 (adj_free (sortS_le xs) fun i hi => hj i om0)]
def HYd (w0 : World) (lp : Nat) (J Jx : Nat → List Blk → Prop) (encs : Nat → List Value) (N : Nat) (O : List Deferred) : Prop :=
 ∀ k, k < N → ∀ ds H G, J k G → Yi ⟨Try.prog, w0, ds, O⟩ lp (encs k) (H ++ G) fun b H' => ∃ G', H' = H ++ G' ∧ (b = true ∧ J (k + 1) G' ∨ b = false ∧ Jx (k + 1) G')
theorem St.swapO {P : Program} {w0 w : World} {ds d1 O : List Deferred} {H : List Blk} (h : St ⟨P, w0, ds, d1 ++ O⟩ H w) : St ⟨P, w0, ds ++ d1, O⟩ H w :=
 ⟨h.1, h.2, by have := h.3; show Mk ((ds ++ d1) ++ O) _ _; rw [List.append_assoc]; exact this⟩
theorem St.swapI {P : Program} {w0 w : World} {ds d1 O : List Deferred} {H : List Blk} (h : St ⟨P, w0, ds ++ d1, O⟩ H w) : St ⟨P, w0, ds, d1 ++ O⟩ H w :=
 ⟨h.1, h.2, by have := h.3; show Mk (ds ++ (d1 ++ O)) _ _; rw [← List.append_assoc]; exact this⟩
theorem HYd.more {w0 : World} {lp : Nat} {J Jx : Nat → List Blk → Prop} {encs : Nat → List Value} {N : Nat} {O : List Deferred} (h : HYd w0 lp J Jx encs N O) (d1 : List Deferred) : HYd w0 lp J Jx encs N (d1 ++ O) := fun k hk ds H G hJ w hw => by
 obtain ⟨fn, tmps, assign, body, hy, hR⟩ := h k hk (ds ++ d1) H G hJ w (St.swapO hw)
 refine ⟨fn, tmps, assign, body, hy, RoundIn.mono hR ?_⟩
 rintro en w' ⟨b, H', rfl, hw', hr⟩
 exact ⟨b, H', rfl, St.swapI hw', hr⟩
theorem two_more (m : Nat) : 2 ^ (m + 1) = 2 ^ m + 2 ^ m := by rw [Nat.pow_succ]; omega
theorem all_any (n : Nat) (w : World) : Ct Try.prog 11 #[.int .i64 (n : Int)] w fun v Hn => ∃ bn, v = .func (.func 18) #[] #[.pointer (some ⟨bn, 0, none⟩)] ∧ Hn = [(bn, CB [.int .i64 (n : Int)] 3)] := by
 have hF := wide_wide
 refine Ct_start (args := [_]) Try.func11 rf Try.ntmps11 rf ?_
 refine zR fun ds => ?_
 refine WS_new hF rf (y_box rf) (fun b1 => ?_)
 refine za (_) hF ?_
 refine zP fun ds => ?_
 refine zD hF (y_makeFuncL rf rf) ?_
 refine za (_) hF ?_
 refine zN ?_
 refine W_ret ?_
 refine Fin_ret [_] [(b1, _)] Try.results11 ⟨by rfl, trivial⟩ (HSub.sub (by repeat (first | exact List.nil_sublist _ | apply List.Sublist.cons_cons | apply List.Sublist.cons))) ?_
 exact ⟨_, rfl, rfl⟩
theorem spell_cs (w0 : World) (lp bn by_ bs n : Nat) (J Jx : Nat → List Blk → Prop) (hn : n ≤ 6) :
  ∀ (m : Nat) (ds0 O : List Deferred) (pre : Str) (k0 : Nat) (G : List Blk), m + pre.length = n → HYd w0 lp J Jx (fun k => [sv (wordB n k)]) (2 ^ n) O → (∀ j, j < 2 ^ m → wordB n (k0 + j) = pre ++ wordB m j) → k0 + 2 ^ m ≤ 2 ^ n → J k0 G →
  Cs ⟨Try.prog, w0, ds0, O⟩ 19 #[sv pre, .pointer (some ⟨bn, 0, none⟩), .pointer (some ⟨by_, 0, none⟩), .pointer (some ⟨bs, 0, none⟩)] ((bs, CB [.func (.func 19) #[] #[.pointer (some ⟨bn, 0, none⟩), .pointer (some ⟨by_, 0, none⟩), .pointer (some ⟨bs, 0, none⟩)]] 47) :: (by_, CB [.func (.yield lp) #[] #[]] 47) :: (bn, CB [.int .i64 (n : Int)] 3) :: G) fun v H' => ∃ yb G', v = .bool yb ∧ H' = (bs, CB [.func (.func 19) #[] #[.pointer (some ⟨bn, 0, none⟩), .pointer (some ⟨by_, 0, none⟩), .pointer (some ⟨bs, 0, none⟩)]] 47) :: (by_, CB [.func (.yield lp) #[] #[]] 47) :: (bn, CB [.int .i64 (n : Int)] 3) :: G' ∧ (yb = true ∧ J (k0 + 2 ^ m) G' ∨ yb = false ∧ ∃ k, k0 ≤ k ∧ k < k0 + 2 ^ m ∧ Jx (k + 1) G') := by
 intro m
 induction m with
 | zero =>
  intro ds0 O pre k0 G hm hY hw hk hJ
  have hwe : wordB n k0 = pre := by have := hw 0 (by decide); simpa [wordB] using this
  have hY2 := hY.more ds0
  have hk1 : k0 < 2 ^ n := by rw [Nat.pow_zero] at hk; omega
  have hF := wide_wide
  refine Cs_start (args := [_, _, _, _]) Try.func19 rf Try.ntmps19 rf ?_
  refine zR fun ds => ?_
  refine za (.bool _) hF ?_
  refine zO ?_
  refine zR fun ds => ?_
  refine zm (sv _) hF ?_
  refine zD hF (y_slen rf Try.runUnderlying9) ?_
  refine zD hF (y_load1 rf Try.isAgg3 (Mem.own1 2 rf rf)) ?_
  refine zD hF (y_eql rf rf) ?_
  refine zN ?_
  refine W_cond rf (fun c1 => ?_) (fun c1 => ?_)
  ·
   try simp only [qz1, qz2, qz3, qz4, qz5, qz6, qz7, qz8] at c1
   refine zR fun ds => ?_
   refine zD hF (y_load1 rf Try.isAgg47 (Mem.own1 1 rf rf)) ?_
   refine zm (sv _) hF ?_
   refine WS_yield rf rf rf ((show Yi _ lp [sv pre] _ _ by rw [← hwe]; exact hY2 k0 hk1 ds [_, _, _] G hJ)) ?_
   rintro yb _ ⟨G1, rfl, hb⟩
   refine za (.bool _) hF ?_
   refine zN ?_
   refine W_ret ?_
   refine Then_ret ?_
   refine Fin_ret [.bool _] ((bs, CB [.func (.func 19) #[] #[.pointer (some ⟨bn, 0, none⟩), .pointer (some ⟨by_, 0, none⟩), .pointer (some ⟨bs, 0, none⟩)]] 47) :: (by_, CB [.func (.yield lp) #[] #[]] 47) :: (bn, CB [.int .i64 (n : Int)] 3) :: G1) Try.results19 ⟨by rfl, trivial⟩ HSub.refl ?_
   refine ⟨yb, G1, rfl, rfl, ?_⟩
   rcases hb with ⟨h1, h2⟩ | ⟨h1, h2⟩
   ·exact .inl ⟨h1, h2⟩
   ·exact .inr ⟨h1, k0, Nat.le_refl _, by rw [Nat.pow_zero]; omega, h2⟩
  ·(simp only [decide_eq_false_iff_not] at c1; omega)
 | succ m ih =>
  intro ds0 O pre k0 G hm hY hw hk hJ
  have h2m := two_more m
  have h2p := Nat.two_pow_pos m
  have hY2 := hY.more ds0
  have hw1 : ∀ j, j < 2 ^ m → wordB n (k0 + j) = (pre ++ [45]) ++ wordB m j := fun j hj => by
   rw [hw j om0, wordB_lo hj, List.append_assoc]; rfl
  have hw2 : ∀ j, j < 2 ^ m → wordB n (k0 + 2 ^ m + j) = (pre ++ [46]) ++ wordB m j := fun j hj => by
   rw [Nat.add_assoc, hw (2 ^ m + j) om0, wordB_hi hj, List.append_assoc]; rfl
  have hF := wide_wide
  refine Cs_start (args := [_, _, _, _]) Try.func19 rf Try.ntmps19 rf ?_
  refine zR fun ds => ?_
  refine za (.bool _) hF ?_
  refine zO ?_
  refine zR fun ds => ?_
  refine zm (sv _) hF ?_
  refine zD hF (y_slen rf Try.runUnderlying9) ?_
  refine zD hF (y_load1 rf Try.isAgg3 (Mem.own1 2 rf rf)) ?_
  refine zD hF (y_eql rf rf) ?_
  refine zN ?_
  refine W_cond rf (fun c1 => ?_) (fun c1 => ?_)
  ·(simp only [decide_eq_true_eq] at c1; omega)
  ·
   try simp only [qz1, qz2, qz3, qz4, qz5, qz6, qz7, qz8] at c1
   refine W_skip ?_
   refine zS fun ds => ?_
   refine zD hF (y_load1 rf Try.isAgg47 (Mem.own1 0 rf rf)) ?_
   refine zm (sv _) hF ?_
   refine zD hF (y_sadd rf rf (by first | omega | (simp only [List.length_cons, List.length_nil, List.length_append]; omega))) ?_
   refine WS_callS hF rf rf rf Try.call19 (ih ds (ds0 ++ O) (pre ++ [45]) k0 G (by rw [List.length_append, List.length_singleton]; omega) hY2 hw1 om0 hJ) ?_
   rintro _ _ ⟨yb, G1, rfl, rfl, hb⟩
   refine zm (.bool _) hF ?_
   refine WS_split 17 rf (fun g3_4 => ?_) (fun g3_4 => ?_)
   ·
    try simp only [qz1, qz2, qz3, qz4, qz5, qz6, qz7, qz8] at g3_4
    obtain ⟨_, hj1⟩ | ⟨h1, _⟩ := hb
    case inr => rw [g3_4] at h1; cases h1
    refine zD hF (y_load1 rf Try.isAgg47 (Mem.own1 0 rf rf)) ?_
    refine zm (sv _) hF ?_
    refine zD hF (y_sadd rf rf (by first | omega | (simp only [List.length_cons, List.length_nil, List.length_append]; omega))) ?_
    refine WS_callS hF rf rf rf Try.call19 (ih ds (ds0 ++ O) (pre ++ [46]) (k0 + 2 ^ m) G1 (by rw [List.length_append, List.length_singleton]; omega) hY2 hw2 om0 hj1) ?_
    rintro _ _ ⟨yb2, G2, rfl, rfl, hb2⟩
    refine zD hF (zpk (.bool _)) ?_
    refine za (.bool _) hF ?_
    refine zN ?_
    refine W_ret ?_
    refine Fin_ret [.bool _] ((bs, CB [.func (.func 19) #[] #[.pointer (some ⟨bn, 0, none⟩), .pointer (some ⟨by_, 0, none⟩), .pointer (some ⟨bs, 0, none⟩)]] 47) :: (by_, CB [.func (.yield lp) #[] #[]] 47) :: (bn, CB [.int .i64 (n : Int)] 3) :: G2) Try.results19 ⟨by rfl, trivial⟩ HSub.refl ?_
    refine ⟨yb2, G2, rfl, rfl, ?_⟩
    rw [h2m, ← Nat.add_assoc]
    rcases hb2 with ⟨h1, h2⟩ | ⟨h1, k, h2, h3, h4⟩
    ·exact .inl ⟨h1, h2⟩
    ·exact .inr ⟨h1, k, by omega, h3, h4⟩
   ·
    try simp only [qz1, qz2, qz3, qz4, qz5, qz6, qz7, qz8] at g3_4
    obtain ⟨h1, _⟩ | ⟨_, kk, hk0, hk1, hjx⟩ := hb
    case inl => rw [g3_4] at h1; cases h1
    refine zno hF ?_
    refine zno hF ?_
    refine zno hF ?_
    refine zno hF ?_
    refine zD hF (zpk (.bool _)) ?_
    refine za (.bool _) hF ?_
    refine zN ?_
    refine W_ret ?_
    refine Fin_ret [.bool _] ((bs, CB [.func (.func 19) #[] #[.pointer (some ⟨bn, 0, none⟩), .pointer (some ⟨by_, 0, none⟩), .pointer (some ⟨bs, 0, none⟩)]] 47) :: (by_, CB [.func (.yield lp) #[] #[]] 47) :: (bn, CB [.int .i64 (n : Int)] 3) :: G1) Try.results19 ⟨by rfl, trivial⟩ HSub.refl ?_
    exact ⟨false, G1, rfl, rfl, .inr ⟨rfl, kk, hk0, by omega, hjx⟩⟩
theorem all_it (w0 : World) (ds0 out0 : List Deferred) (bn n : Nat) (hn : n ≤ 6) :
  It ⟨Try.prog, w0, ds0, out0⟩ 18 [.pointer (some ⟨bn, 0, none⟩)] (fun k => [sv (wordB n k)]) (2 ^ n) [(bn, CB [.int .i64 (n : Int)] 3)] := by
 intro lp J Jx hY G hJ
 have hY2 : HYd w0 lp J Jx (fun k => [sv (wordB n k)]) (2 ^ n) (ds0 ++ out0) := hY
 have hF := wide_wide
 refine Cs_start (args := [_, _]) Try.func18 rf Try.ntmps18 rf ?_
 refine zR fun ds => ?_
 refine WS_new hF rf (y_box rf) (fun b1 => ?_)
 refine zP fun ds => ?_
 refine WS_new hF rf (y_alloc Try.zeroValue47 rf) (fun b2 => ?_)
 refine zP fun ds => ?_
 refine zD hF (y_makeFuncL rf rf) ?_
 refine WS_store hF (i := 0) rf rf Try.sizeOf47 rf rf rf d2 ?_
 refine zQ fun ds => ?_
 refine zD hF (y_load1 rf Try.isAgg47 (Mem.own1 0 rf rf)) ?_
 refine WS_callS hF rf rf rf Try.call19 (spell_cs w0 lp bn b1 b2 n J Jx hn n ds (ds0 ++ out0) [] 0 G rfl hY2 (fun j hj => by rw [Nat.zero_add]; rfl) om0 hJ) ?_
 rintro _ _ ⟨yb, G1, rfl, rfl, hb⟩
 refine WS_nil ?_
 refine Fin_norm [] ((bn, _) :: G1) Try.results18 trivial (HSub.sub sbA) ?_
 refine ⟨G1, rfl, ?_⟩
 rw [Nat.zero_add] at hb
 rcases hb with ⟨_, h⟩ | ⟨_, k, _, h1, h2⟩
 ·exact .inl h
 ·exact .inr ⟨k, h1, h2⟩
theorem bd35  : ∀ w, (Instr.build 35 #[]).run Try.prog w = .ok (.agg #[.int .i64 0, .int .i64 0, .int .i64 0, .int .i64 0, .int .i64 0, .int .i64 0, .int .i64 0]) w := fun w => by kernel_rfl
theorem sh_nat (n : Nat) : sh n = ((64 / 2 ^ n : Nat) : Int) := by unfold sh; push_cast; rfl
theorem sh_bd {k : Nat} (h : k < 6) : 1 ≤ sh (k + 1) ∧ sh (k + 1) ≤ 32 := by
 obtain rfl | rfl | rfl | rfl | rfl | rfl : k = 0 ∨ k = 1 ∨ k = 2 ∨ k = 3 ∨ k = 4 ∨ k = 5 := by omega
 all_goals decide
theorem szNeq {x y : Operand} (s : Sz) : ∀ w, ((do eqGuard .neq 35 x y (.agg s.cells.toArray) (.agg #[.int .i64 0, .int .i64 0, .int .i64 0, .int .i64 0, .int .i64 0, .int .i64 0, .int .i64 0]); binOp .neq 35 (.agg s.cells.toArray) (.agg #[.int .i64 0, .int .i64 0, .int .i64 0, .int .i64 0, .int .i64 0, .int .i64 0, .int .i64 0])) : Sem Value).run Try.prog w = .ok (.bool (szB s)) w :=
 eq_topN (fun w => by kernel_rfl) (eq_ints7 Try.runUnderlying35 Try.runUnderlying3 Try.sizeOf3 Try.isAgg3)
def sbl (bb bl bo bs : Nat) (a : Option Addr) (n cap : Nat) (st : Cst) (L : List Blk) : List Blk :=
 (bb, CB (stS st).cells 35) :: (bl, CB [.int .i64 (stC st)] 3) :: (bo, CB [.slice a n cap] 22) :: (bs, CB [.func (.func 9) #[] #[.pointer (some ⟨bb, 0, none⟩), .pointer (some ⟨bl, 0, none⟩), .pointer (some ⟨bo, 0, none⟩), .pointer (some ⟨bs, 0, none⟩)]] 36) :: L
theorem setK_ok {n : Nat} {st : Cst} {pre : List Nat} {cost o left : Int} {os : List Int} (hst : Cst.Ok n st) (hp : ∀ x ∈ pre, 1 ≤ x ∧ x ≤ 6) (h0 : 0 ≤ cost) (h1 : cost ≤ 6000 * (pre.length : Int)) (ho : 0 ≤ o ∧ o ≤ 1000) (hos : ∀ o ∈ os, 0 ≤ o ∧ o ≤ 1000) (hn : pre.length + (os.length + 1) = n) {k : Nat} (hk : k ≤ 6) : Cst.Ok n (setK st pre cost o os left k) := by
 unfold setK
 refine betC_ok hst ?_
 rw [← hn]
 exact addC_ok (lenK_ok (fun left => lenR_ok os left hos) ho.1 ho.2 k hk) rfl hp h0 h1
theorem settle_cs (w0 : World) (bb bl bo bs : Nat) (a : Option Addr) (cap : Nat) (xs : List Int) (hx : Ints w0 a xs.length cap xs) (hn1 : 1 ≤ xs.length) (hn7 : xs.length ≤ 7) (hv : ∀ o ∈ xs, 0 ≤ o ∧ o ≤ 1000) :
  ∀ (m : Nat) (ds0 out0 : List Deferred) (pre : List Nat) (i : Nat) (cost left : Int) (st : Cst) (L : List Blk), i = pre.length → pre.length + m = xs.length → (∀ x ∈ pre, 1 ≤ x ∧ x ≤ 6) → 0 ≤ cost → cost ≤ 6000 * (pre.length : Int) → 0 ≤ left → left ≤ 64 → Cst.Ok xs.length st →
  Cs ⟨Try.prog, w0, ds0, out0⟩ 9 #[.agg (szL pre).cells.toArray, .int .i64 (i : Int), .int .i64 cost, .int .i64 left, .pointer (some ⟨bb, 0, none⟩), .pointer (some ⟨bl, 0, none⟩), .pointer (some ⟨bo, 0, none⟩), .pointer (some ⟨bs, 0, none⟩)] (sbl bb bl bo bs a xs.length cap st L) fun v H' => v = .tuple #[] ∧ H' = sbl bb bl bo bs a xs.length cap (setC st pre cost (xs.drop pre.length) left) L := by
 intro m
 induction m with
 | zero =>
  intro ds0 out0 pre i cost left st L hip hm hp h0 h1 hl0 hl1 hst
  subst hip
  have hd : xs.drop pre.length = [] := List.drop_eq_nil_of_le om0
  have hF := wide_wide
  refine Cs_start (args := [_, _, _, _, _, _, _, _]) Try.func9 rf Try.ntmps9 rf ?_
  refine zR fun ds => ?_
  refine WS_new hF rf (y_box rf) (fun b1 => ?_)
  refine zO ?_
  refine W_block ?_
  refine zR fun ds => ?_
  refine zD hF (y_loadN rf Try.isAgg35 Try.sizeOf35 (Mem.own (us := [.int .i64 _, .int .i64 _, .int .i64 _, .int .i64 _, .int .i64 _, .int .i64 _, .int .i64 _]) 1 rf rf) rf) ?_
  refine zD hF (y_buildL bd35 rf) ?_
  refine zD hF (y_neqlA rf rf (szNeq _)) ?_
  refine zm (.bool _) hF ?_
  refine WS_split 19 rf (fun g1_3 => ?_) (fun g1_3 => ?_)
  ·
   try simp only [qz1, qz2, qz3, qz4, qz5, qz6, qz7, qz8] at g1_3
   have hs1 : ∃ l0 c0, st = some (l0, c0) := by
    rw [szB_st hst om0] at g1_3
    obtain ⟨x, hx⟩ := Option.isSome_iff_exists.1 g1_3
    exact ⟨x.1, x.2, hx⟩
   refine zm (.int .i64 _) hF ?_
   refine zD hF (y_load1 rf Try.isAgg3 (Mem.own1 2 rf rf)) ?_
   refine zD hF (y_geq rf rf) ?_
   refine zD hF (zpk (.bool _)) ?_
   refine za (.bool _) hF ?_
   refine zN ?_
   refine W_cond rf (fun c1 => ?_) (fun c1 => ?_)
   ·
    try simp only [qz1, qz2, qz3, qz4, qz5, qz6, qz7, qz8] at c1
    refine W_ret ?_
    refine InB_ret ?_
    refine Then_ret ?_
    refine Fin_ret [] (sbl bb bl bo bs a xs.length cap st L) Try.results9 trivial (HSub.sub sbA) ?_
    refine ⟨rfl, ?_⟩
    obtain ⟨l0, c0, rfl⟩ := hs1
    rw [hd, setC_cut (os := []) (by intro o ho; cases ho) (show c0 ≤ cost from c1)]
   ·
    try simp only [qz1, qz2, qz3, qz4, qz5, qz6, qz7, qz8] at c1
    have hnp : st = none ∨ ∃ l c, st = some (l, c) ∧ cost < c := by
     first
      | exact .inl hs1
      | (obtain ⟨l0, c0, rfl⟩ := hs1; exact .inr ⟨l0, c0, rfl, c1⟩)
    refine zR fun ds => ?_
    refine zm (.int .i64 _) hF ?_
    refine zD hF (y_load1 rf Try.isAgg22 (Mem.own1 3 rf rf)) ?_
    refine zD hF (y_len rf Try.runUnderlying22) ?_
    refine zD hF (y_eql rf rf) ?_
    refine za (.bool _) hF ?_
    refine zN ?_
    refine W_cond rf (fun c2 => ?_) (fun c2 => ?_)
    ·
     try simp only [qz1, qz2, qz3, qz4, qz5, qz6, qz7, qz8] at c2
     refine zR fun ds => ?_
     refine zD hF (y_loadN rf Try.isAgg35 Try.sizeOf35 (Mem.own (us := [.int .i64 _, .int .i64 _, .int .i64 _, .int .i64 _, .int .i64 _, .int .i64 _, .int .i64 _]) 0 rf rf) rf) ?_
     refine zm (.int .i64 _) hF ?_
     refine WS_store hF (i := 1) rf rf Try.sizeOf35 rf rf rf d2 ?_
     refine WS_store hF (i := 2) rf rf Try.sizeOf3 rf rf rf d2 ?_
     refine zN ?_
     refine W_ret ?_
     refine InB_ret ?_
     refine Then_ret ?_
     refine Fin_ret [] (sbl bb bl bo bs a xs.length cap (some (pre, cost)) L) Try.results9 trivial (HSub.sub sbA) ?_
     refine ⟨rfl, ?_⟩
     rw [hd, setC_end hnp]
    ·(simp only [decide_eq_false_iff_not] at c2; omega)
  ·
   try simp only [qz1, qz2, qz3, qz4, qz5, qz6, qz7, qz8] at g1_3
   have hs1 : st = none := by
    rw [szB_st hst om0] at g1_3
    exact Option.isSome_eq_false_iff.1 g1_3 |> Option.isNone_iff_eq_none.1
   refine zno hF ?_
   refine zno hF ?_
   refine zno hF ?_
   refine zD hF (zpk (.bool _)) ?_
   refine za (.bool _) hF ?_
   refine zN ?_
   refine W_cond rf (fun c1 => ?_) (fun c1 => ?_)
   ·cases c1
   ·
    try simp only [qz1, qz2, qz3, qz4, qz5, qz6, qz7, qz8] at c1
    have hnp : st = none ∨ ∃ l c, st = some (l, c) ∧ cost < c := by
     first
      | exact .inl hs1
      | (obtain ⟨l0, c0, rfl⟩ := hs1; exact .inr ⟨l0, c0, rfl, c1⟩)
    refine zR fun ds => ?_
    refine zm (.int .i64 _) hF ?_
    refine zD hF (y_load1 rf Try.isAgg22 (Mem.own1 3 rf rf)) ?_
    refine zD hF (y_len rf Try.runUnderlying22) ?_
    refine zD hF (y_eql rf rf) ?_
    refine za (.bool _) hF ?_
    refine zN ?_
    refine W_cond rf (fun c2 => ?_) (fun c2 => ?_)
    ·
     try simp only [qz1, qz2, qz3, qz4, qz5, qz6, qz7, qz8] at c2
     refine zR fun ds => ?_
     refine zD hF (y_loadN rf Try.isAgg35 Try.sizeOf35 (Mem.own (us := [.int .i64 _, .int .i64 _, .int .i64 _, .int .i64 _, .int .i64 _, .int .i64 _, .int .i64 _]) 0 rf rf) rf) ?_
     refine zm (.int .i64 _) hF ?_
     refine WS_store hF (i := 1) rf rf Try.sizeOf35 rf rf rf d2 ?_
     refine WS_store hF (i := 2) rf rf Try.sizeOf3 rf rf rf d2 ?_
     refine zN ?_
     refine W_ret ?_
     refine InB_ret ?_
     refine Then_ret ?_
     refine Fin_ret [] (sbl bb bl bo bs a xs.length cap (some (pre, cost)) L) Try.results9 trivial (HSub.sub sbA) ?_
     refine ⟨rfl, ?_⟩
     rw [hd, setC_end hnp]
    ·(simp only [decide_eq_false_iff_not] at c2; omega)
 | succ m ih =>
  intro ds0 out0 pre i cost left st L hip hm hp h0 h1 hl0 hl1 hst
  subst hip
  have hi : pre.length < xs.length := by omega
  have hd : xs.drop pre.length = xs.getD pre.length 0 :: xs.drop (pre.length + 1) := by
   rw [List.drop_eq_getElem_cons hi, List.getD_eq_getElem?_getD, List.getElem?_eq_getElem hi]; rfl
  have hos : ∀ o ∈ xs.drop (pre.length + 1), 0 ≤ o ∧ o ≤ 1000 := fun o ho => hv o (List.mem_of_mem_drop ho)
  obtain ⟨o, ho⟩ : ∃ o, o = xs.getD pre.length 0 := ⟨_, rfl⟩
  have hob : 0 ≤ o ∧ o ≤ 1000 := by
   rw [ho, List.getD_eq_getElem?_getD, List.getElem?_eq_getElem hi]
   exact hv _ (List.getElem_mem hi)
  have hol : pre.length + ((xs.drop (pre.length + 1)).length + 1) = xs.length := by rw [List.length_drop]; omega
  rw [hd, ← ho]
  obtain ⟨ab, ao, rfl, hc⟩ := hx.cell pre.length hi
  rw [← ho] at hc
  have hF := wide_wide
  refine Cs_start (args := [_, _, _, _, _, _, _, _]) Try.func9 rf Try.ntmps9 rf ?_
  refine zR fun ds => ?_
  refine WS_new hF rf (y_box rf) (fun b1 => ?_)
  refine zO ?_
  refine W_block ?_
  refine zR fun ds => ?_
  refine zD hF (y_loadN rf Try.isAgg35 Try.sizeOf35 (Mem.own (us := [.int .i64 _, .int .i64 _, .int .i64 _, .int .i64 _, .int .i64 _, .int .i64 _, .int .i64 _]) 1 rf rf) rf) ?_
  refine zD hF (y_buildL bd35 rf) ?_
  refine zD hF (y_neqlA rf rf (szNeq _)) ?_
  refine zm (.bool _) hF ?_
  refine WS_split 19 rf (fun g1_3 => ?_) (fun g1_3 => ?_)
  ·
   try simp only [qz1, qz2, qz3, qz4, qz5, qz6, qz7, qz8] at g1_3
   have hs1 : ∃ l0 c0, st = some (l0, c0) := by
    rw [szB_st hst om0] at g1_3
    obtain ⟨x, hx⟩ := Option.isSome_iff_exists.1 g1_3
    exact ⟨x.1, x.2, hx⟩
   refine zm (.int .i64 _) hF ?_
   refine zD hF (y_load1 rf Try.isAgg3 (Mem.own1 2 rf rf)) ?_
   refine zD hF (y_geq rf rf) ?_
   refine zD hF (zpk (.bool _)) ?_
   refine za (.bool _) hF ?_
   refine zN ?_
   refine W_cond rf (fun c1 => ?_) (fun c1 => ?_)
   ·
    try simp only [qz1, qz2, qz3, qz4, qz5, qz6, qz7, qz8] at c1
    refine W_ret ?_
    refine InB_ret ?_
    refine Then_ret ?_
    refine Fin_ret [] (sbl bb bl bo bs (some ⟨ab, ao, none⟩) xs.length cap st L) Try.results9 trivial (HSub.sub sbA) ?_
    refine ⟨rfl, ?_⟩
    obtain ⟨l0, c0, rfl⟩ := hs1
    rw [setC_cut (os := o :: xs.drop (pre.length + 1)) (by intro x hx; rcases List.mem_cons.1 hx with rfl | hx; exact hob; exact hos x hx) (show c0 ≤ cost from c1)]
   ·
    try simp only [qz1, qz2, qz3, qz4, qz5, qz6, qz7, qz8] at c1
    refine zR fun ds => ?_
    refine zm (.int .i64 _) hF ?_
    refine zD hF (y_load1 rf Try.isAgg22 (Mem.own1 3 rf rf)) ?_
    refine zD hF (y_len rf Try.runUnderlying22) ?_
    refine zD hF (y_eql rf rf) ?_
    refine za (.bool _) hF ?_
    refine zN ?_
    refine W_cond rf (fun c2 => ?_) (fun c2 => ?_)
    ·(simp only [decide_eq_true_eq] at c2; omega)
    ·
     try simp only [qz1, qz2, qz3, qz4, qz5, qz6, qz7, qz8] at c2
     refine W_skip ?_
     refine InB_normal ?_
     refine zS fun ds => ?_
     refine zm (.int .i64 _) hF ?_
     refine zN ?_
     refine W_block ?_
     refine W_loop (γ := Nat) (fun k => k ≤ 6) (fun k => [(1, .int .i64 (pre.length : Int)), (2, .int .i64 cost), (3, .int .i64 left), (4, .pointer (some ⟨bb, 0, none⟩)), (5, .pointer (some ⟨bl, 0, none⟩)), (6, .pointer (some ⟨bo, 0, none⟩)), (7, .pointer (some ⟨bs, 0, none⟩)), (8, .pointer (some ⟨b1, 0, none⟩)), (31, .int .i64 (k : Int))]) (fun k => (b1, CB (szL pre).cells 35) :: sbl bb bl bo bs (some ⟨ab, ao, none⟩) xs.length cap (setK st pre cost o (xs.drop (pre.length + 1)) left k) L) (fun k => 6 - k) (0) (Nat.zero_le _) s10 ((by rw [setK_zero]; exact sbA)) ?_
     rintro k e hk
     refine zR fun ds => ?_
     refine zD hF (y_lss rf rf) ?_
     refine zO ?_
     refine W_cond rf (fun c5 => ?_) (fun c5 => ?_)
     ·
      try simp only [qz1, qz2, qz3, qz4, qz5, qz6, qz7, qz8] at c5
      have hsb := sh_bd (k := k) om0
      have hko := setK_ok (left := left) hst hp h0 h1 hob hos hol hk
      have hm1 : 0 ≤ o * ((k : Int) + 1) := Int.mul_nonneg hob.1 om0
      have hm2 : o * ((k : Int) + 1) ≤ 1000 * 6 := Int.mul_le_mul hob.2 om0 om0 om0
      have hs7 : splice (szL pre).cells (0 + pre.length * 1) [.int .i64 ((k : Int) + 1)] = (szL (pre ++ [k + 1])).cells := by
       rw [Sz.splice _ _ om0]
       exact congrArg Sz.cells (szL_put pre (k + 1) om0)
      have hdr : xs.drop (pre ++ [k + 1]).length = xs.drop (pre.length + 1) := by rw [List.length_append]; rfl
      refine zU ?_
      refine W_seq ?_
      refine W_block ?_
      refine zR fun ds => ?_
      refine zm (.int .i64 _) hF ?_
      refine za (.int .i64 _) hF ?_
      refine zP fun ds => ?_
      refine zm (.int .i64 _) hF ?_
      refine zD hF (y_add rf rf ui) ?_
      refine zD hF (YD_eq (y_shrW (m := 64) (i := k + 1) rf rf om0) (congrArg (Value.int .i64) (sh_nat (k + 1)).symm)) ?_
      refine za (.int .i64 _) hF ?_
      refine zP fun ds => ?_
      refine zm (.int .i64 _) hF ?_
      refine zm (.int .i64 _) hF ?_
      refine zD hF (y_leq rf rf) ?_
      refine zN ?_
      refine W_cond rf (fun c8 => ?_) (fun c8 => ?_)
      ·
       try simp only [qz1, qz2, qz3, qz4, qz5, qz6, qz7, qz8] at c8
       have hgo := setK_go (st := st) (pre := pre) (cost := cost) (o := o) (os := xs.drop (pre.length + 1)) (left := left) (k := k) c8
       refine zR fun ds => ?_
       refine zD hF (y_loadN rf Try.isAgg35 Try.sizeOf35 (Mem.own (us := [.int .i64 _, .int .i64 _, .int .i64 _, .int .i64 _, .int .i64 _, .int .i64 _, .int .i64 _]) 0 rf rf) rf) ?_
       refine WS_new hF rf (y_alloc Try.zeroValue35 rf) (fun bn => ?_)
       refine WS_store hF (i := 0) rf rf Try.sizeOf35 rf rf rf d2 ?_
       refine zP fun ds => ?_
       refine zm (.int .i64 _) hF ?_
       refine zm (.int .i64 _) hF ?_
       refine zD hF (y_add rf rf ui) ?_
       refine zD hF (y_indexA (k := pre.length) rf rf (by first | rfl | omega) (by first | decide | omega) Try.runUnderlying35 Try.sizeOf3) ?_
       refine WS_store hF (i := 0) rf rf Try.sizeOf3 rf rf rf (by show 0 + pre.length * 1 + 1 ≤ 7; omega) ?_
       refine zN ?_
       refine W_H (congrArg (fun x => (bn, CB x 35) :: _) hs7) ?_
       apply W_drawMT 16 hF Trymixed [] [] [] rf (by decide +kernel) (by decide) HSub.refl
       intro ds
       refine P_det rf (Over_nil (y_load1 rf Try.isAgg36 (Mem.own1 5 rf rf))) ?_
       refine P_det rf (Over_nil (y_loadN rf Try.isAgg35 Try.sizeOf35 (Mem.own (us := [.int .i64 _, .int .i64 _, .int .i64 _, .int .i64 _, .int .i64 _, .int .i64 _, .int .i64 _]) 0 rf rf) rf)) ?_
       refine P_det rf (Over_nil (y_move (c := .int .i64 _) rf)) ?_
       refine P_det rf (Over_nil (y_add rf rf ui)) ?_
       refine P_det rf (Over_nil (y_move (c := .int .i64 _) rf)) ?_
       refine P_det rf (Over_nil (y_load1 rf Try.isAgg22 (Mem.own1 4 rf rf))) ?_
       refine P_det rf (Over_nil (y_move (c := .int .i64 _) rf)) ?_
       refine P_det rf (Over_nil (y_index (k := pre.length) rf rf (by first | rfl | omega) (by first | decide | omega) Try.runUnderlying22 Try.sizeOf3)) ?_
       refine P_det rf (Over_nil (y_load1 rf Try.isAgg3 (by first | exact Mem.old1 (by assumption) | exact Mem.oldAt1 (by assumption) rf | exact Mem.old (by assumption) | exact Mem.oldAtL1 (by assumption) rf rf))) ?_
       refine P_det rf (Over_nil (y_move (c := .int .i64 _) rf)) ?_
       refine P_det rf (Over_nil (y_add rf rf ui)) ?_
       refine P_det rf (Over_nil (y_mul rf rf ui)) ?_
       refine P_det rf (Over_nil (y_add rf rf ui)) ?_
       refine P_det rf (Over_nil (y_move (c := .int .i64 _) rf)) ?_
       refine P_det rf (Over_nil (y_move (c := .int .i64 _) rf)) ?_
       refine P_det rf (Over_nil (y_sub rf rf ui)) ?_
       refine PW_end rf ?_
       refine OverAll_nil ?_
       rintro -
       refine WS_subW ((SubP.hsub (SubP.pick 2 rf (SubP.pick 2 rf (SubP.pick 2 rf (SubP.pick 2 rf (SubP.pick 1 rf (by exact SubP.drop (SubP.refl))))))))) ?_
       refine WS_callS hF rf rf rf Try.call9 (ih _ _ (pre ++ [k + 1]) (pre.length + 1) (cost + o * ((k + 1 : Nat) : Int)) (left - sh (k + 1)) (setK st pre cost o (xs.drop (pre.length + 1)) left k) (_ :: L) (by rw [List.length_append, List.length_singleton]) (by rw [List.length_append, List.length_singleton]; omega) (fun x hx => by rcases List.mem_append.1 hx with hx | hx; exact hp x hx; rw [List.mem_singleton] at hx; omega) (by push_cast; omega) (by rw [List.length_append, List.length_singleton]; push_cast; omega) om0 om0 hko) ?_
       rintro _ _ ⟨rfl, rfl⟩
       rw [hdr, hgo]
       refine WS_subW ((SubP.hsub (SubP.pick 4 rf (SubP.pick 0 rf (SubP.pick 0 rf (SubP.pick 0 rf (SubP.pick 0 rf (by exact SubP.refl)))))))) ?_
       refine WS_nil ?_
       refine InB_normal ?_
       refine zT fun ds => ?_
       refine zD hF (y_add rf rf ui) ?_
       refine zm (.int .i64 _) hF ?_
       refine WS_nil ?_
       exact Loop_next (k + 1) om0 s10 sbA om0
      ·
       try simp only [qz1, qz2, qz3, qz4, qz5, qz6, qz7, qz8] at c8
       have hsk : setK st pre cost o (xs.drop (pre.length + 1)) left (k + 1) = setK st pre cost o (xs.drop (pre.length + 1)) left k := setK_skip om0
       refine W_skip ?_
       refine InB_normal ?_
       refine zT fun ds => ?_
       refine zD hF (y_add rf rf ui) ?_
       refine zm (.int .i64 _) hF ?_
       refine WS_nil ?_
       exact Loop_next (k + 1) om0 s10 (by rw [hsk]; exact sbA) om0
     ·
      try simp only [qz1, qz2, qz3, qz4, qz5, qz6, qz7, qz8] at c5
      refine W_exit ?_
      refine Then_exit ?_
      refine Loop_exit ?_
      refine InB_same ?_
      refine Fin_norm [] (sbl bb bl bo bs (some ⟨ab, ao, none⟩) xs.length cap (setK st pre cost o (xs.drop (pre.length + 1)) left k) L) Try.results9 trivial (HSub.sub sbA) ?_
      refine ⟨rfl, ?_⟩
      obtain rfl : k = 6 := by omega
      rfl
  ·
   try simp only [qz1, qz2, qz3, qz4, qz5, qz6, qz7, qz8] at g1_3
   refine zno hF ?_
   refine zno hF ?_
   refine zno hF ?_
   refine zD hF (zpk (.bool _)) ?_
   refine za (.bool _) hF ?_
   refine zN ?_
   refine W_cond rf (fun c1 => ?_) (fun c1 => ?_)
   ·cases c1
   ·
    try simp only [qz1, qz2, qz3, qz4, qz5, qz6, qz7, qz8] at c1
    refine zR fun ds => ?_
    refine zm (.int .i64 _) hF ?_
    refine zD hF (y_load1 rf Try.isAgg22 (Mem.own1 3 rf rf)) ?_
    refine zD hF (y_len rf Try.runUnderlying22) ?_
    refine zD hF (y_eql rf rf) ?_
    refine za (.bool _) hF ?_
    refine zN ?_
    refine W_cond rf (fun c2 => ?_) (fun c2 => ?_)
    ·(simp only [decide_eq_true_eq] at c2; omega)
    ·
     try simp only [qz1, qz2, qz3, qz4, qz5, qz6, qz7, qz8] at c2
     refine W_skip ?_
     refine InB_normal ?_
     refine zS fun ds => ?_
     refine zm (.int .i64 _) hF ?_
     refine zN ?_
     refine W_block ?_
     refine W_loop (γ := Nat) (fun k => k ≤ 6) (fun k => [(1, .int .i64 (pre.length : Int)), (2, .int .i64 cost), (3, .int .i64 left), (4, .pointer (some ⟨bb, 0, none⟩)), (5, .pointer (some ⟨bl, 0, none⟩)), (6, .pointer (some ⟨bo, 0, none⟩)), (7, .pointer (some ⟨bs, 0, none⟩)), (8, .pointer (some ⟨b1, 0, none⟩)), (31, .int .i64 (k : Int))]) (fun k => (b1, CB (szL pre).cells 35) :: sbl bb bl bo bs (some ⟨ab, ao, none⟩) xs.length cap (setK st pre cost o (xs.drop (pre.length + 1)) left k) L) (fun k => 6 - k) (0) (Nat.zero_le _) s10 ((by rw [setK_zero]; exact sbA)) ?_
     rintro k e hk
     refine zR fun ds => ?_
     refine zD hF (y_lss rf rf) ?_
     refine zO ?_
     refine W_cond rf (fun c5 => ?_) (fun c5 => ?_)
     ·
      try simp only [qz1, qz2, qz3, qz4, qz5, qz6, qz7, qz8] at c5
      have hsb := sh_bd (k := k) om0
      have hko := setK_ok (left := left) hst hp h0 h1 hob hos hol hk
      have hm1 : 0 ≤ o * ((k : Int) + 1) := Int.mul_nonneg hob.1 om0
      have hm2 : o * ((k : Int) + 1) ≤ 1000 * 6 := Int.mul_le_mul hob.2 om0 om0 om0
      have hs7 : splice (szL pre).cells (0 + pre.length * 1) [.int .i64 ((k : Int) + 1)] = (szL (pre ++ [k + 1])).cells := by
       rw [Sz.splice _ _ om0]
       exact congrArg Sz.cells (szL_put pre (k + 1) om0)
      have hdr : xs.drop (pre ++ [k + 1]).length = xs.drop (pre.length + 1) := by rw [List.length_append]; rfl
      refine zU ?_
      refine W_seq ?_
      refine W_block ?_
      refine zR fun ds => ?_
      refine zm (.int .i64 _) hF ?_
      refine za (.int .i64 _) hF ?_
      refine zP fun ds => ?_
      refine zm (.int .i64 _) hF ?_
      refine zD hF (y_add rf rf ui) ?_
      refine zD hF (YD_eq (y_shrW (m := 64) (i := k + 1) rf rf om0) (congrArg (Value.int .i64) (sh_nat (k + 1)).symm)) ?_
      refine za (.int .i64 _) hF ?_
      refine zP fun ds => ?_
      refine zm (.int .i64 _) hF ?_
      refine zm (.int .i64 _) hF ?_
      refine zD hF (y_leq rf rf) ?_
      refine zN ?_
      refine W_cond rf (fun c8 => ?_) (fun c8 => ?_)
      ·
       try simp only [qz1, qz2, qz3, qz4, qz5, qz6, qz7, qz8] at c8
       have hgo := setK_go (st := st) (pre := pre) (cost := cost) (o := o) (os := xs.drop (pre.length + 1)) (left := left) (k := k) c8
       refine zR fun ds => ?_
       refine zD hF (y_loadN rf Try.isAgg35 Try.sizeOf35 (Mem.own (us := [.int .i64 _, .int .i64 _, .int .i64 _, .int .i64 _, .int .i64 _, .int .i64 _, .int .i64 _]) 0 rf rf) rf) ?_
       refine WS_new hF rf (y_alloc Try.zeroValue35 rf) (fun bn => ?_)
       refine WS_store hF (i := 0) rf rf Try.sizeOf35 rf rf rf d2 ?_
       refine zP fun ds => ?_
       refine zm (.int .i64 _) hF ?_
       refine zm (.int .i64 _) hF ?_
       refine zD hF (y_add rf rf ui) ?_
       refine zD hF (y_indexA (k := pre.length) rf rf (by first | rfl | omega) (by first | decide | omega) Try.runUnderlying35 Try.sizeOf3) ?_
       refine WS_store hF (i := 0) rf rf Try.sizeOf3 rf rf rf (by show 0 + pre.length * 1 + 1 ≤ 7; omega) ?_
       refine zN ?_
       refine W_H (congrArg (fun x => (bn, CB x 35) :: _) hs7) ?_
       apply W_drawMT 16 hF Trymixed [] [] [] rf (by decide +kernel) (by decide) HSub.refl
       intro ds
       refine P_det rf (Over_nil (y_load1 rf Try.isAgg36 (Mem.own1 5 rf rf))) ?_
       refine P_det rf (Over_nil (y_loadN rf Try.isAgg35 Try.sizeOf35 (Mem.own (us := [.int .i64 _, .int .i64 _, .int .i64 _, .int .i64 _, .int .i64 _, .int .i64 _, .int .i64 _]) 0 rf rf) rf)) ?_
       refine P_det rf (Over_nil (y_move (c := .int .i64 _) rf)) ?_
       refine P_det rf (Over_nil (y_add rf rf ui)) ?_
       refine P_det rf (Over_nil (y_move (c := .int .i64 _) rf)) ?_
       refine P_det rf (Over_nil (y_load1 rf Try.isAgg22 (Mem.own1 4 rf rf))) ?_
       refine P_det rf (Over_nil (y_move (c := .int .i64 _) rf)) ?_
       refine P_det rf (Over_nil (y_index (k := pre.length) rf rf (by first | rfl | omega) (by first | decide | omega) Try.runUnderlying22 Try.sizeOf3)) ?_
       refine P_det rf (Over_nil (y_load1 rf Try.isAgg3 (by first | exact Mem.old1 (by assumption) | exact Mem.oldAt1 (by assumption) rf | exact Mem.old (by assumption) | exact Mem.oldAtL1 (by assumption) rf rf))) ?_
       refine P_det rf (Over_nil (y_move (c := .int .i64 _) rf)) ?_
       refine P_det rf (Over_nil (y_add rf rf ui)) ?_
       refine P_det rf (Over_nil (y_mul rf rf ui)) ?_
       refine P_det rf (Over_nil (y_add rf rf ui)) ?_
       refine P_det rf (Over_nil (y_move (c := .int .i64 _) rf)) ?_
       refine P_det rf (Over_nil (y_move (c := .int .i64 _) rf)) ?_
       refine P_det rf (Over_nil (y_sub rf rf ui)) ?_
       refine PW_end rf ?_
       refine OverAll_nil ?_
       rintro -
       refine WS_subW ((SubP.hsub (SubP.pick 2 rf (SubP.pick 2 rf (SubP.pick 2 rf (SubP.pick 2 rf (SubP.pick 1 rf (by exact SubP.drop (SubP.refl))))))))) ?_
       refine WS_callS hF rf rf rf Try.call9 (ih _ _ (pre ++ [k + 1]) (pre.length + 1) (cost + o * ((k + 1 : Nat) : Int)) (left - sh (k + 1)) (setK st pre cost o (xs.drop (pre.length + 1)) left k) (_ :: L) (by rw [List.length_append, List.length_singleton]) (by rw [List.length_append, List.length_singleton]; omega) (fun x hx => by rcases List.mem_append.1 hx with hx | hx; exact hp x hx; rw [List.mem_singleton] at hx; omega) (by push_cast; omega) (by rw [List.length_append, List.length_singleton]; push_cast; omega) om0 om0 hko) ?_
       rintro _ _ ⟨rfl, rfl⟩
       rw [hdr, hgo]
       refine WS_subW ((SubP.hsub (SubP.pick 4 rf (SubP.pick 0 rf (SubP.pick 0 rf (SubP.pick 0 rf (SubP.pick 0 rf (by exact SubP.refl)))))))) ?_
       refine WS_nil ?_
       refine InB_normal ?_
       refine zT fun ds => ?_
       refine zD hF (y_add rf rf ui) ?_
       refine zm (.int .i64 _) hF ?_
       refine WS_nil ?_
       exact Loop_next (k + 1) om0 s10 sbA om0
      ·
       try simp only [qz1, qz2, qz3, qz4, qz5, qz6, qz7, qz8] at c8
       have hsk : setK st pre cost o (xs.drop (pre.length + 1)) left (k + 1) = setK st pre cost o (xs.drop (pre.length + 1)) left k := setK_skip om0
       refine W_skip ?_
       refine InB_normal ?_
       refine zT fun ds => ?_
       refine zD hF (y_add rf rf ui) ?_
       refine zm (.int .i64 _) hF ?_
       refine WS_nil ?_
       exact Loop_next (k + 1) om0 s10 (by rw [hsk]; exact sbA) om0
     ·
      try simp only [qz1, qz2, qz3, qz4, qz5, qz6, qz7, qz8] at c5
      refine W_exit ?_
      refine Then_exit ?_
      refine Loop_exit ?_
      refine InB_same ?_
      refine Fin_norm [] (sbl bb bl bo bs (some ⟨ab, ao, none⟩) xs.length cap (setK st pre cost o (xs.drop (pre.length + 1)) left k) L) Try.results9 trivial (HSub.sub sbA) ?_
      refine ⟨rfl, ?_⟩
      obtain rfl : k = 6 := by omega
      rfl
def SpR (r : Option (List Str)) (v : Value) (Hn : List Blk) : Prop :=
 match r with
 | none => v = .slice none 0 0
 | some R => ∃ a cap Hf, v = .slice a R.length cap ∧ NewRow 9 1 R.length (sL R) (.slice a R.length cap) Hf ∧ Hf.Sublist Hn
theorem sz_at {w : World} {b : Nat} {ls : List Nat} (h : At w b 0 (szL ls).cells) {k : Nat} (hk : k < 7) : At w b (0 + k * 1) [.int .i64 ((ls.getD k 0 : Nat) : Int)] := by
 obtain ⟨h0, h1, h2, h3, h4, h5, h6, _⟩ := h
 obtain rfl | rfl | rfl | rfl | rfl | rfl | rfl := seven hk
 ·exact ⟨h0, trivial⟩
 ·exact ⟨h1, trivial⟩
 ·exact ⟨h2, trivial⟩
 ·exact ⟨h3, trivial⟩
 ·exact ⟨h4, trivial⟩
 ·exact ⟨h5, trivial⟩
 ·exact ⟨h6, trivial⟩
theorem ls_bd {ls : List Nat} (h : ∀ x ∈ ls, 1 ≤ x ∧ x ≤ 6) (k : Nat) : ls.getD k 0 ≤ 6 := by
 rw [List.getD_eq_getElem?_getD]
 by_cases hk : k < ls.length
 ·rw [List.getElem?_eq_getElem hk]; exact (h _ (List.getElem_mem hk)).2
 ·rw [List.getElem?_eq_none om0]; exact Nat.zero_le _
theorem hsub_fin {x y z : Blk} {R M N F : List Blk} (h : F.Sublist (M ++ N)) : HSub (x :: y :: z :: ((R ++ M) ++ N)) ((y :: z :: F) ++ R) := fun _ _ h0 => by
 have h1 := HSub.sub (List.sublist_cons_self _ _) _ _ h0
 have h2 := h1.perm (H' := y :: z :: ((M ++ N) ++ R)) (List.Perm.cons _ (List.Perm.cons _ (by rw [List.append_assoc R M N]; exact List.perm_append_comm)))
 exact HSub.sub (((h.append_right R).cons_cons z).cons_cons y) _ _ h2
theorem sL_snoc (xs : List Str) (s : Str) : rowOf sE (fun k => xs.getD k []) xs.length ++ [sv s] = sL (xs ++ [s]) := by
 rw [sL_row]; unfold sL; rw [List.map_append]; rfl
theorem spellw_any (bo bb bp : Nat) (a : Option Addr) (n cap : Nat) (ls : List Nat) (hn1 : 1 ≤ n) (hn7 : n ≤ 7) (hls : ls.length = n) (hl6 : ∀ x ∈ ls, 1 ≤ x ∧ x ≤ 6) :
  ∀ (m : Nat) (ws : List Str) (i : Nat) (wa : Option Addr) (wcap : Nat) (w : World), i = ws.length → ws.length + m = n → At w bo 0 [.slice a n cap] → At w bb 0 (szL ls).cells → At w bp 0 [.func (.func 10) #[] #[.pointer (some ⟨bo, 0, none⟩), .pointer (some ⟨bb, 0, none⟩), .pointer (some ⟨bp, 0, none⟩)]] → Txs w wa ws.length wcap ws →
  Ct Try.prog 10 #[.slice wa i wcap, .pointer (some ⟨bo, 0, none⟩), .pointer (some ⟨bb, 0, none⟩), .pointer (some ⟨bp, 0, none⟩)] w fun v Hn => (m = 0 → v = .slice wa i wcap) ∧ (0 < m → SpR (spL ls m ws) v Hn) := by
 intro m
 induction m with
 | zero =>
  intro ws i wa wcap w hi hm hbo hbb hbp hx
  subst hi
  have hF := wide_wide
  refine Ct_start (args := [_, _, _, _]) Try.func10 rf Try.ntmps10 rf ?_
  refine zR fun ds => ?_
  refine WS_new hF rf (y_box rf) (fun b1 => ?_)
  refine WS_new hF rf (y_alloc Try.zeroValue23 rf) (fun b2 => ?_)
  refine zO ?_
  refine zR fun ds => ?_
  refine zD hF (y_load1 rf Try.isAgg23 (Mem.own1 1 rf rf)) ?_
  refine zD hF (y_len rf Try.runUnderlying23) ?_
  refine zD hF (y_load1 rf Try.isAgg22 (by first | exact Mem.old1 (by assumption) | exact Mem.oldAt1 (by assumption) rf | exact Mem.old (by assumption) | exact Mem.oldAtL1 (by assumption) rf rf)) ?_
  refine zD hF (y_len rf Try.runUnderlying22) ?_
  refine zD hF (y_eql rf rf) ?_
  refine zN ?_
  refine W_cond rf (fun c1 => ?_) (fun c1 => ?_)
  ·
   try simp only [qz1, qz2, qz3, qz4, qz5, qz6, qz7, qz8] at c1
   refine zR fun ds => ?_
   refine zD hF (y_load1 rf Try.isAgg23 (Mem.own1 1 rf rf)) ?_
   refine WS_store hF (i := 0) rf rf Try.sizeOf23 rf rf rf d2 ?_
   refine zN ?_
   refine W_ret ?_
   refine Then_ret ?_
   refine Fin_ret [_] [] Try.results10 ⟨lv1 rf Try.isAgg23 (Mem.own1 0 rf rf), trivial⟩ (HSub.sub sbA) ?_
   exact ⟨fun _ => rfl, fun h => absurd h (Nat.lt_irrefl _)⟩
  ·(simp only [decide_eq_false_iff_not] at c1; omega)
 | succ m ih =>
  intro ws i wa wcap w hi hm hbo hbb hbp hx
  subst hi
  have hcell := sz_at hbb (k := ws.length) om0
  have hnn := ls_bd hl6 ws.length
  obtain ⟨nn, hnd⟩ : ∃ nn, nn = ls.getD ws.length 0 := ⟨_, rfl⟩
  rw [← hnd] at hcell hnn
  have hsp : spL ls (m + 1) ws = frK (spF ls m ws) (2 ^ nn) := by rw [spL_succ, hnd]
  have hF := wide_wide
  refine Ct_start (args := [_, _, _, _]) Try.func10 rf Try.ntmps10 rf ?_
  refine zR fun ds => ?_
  refine WS_new hF rf (y_box rf) (fun b1 => ?_)
  refine WS_new hF rf (y_alloc Try.zeroValue23 rf) (fun b2 => ?_)
  refine zO ?_
  refine zR fun ds => ?_
  refine zD hF (y_load1 rf Try.isAgg23 (Mem.own1 1 rf rf)) ?_
  refine zD hF (y_len rf Try.runUnderlying23) ?_
  refine zD hF (y_load1 rf Try.isAgg22 (by first | exact Mem.old1 (by assumption) | exact Mem.oldAt1 (by assumption) rf | exact Mem.old (by assumption) | exact Mem.oldAtL1 (by assumption) rf rf)) ?_
  refine zD hF (y_len rf Try.runUnderlying22) ?_
  refine zD hF (y_eql rf rf) ?_
  refine zN ?_
  refine W_cond rf (fun c1 => ?_) (fun c1 => ?_)
  ·(simp only [decide_eq_true_eq] at c1; omega)
  ·
   try simp only [qz1, qz2, qz3, qz4, qz5, qz6, qz7, qz8] at c1
   refine zU ?_
   refine W_seq ?_
   refine zR fun ds => ?_
   refine zD hF (y_load1 rf Try.isAgg23 (Mem.own1 1 rf rf)) ?_
   refine zD hF (y_len rf Try.runUnderlying23) ?_
   refine zD hF (y_indexA (k := ws.length) rf rf (by first | rfl | omega) (by first | decide | omega) Try.runUnderlying35 Try.sizeOf3) ?_
   refine zD hF (y_load1 rf Try.isAgg3 (by first | exact Mem.old1 (by assumption) | exact Mem.oldAt1 (by assumption) rf | exact Mem.old (by assumption) | exact Mem.oldAtL1 (by assumption) rf rf)) ?_
   refine WS_gen hF rf (y_callL rf rf Try.call11 (fun w hw => all_any nn w)) ?_
   rintro _ _ ⟨bn, rfl, rfl⟩
   refine zN ?_
   refine W_block ?_
   refine W_range hF rf (encs := (fun k => [sv (wordB nn k)])) (N := 2 ^ nn) (H0 := [(bn, CB [.int .i64 (nn : Int)] 3)]) (G0 := [_, _]) (fun k G => frK (spF ls m ws) k = none ∧ G = [(b2, CB [.slice none 0 0] 23), (b1, CB [.slice wa ws.length wcap] 23)]) (fun c k G => c = .ret ∧ ∃ R ra rcap Hf, frK (spF ls m ws) k = some R ∧ NewRow 9 1 R.length (sL R) (.slice ra R.length rcap) Hf ∧ G = (b2, CB [.slice ra R.length rcap] 23) :: (b1, CB [.slice wa ws.length wcap] 23) :: Hf) rf Try.call18 rf (fun _ => rfl) (fun ds => all_it _ _ _ bn nn hnn) (⟨rfl, rfl⟩) (HSub.refl) ?_ ?_ ?_
   ·rintro k hk G hj out lpr R R'
    have hF := wide_inRound wide_wide lpr
    obtain ⟨hno, rfl⟩ := hj
    refine W_region_lit (fun ds => ?_)
    refine za (sv _) hF ?_
    refine zN ?_
    refine ⟨[_, _], rfl, ?_⟩
    refine W_block ?_
    refine zR fun ds => ?_
    refine zD hF (y_load1 rf Try.isAgg23 (Mem.own1 1 rf rf)) ?_
    refine WS_gen hF rf (y_callL rf rf Try.call12 (fun w hw => cloneS_any wa ws.length wcap ws w om0 (hx.st w hw))) ?_
    rintro _ Hc hrow
    have hrow2 := hrow
    obtain ⟨ca, ccap, rfl, _⟩ := hrow2
    refine zm (sv _) hF ?_
    refine WS_newS hF rf (y_buildSliceL bs23_1_0 rf) (fun bx => ?_)
    refine WS_subW (H' := _ :: _ :: _ :: (R' ++ Hc)) (fun _ _ h => h.perm (List.Perm.cons _ (List.perm_append_comm (l₁ := _ :: _ :: R') (l₂ := Hc)))) ?_
    refine WS_appendW hF (n' := ws.length) (m := 1) (H1 := (_ :: _ :: _ :: (R'))) (Hn := Hc) rf rf rf Try.underlying23 infStr rf rf hrow (rowOf_len sE_len _ _) (.inr ⟨_, _, rfl, Mem.own (us := [sv _]) 0 rf rf⟩) rf rf om0 om0 om0 ?_
    intro ma mcap Hm hrow3
    rw [sL_snoc] at hrow3
    refine za (.slice _ _ _) hF ?_
    refine zP fun ds => ?_
    refine zm (.slice _ _ _) hF ?_
    refine zD hF (y_callL rf rf Try.call13 (fun w hw => free_any ma (ws.length + 1) mcap (ws ++ [wordB nn k]) w om0 om0 (Txs.of hrow3 (by rw [List.length_append]; rfl) sbA w hw))) ?_
    refine zN ?_
    refine W_cond rf (fun c6 => ?_) (fun c6 => ?_)
    ·
     try simp only [qz1, qz2, qz3, qz4, qz5, qz6, qz7, qz8] at c6
     have hspf : spF ls m ws k = spL ls m (ws ++ [wordB nn k]) := by unfold spF; rw [← hnd, if_pos c6]
     refine zR fun ds => ?_
     refine zD hF (y_load1 rf Try.isAgg37 (by first | exact Mem.old1 (by assumption) | exact Mem.oldAt1 (by assumption) rf | exact Mem.old (by assumption) | exact Mem.oldAtL1 (by assumption) rf rf)) ?_
     refine zm (.slice _ _ _) hF ?_
     refine WS_gen hF rf (y_callL rf rf Try.call10 (fun w hw => ih (ws ++ [wordB nn k]) (ws.length + 1) ma mcap w (by rw [List.length_append]; rfl) (by rw [List.length_append, List.length_singleton]; omega) (At.old hw.1 hbo) (At.old hw.1 hbb) (At.old hw.1 hbp) (by rw [List.length_append]; exact Txs.of hrow3 (by rw [List.length_append]; rfl) sbA w hw))) ?_
     rintro v0 Hq ⟨hz, hpz⟩
     have hres : (spL ls m (ws ++ [wordB nn k]) = none ∧ v0 = .slice none 0 0) ∨ ∃ R oa ocap Hf, spL ls m (ws ++ [wordB nn k]) = some R ∧ 0 < R.length ∧ v0 = .slice oa R.length ocap ∧ NewRow 9 1 R.length (sL R) (.slice oa R.length ocap) Hf ∧ Hf.Sublist (Hm ++ Hq) := by
      by_cases hm0 : m = 0
      ·subst hm0
       refine .inr ⟨ws ++ [wordB nn k], ma, mcap, Hm, by rw [spL], by simp, ?_, ?_, List.sublist_append_left _ _⟩
       ·rw [hz rfl, List.length_append]; rfl
       ·rw [List.length_append]; exact hrow3
      ·have h := hpz om0
       cases hs : spL ls m (ws ++ [wordB nn k]) with
       | none => rw [hs] at h; exact .inl ⟨rfl, h⟩
       | some R =>
        rw [hs] at h
        obtain ⟨oa, ocap, Hf, h1, h2, h3⟩ := h
        have hlen := spL_len ls m _ R hs
        rw [List.length_append, List.length_singleton] at hlen
        exact .inr ⟨R, oa, ocap, Hf, rfl, by omega, h1, h2, h3.trans (List.sublist_append_right _ _)⟩
     refine WS_back ?_
     obtain ⟨oa, on, ocap, hv0, hnil⟩ : ∃ oa on ocap, v0 = .slice oa on ocap ∧ (oa.isNone = true → spL ls m (ws ++ [wordB nn k]) = none) := by
      rcases hres with ⟨h1, h2⟩ | ⟨R, oa, ocap, Hf, h1, h2, h3, h4, h5⟩
      ·exact ⟨none, 0, 0, h2, fun _ => h1⟩
      ·refine ⟨oa, R.length, ocap, h3, fun h => ?_⟩
       obtain ⟨_, _, rfl, _⟩ := NewRow.head h4 h2
       cases h
     subst hv0
     refine za (.slice _ _ _) hF ?_
     refine zP fun ds => ?_
     refine zm (.slice _ _ _) hF ?_
     refine zD hF (y_neqNilW rf rf Try.runUnderlying23) ?_
     refine zN ?_
     refine W_cond rf (fun c8 => ?_) (fun c8 => ?_)
     ·
      try simp only [qz1, qz2, qz3, qz4, qz5, qz6, qz7, qz8] at c8
      obtain ⟨R0, Hf0, hhit, hrow0, rfl, hsb0⟩ : ∃ R0 Hf0, frK (spF ls m ws) (k + 1) = some R0 ∧ NewRow 9 1 R0.length (sL R0) (.slice oa R0.length ocap) Hf0 ∧ on = R0.length ∧ Hf0.Sublist (Hm ++ Hq) := by
       rcases hres with ⟨h1, h2⟩ | ⟨R, oa', ocap', Hf, h1, h2, h3, h4, h5⟩
       ·cases h2; cases c8
       ·cases h3
        exact ⟨R, Hf, by rw [frK_next hno, hspf]; exact h1, h4, rfl, h5⟩
      refine zR fun ds => ?_
      refine zm (.slice _ _ _) hF ?_
      refine WS_store hF (i := 1) rf rf Try.sizeOf23 rf rf rf d2 ?_
      refine zN ?_
      refine W_ret ?_
      refine InB_ret ?_
      exact ⟨(b2, CB [.slice oa R0.length ocap] 23) :: (b1, CB [.slice wa ws.length wcap] 23) :: Hf0, show HSub ((bx, CB [sv (wordB nn k)] 9) :: (b2, CB [.slice oa R0.length ocap] 23) :: (b1, CB [.slice wa ws.length wcap] 23) :: ((R' ++ Hm) ++ Hq)) _ from hsub_fin hsb0, rfl, R0, oa, ocap, Hf0, hhit, hrow0, rfl⟩
     ·
      try simp only [qz1, qz2, qz3, qz4, qz5, qz6, qz7, qz8] at c8
      have hno2 : frK (spF ls m ws) (k + 1) = none := by rw [frK_next hno, hspf]; exact hnil c8
      refine W_skip ?_
      refine InB_normal ?_
      refine ⟨[_, _], HSub.sub sbA, hno2, rfl⟩
    ·
     try simp only [qz1, qz2, qz3, qz4, qz5, qz6, qz7, qz8] at c6
     have hno2 : frK (spF ls m ws) (k + 1) = none := by rw [frK_next hno]; unfold spF; rw [← hnd, if_neg (by rw [c6]; exact Bool.false_ne_true)]
     refine W_skip ?_
     refine InB_normal ?_
     refine ⟨[_, _], HSub.sub sbA, hno2, rfl⟩
   ·rintro G hj
    obtain ⟨hno, rfl⟩ := hj
    refine InB_normal ?_
    refine zS fun ds => ?_
    refine WS_store hF (i := 1) rf rf Try.sizeOf23 rf rf rf d2 ?_
    refine zN ?_
    refine W_ret ?_
    refine Fin_ret [_] [] Try.results10 ⟨lv1 rf Try.isAgg23 (Mem.own1 1 rf rf), trivial⟩ (HSub.sub sbA) ?_
    refine ⟨fun h => om0, fun _ => ?_⟩
    rw [hsp, hno]; rfl
   ·rintro c k G hk hj
    obtain ⟨rfl, R0, ra, rcap, Hf, hsome, hrow0, rfl⟩ := hj
    refine W_ret ?_
    refine InB_ret ?_
    refine Then_ret ?_
    refine Fin_ret [_] Hf Try.results10 ⟨lv1 rf Try.isAgg23 (Mem.own1 1 rf rf), trivial⟩ (HSub.sub sbA) ?_
    refine ⟨fun h => om0, fun _ => ?_⟩
    rw [hsp, frK_hit hsome om0]
    exact ⟨ra, rcap, Hf, rfl, hrow0, List.Sublist.refl _⟩
theorem NewRow.srcW {C : Ctx} {H Hn : List Blk} {T : TypeId} {sz n cap : Nat} {us : List Value} {a : Option Addr} (h : NewRow T sz n us (.slice a n cap) Hn) (hu : us.length = n * sz) (hs : Hn.Sublist H) : Src C H a n us := by
 obtain ⟨a', cap', he, hle, ⟨h0, b, junk, rfl, rfl, hl⟩ | ⟨h0, rfl, rfl⟩⟩ := h
 ·cases he
  exact .inr ⟨b, 0, rfl, fun w hw => at_block (rest := junk) ((hw.sub hs).get (i := 0) rfl) rfl⟩
 ·subst h0
  exact .inl ⟨rfl, by simpa using hu⟩
def natI (l : List Nat) : List Int := l.map fun x : Nat => (x : Int)
theorem natI_len (l : List Nat) : (natI l).length = l.length := by unfold natI; simp
theorem iv_lenW (l : List Nat) : (iv (natI l)).length = l.length * 1 := by unfold iv; rw [List.length_map, natI_len, Nat.mul_one]
theorem iv_oneW (xs : List Int) : (iv xs).all Value.oneCell' = true := by
 unfold iv
 rw [List.all_eq_true]
 intro v hv
 obtain ⟨x, _, rfl⟩ := List.mem_map.1 hv
 rfl
def bsL : Cst → List Nat
 | none => []
 | some x => x.1
def bsD : Cst → Int
 | none => -1
 | some x => x.2
def LenV (r : Cst) (v : Value) (Hn : List Blk) : Prop :=
 ∃ a cap Hf, v = .tuple #[.slice a (bsL r).length cap, .int .i64 (bsD r)] ∧ NewRow 3 1 (bsL r).length (iv (natI (bsL r))) (.slice a (bsL r).length cap) Hf ∧ Hf.Sublist Hn
def lK (xs : List Int) (i : Nat) (left : Int) (k : Nat) : Cst := lenK (lenR (xs.drop (i + 1))) (xs.getD i 0) left k
theorem lK_all {xs : List Int} {i : Nat} (h : i < xs.length) (left : Int) : lenR (xs.drop i) left = lK xs i left 6 := by
 rw [List.drop_eq_getElem_cons h]
 unfold lK
 rw [List.getD_eq_getElem?_getD, List.getElem?_eq_getElem h]
 rfl
theorem lK_skip {xs : List Int} {i : Nat} {left : Int} {k : Nat} (h : ¬ sh (k + 1) ≤ left) : lK xs i left (k + 1) = lK xs i left k := by
 unfold lK
 rw [lenK, if_neg h, betC_none]
theorem lK_none {xs : List Int} {i : Nat} {left : Int} {k : Nat} (h : sh (k + 1) ≤ left) (hr : lenR (xs.drop (i + 1)) (left - sh (k + 1)) = none) : lK xs i left (k + 1) = lK xs i left k := by
 unfold lK
 rw [lenK, if_pos h, hr]
 exact betC_none _
theorem lK_some {xs : List Int} {i : Nat} {left : Int} {k : Nat} {l : List Nat} {c : Int} (h : sh (k + 1) ≤ left) (hr : lenR (xs.drop (i + 1)) (left - sh (k + 1)) = some (l, c)) :
  lK xs i left (k + 1) = betC (lK xs i left k) (some ((k + 1) :: l, c + ((k + 1 : Nat) : Int) * xs.getD i 0)) := by
 unfold lK
 rw [lenK, if_pos h, hr]
 simp only [addC, List.singleton_append]
 rw [Int.mul_comm, Int.add_comm]
theorem lK_ok {xs : List Int} {i : Nat} {left : Int} (hv : ∀ o ∈ xs, 0 ≤ o ∧ o ≤ 1000) (h : i < xs.length) {k : Nat} (hk : k ≤ 6) : Cst.Ok (xs.length - i) (lK xs i left k) := by
 have ho : 0 ≤ xs.getD i 0 ∧ xs.getD i 0 ≤ 1000 := by
  rw [List.getD_eq_getElem?_getD, List.getElem?_eq_getElem h]; exact hv _ (List.getElem_mem h)
 have := lenK_ok (n := (xs.drop (i + 1)).length) (f := lenR (xs.drop (i + 1))) (left := left) (fun left => lenR_ok _ left fun x hx => hv x (List.mem_of_mem_drop hx)) ho.1 ho.2 k hk
 rw [List.length_drop, show xs.length - (i + 1) + 1 = xs.length - i by omega] at this
 exact this
theorem bsD_neg {n : Nat} {r : Cst} (h : Cst.Ok n r) : bsD r < 0 ↔ r = none := by
 cases r with
 | none => simp [bsD]
 | some x =>
  obtain ⟨l, c⟩ := x
  have := (h l c rfl).2.2.1
  simp only [bsD, reduceCtorEq, iff_false]
  omega
theorem betC_take {a : Cst} {n : Nat} {x : List Nat × Int} (ha : Cst.Ok n a) (h : bsD a < 0 ∨ x.2 < bsD a) : betC a (some x) = some x := by
 cases a with
 | none => rfl
 | some y =>
  rw [betC_ss, if_pos]
  rcases h with h | h
  ·exact absurd ((bsD_neg ha).1 h) (by simp)
  ·exact h
theorem betC_keep {a : Cst} {x : List Nat × Int} (h0 : ¬ bsD a < 0) (h : ¬ x.2 < bsD a) : betC a (some x) = a := by
 cases a with
 | none => exact absurd (show (-1 : Int) < 0 by decide) h0
 | some y => rw [betC_ss]; exact if_neg h
theorem rlen_any (a : Option Addr) (cap : Nat) (xs : List Int) (hn7 : xs.length ≤ 7) (hv : ∀ o ∈ xs, 0 ≤ o ∧ o ≤ 1000) :
  ∀ (m i : Nat) (left : Int) (w : World), i + m = xs.length → 0 ≤ left → left ≤ 64 → Ints w a xs.length cap xs →
  Ct Try.prog 15 #[.slice a xs.length cap, .int .i64 (i : Int), .int .i64 left] w (LenV (lenR (xs.drop i) left)) := by
 intro m
 induction m with
 | zero =>
  intro i left w hm hl0 hl1 hx
  have hd : xs.drop i = [] := List.drop_eq_nil_of_le om0
  have hF := wide_wide
  refine Ct_start (args := [_, _, _]) Try.func15 rf Try.ntmps15 rf ?_
  refine zR fun ds => ?_
  refine za (.slice _ _ _) hF ?_
  refine za (.int .i64 _) hF ?_
  refine zO ?_
  refine zR fun ds => ?_
  refine zm (.int .i64 _) hF ?_
  refine zm (.slice _ _ _) hF ?_
  refine zD hF (y_len rf Try.runUnderlying22) ?_
  refine zD hF (y_eql rf rf) ?_
  refine zN ?_
  refine W_cond rf (fun c1 => ?_) (fun c1 => ?_)
  ·
   try simp only [qz1, qz2, qz3, qz4, qz5, qz6, qz7, qz8] at c1
   refine zR fun ds => ?_
   refine za (.slice _ _ _) hF ?_
   refine za (.int .i64 _) hF ?_
   refine zN ?_
   refine W_ret ?_
   refine Then_ret ?_
   refine Fin_ret [.slice _ _ _, .int .i64 _] [] Try.results15 ⟨by rfl, by rfl, trivial⟩ (HSub.sub sbA) ?_
   rw [hd]
   exact ⟨none, 0, [], rfl, ⟨none, 0, rfl, Nat.le_refl _, .inr ⟨rfl, rfl, rfl⟩⟩, List.Sublist.refl _⟩
  ·(simp only [decide_eq_false_iff_not] at c1; omega)
 | succ m ih =>
  intro i left w hm hl0 hl1 hx
  have hi : i < xs.length := by omega
  obtain ⟨o, ho⟩ : ∃ o, o = xs.getD i 0 := ⟨_, rfl⟩
  have hob : 0 ≤ o ∧ o ≤ 1000 := by
   rw [ho, List.getD_eq_getElem?_getD, List.getElem?_eq_getElem hi]; exact hv _ (List.getElem_mem hi)
  rw [lK_all hi]
  obtain ⟨ab, ao, rfl, hc⟩ := hx.cell i hi
  rw [← ho] at hc
  have hF := wide_wide
  refine Ct_start (args := [_, _, _]) Try.func15 rf Try.ntmps15 rf ?_
  refine zR fun ds => ?_
  refine za (.slice _ _ _) hF ?_
  refine za (.int .i64 _) hF ?_
  refine zO ?_
  refine zR fun ds => ?_
  refine zm (.int .i64 _) hF ?_
  refine zm (.slice _ _ _) hF ?_
  refine zD hF (y_len rf Try.runUnderlying22) ?_
  refine zD hF (y_eql rf rf) ?_
  refine zN ?_
  refine W_cond rf (fun c1 => ?_) (fun c1 => ?_)
  ·(simp only [decide_eq_true_eq] at c1; omega)
  ·
   try simp only [qz1, qz2, qz3, qz4, qz5, qz6, qz7, qz8] at c1
   refine W_skip ?_
   refine zS fun ds => ?_
   refine za (.slice _ _ _) hF ?_
   refine zP fun ds => ?_
   refine za (.int .i64 _) hF ?_
   refine zO ?_
   refine zR fun ds => ?_
   refine za (.int .i64 _) hF ?_
   refine zN ?_
   refine W_block ?_
   refine W_loop (γ := Nat × Option Addr × Nat × List Blk) (fun p => p.1 ≤ 6 ∧ NewRow 3 1 (bsL (lK xs i left p.1)).length (iv (natI (bsL (lK xs i left p.1)))) (.slice p.2.1 (bsL (lK xs i left p.1)).length p.2.2.1) p.2.2.2) (fun p => [(0, .slice (some ⟨ab, ao, none⟩) xs.length cap), (1, .int .i64 (i : Int)), (2, .int .i64 left), (8, .slice p.2.1 (bsL (lK xs i left p.1)).length p.2.2.1), (9, .int .i64 (bsD (lK xs i left p.1))), (10, .int .i64 ((p.1 + 1 : Nat) : Int))]) (fun p => p.2.2.2) (fun p => 6 - p.1) ((0, none, 0, [])) ⟨Nat.zero_le _, none, 0, rfl, Nat.le_refl _, .inr ⟨rfl, rfl, rfl⟩⟩ s10 (sbA) ?_
   rintro ⟨k, ba, bcap, Hb⟩ e ⟨hk, hrow⟩
   refine W_seq ?_
   refine zR fun ds => ?_
   refine zm (.int .i64 _) hF ?_
   refine zD hF (y_leq rf rf) ?_
   refine zN ?_
   refine W_cond rf (fun c6 => ?_) (fun c6 => ?_)
   ·
    try simp only [qz1, qz2, qz3, qz4, qz5, qz6, qz7, qz8] at c6
    simp only at hk hrow
    have hk6 : k < 6 := by omega
    have hsb := sh_bd hk6
    have hlo := lK_ok (i := i) (left := left) hv hi hk
    have hm1 : 0 ≤ ((k + 1 : Nat) : Int) * o := Int.mul_nonneg om0 hob.1
    have hm2 : ((k + 1 : Nat) : Int) * o ≤ 6 * 1000 := Int.mul_le_mul om0 hob.2 hob.1 om0
    refine zU ?_
    refine W_seq ?_
    refine W_block ?_
    refine W_seq ?_
    refine zR fun ds => ?_
    refine zm (.int .i64 _) hF ?_
    refine zD hF (YD_eq (y_shrW (m := 64) (i := k + 1) rf rf om0) (congrArg (Value.int .i64) (sh_nat (k + 1)).symm)) ?_
    refine zm (.int .i64 _) hF ?_
    refine zD hF (y_gtr rf rf) ?_
    refine zN ?_
    refine W_cond rf (fun c8 => ?_) (fun c8 => ?_)
    ·
     try simp only [qz1, qz2, qz3, qz4, qz5, qz6, qz7, qz8] at c8
     have hK : lK xs i left (k + 1) = lK xs i left k := lK_skip om0
     refine W_exit ?_
     refine Then_exit ?_
     refine InB_same ?_
     refine zT fun ds => ?_
     refine zm (.int .i64 _) hF ?_
     refine zD hF (y_add rf rf ui) ?_
     refine za (.int .i64 _) hF ?_
     refine WS_nil ?_
     exact Loop_next (k + 1, ba, bcap, Hb) ⟨by simp only; omega, by rw [hK]; exact hrow⟩ (by rw [hK]; exact s10) sbA (by simp only; omega)
    ·
     try simp only [qz1, qz2, qz3, qz4, qz5, qz6, qz7, qz8] at c8
     refine W_skip ?_
     refine zS fun ds => ?_
     refine zm (.slice _ _ _) hF ?_
     refine zm (.int .i64 _) hF ?_
     refine zD hF (y_add rf rf ui) ?_
     refine zm (.int .i64 _) hF ?_
     refine zm (.int .i64 _) hF ?_
     refine zD hF (YD_eq (y_shrW (m := 64) (i := k + 1) rf rf om0) (congrArg (Value.int .i64) (sh_nat (k + 1)).symm)) ?_
     refine zD hF (y_sub rf rf ui) ?_
     refine WS_gen hF rf (y_callL rf rf Try.call15 (fun w hw => ih (i + 1) (left - sh (k + 1)) w om0 om0 om0 (hx.st w hw))) ?_
     rintro _ Hq ⟨ra, rcap, Hr, rfl, hrr, hsr⟩
     refine WS_back ?_
     have hro := lenR_ok (xs.drop (i + 1)) (left - sh (k + 1)) fun x hx => hv x (List.mem_of_mem_drop hx)
     have hcb : bsD (lenR (xs.drop (i + 1)) (left - sh (k + 1))) ≤ 42000 := by
      cases hr : lenR (xs.drop (i + 1)) (left - sh (k + 1)) with
      | none => decide
      | some x =>
       obtain ⟨l, c⟩ := x
       have := (hro l c hr).2.2.2
       rw [List.length_drop] at this
       show c ≤ 42000
       omega
     refine zm (.tuple _) hF ?_
     refine zD hF (y_extract (c := .slice _ _ _) rf rf) ?_
     refine zD hF (y_extract (c := .int .i64 _) rf rf) ?_
     refine za (.slice _ _ _) hF ?_
     refine za (.int .i64 _) hF ?_
     refine zO ?_
     refine zR fun ds => ?_
     refine zm (.int .i64 _) hF ?_
     refine zD hF (y_lss rf rf) ?_
     refine zN ?_
     refine W_cond rf (fun c10 => ?_) (fun c10 => ?_)
     ·
      try simp only [qz1, qz2, qz3, qz4, qz5, qz6, qz7, qz8] at c10
      have hK : lK xs i left (k + 1) = lK xs i left k := lK_none om0 ((bsD_neg hro).1 c10)
      refine W_exit ?_
      refine Then_exit ?_
      refine InB_same ?_
      refine zT fun ds => ?_
      refine zm (.int .i64 _) hF ?_
      refine zD hF (y_add rf rf ui) ?_
      refine za (.int .i64 _) hF ?_
      refine WS_nil ?_
      exact Loop_next (k + 1, ba, bcap, Hb) ⟨by simp only; omega, by rw [hK]; exact hrow⟩ (by rw [hK]; exact s10) sbA (by simp only; omega)
     ·
      try simp only [qz1, qz2, qz3, qz4, qz5, qz6, qz7, qz8] at c10
      obtain ⟨l, c, hr⟩ : ∃ l c, lenR (xs.drop (i + 1)) (left - sh (k + 1)) = some (l, c) := by
       cases hr : lenR (xs.drop (i + 1)) (left - sh (k + 1)) with
       | none => rw [hr] at c10; exact absurd c10 (by decide)
       | some x => exact ⟨x.1, x.2, rfl⟩
      rw [hr] at hrr hro hcb c10
      simp only [bsL, bsD] at hrr hcb c10
      rw [show bsL (lenR (xs.drop (i + 1)) (left - sh (k + 1))) = l by rw [hr]; rfl, show bsD (lenR (xs.drop (i + 1)) (left - sh (k + 1))) = c by rw [hr]; rfl]
      have hlen := (hro l c rfl).1
      rw [List.length_drop] at hlen
      refine W_skip ?_
      refine zS fun ds => ?_
      refine zm (.int .i64 _) hF ?_
      refine zm (.int .i64 _) hF ?_
      refine zm (.slice _ _ _) hF ?_
      refine zm (.int .i64 _) hF ?_
      refine zD hF (y_index (k := i) rf rf (by first | rfl | omega) (by first | decide | omega) Try.runUnderlying22 Try.sizeOf3) ?_
      refine zD hF (y_load1 rf Try.isAgg3 (by first | exact Mem.old1 (by assumption) | exact Mem.oldAt1 (by assumption) rf | exact Mem.old (by assumption) | exact Mem.oldAtL1 (by assumption) rf rf)) ?_
      refine zD hF (y_mul rf rf (by show I64 (((k + 1 : Nat) : Int) * o); unfold I64; omega)) ?_
      refine zD hF (y_add rf rf (by show I64 (c + ((k + 1 : Nat) : Int) * o); unfold I64; omega)) ?_
      refine za (.int .i64 _) hF ?_
      refine zP fun ds => ?_
      refine zm (.int .i64 _) hF ?_
      refine zD hF (y_lss rf rf) ?_
      refine zm (.bool _) hF ?_
      refine WS_split 48 rf (fun g12_2 => ?_) (fun g12_2 => ?_)
      ·
       try simp only [qz1, qz2, qz3, qz4, qz5, qz6, qz7, qz8] at g12_2
       refine zno hF ?_
       refine zno hF ?_
       refine zno hF ?_
       refine zD hF (zpk (.bool _)) ?_
       refine zN ?_
       refine W_cond rf (fun c12 => ?_) (fun c12 => ?_)
       ·
        try simp only [qz1, qz2, qz3, qz4, qz5, qz6, qz7, qz8] at c12
        have hK : lK xs i left (k + 1) = some ((k + 1) :: l, c + ((k + 1 : Nat) : Int) * o) := by
         rw [lK_some om0 hr, ← ho]
         refine betC_take hlo ?_
         first
          | exact .inl g12_2
          | exact .inr c12
        refine W_region_lit (fun ds => ?_)
        refine zm (.int .i64 _) hF ?_
        refine WS_newS hF rf (y_buildSliceL bs22_1_0 rf) (fun bx => ?_)
        refine zm (.slice _ _ _) hF ?_
        refine WS_subW (H' := (Hb ++ Hq) ++ [_]) (fun _ _ h => h.perm (List.perm_append_comm (l₁ := Hb ++ Hq) (l₂ := [_]))) ?_
        refine WS_appendE hF (n' := 1) (m := l.length) (H1 := Hb ++ Hq) (Hn := [(bx, _)]) (us := [_]) rf rf rf Try.underlying22 infInt rf rf (.inr ⟨bx, [], rfl, rfl, rfl, rfl, Nat.le_refl _⟩) (NewRow.srcW hrr (iv_lenW l) (hsr.trans (List.Sublist.trans (List.sublist_append_right Hb Hq) (List.sublist_append_left _ _)))) (iv_lenW l) (iv_oneW _) om0 om0 ?_
        intro ba2 bcap2 Hb2 hrow2
        have hl1 : ((k + 1) :: l).length = 1 + l.length := by rw [List.length_cons, Nat.add_comm]
        have hrow3 : NewRow 3 1 ((k + 1) :: l).length (iv (natI ((k + 1) :: l))) (.slice ba2 ((k + 1) :: l).length bcap2) Hb2 := by
         rw [hl1]
         exact Row.newRow hrow2 om0
        rw [← hl1]
        refine zm (.int .i64 _) hF ?_
        refine za (.slice _ _ _) hF ?_
        refine za (.int .i64 _) hF ?_
        refine WS_nil ?_
        refine InB_normal ?_
        refine zT fun ds => ?_
        refine zm (.int .i64 _) hF ?_
        refine zD hF (y_add rf rf ui) ?_
        refine za (.int .i64 _) hF ?_
        refine WS_nil ?_
        exact Loop_next (k + 1, ba2, bcap2, Hb2) ⟨by simp only; omega, by rw [hK]; exact hrow3⟩ (by rw [hK]; exact s10) sbA (by simp only; omega)
       ·cases c12
      ·
       try simp only [qz1, qz2, qz3, qz4, qz5, qz6, qz7, qz8] at g12_2
       refine zm (.int .i64 _) hF ?_
       refine zm (.int .i64 _) hF ?_
       refine zD hF (y_lss rf rf) ?_
       refine zD hF (zpk (.bool _)) ?_
       refine zN ?_
       refine W_cond rf (fun c12 => ?_) (fun c12 => ?_)
       ·
        try simp only [qz1, qz2, qz3, qz4, qz5, qz6, qz7, qz8] at c12
        have hK : lK xs i left (k + 1) = some ((k + 1) :: l, c + ((k + 1 : Nat) : Int) * o) := by
         rw [lK_some om0 hr, ← ho]
         refine betC_take hlo ?_
         first
          | exact .inl g12_2
          | exact .inr c12
        refine W_region_lit (fun ds => ?_)
        refine zm (.int .i64 _) hF ?_
        refine WS_newS hF rf (y_buildSliceL bs22_1_0 rf) (fun bx => ?_)
        refine zm (.slice _ _ _) hF ?_
        refine WS_subW (H' := (Hb ++ Hq) ++ [_]) (fun _ _ h => h.perm (List.perm_append_comm (l₁ := Hb ++ Hq) (l₂ := [_]))) ?_
        refine WS_appendE hF (n' := 1) (m := l.length) (H1 := Hb ++ Hq) (Hn := [(bx, _)]) (us := [_]) rf rf rf Try.underlying22 infInt rf rf (.inr ⟨bx, [], rfl, rfl, rfl, rfl, Nat.le_refl _⟩) (NewRow.srcW hrr (iv_lenW l) (hsr.trans (List.Sublist.trans (List.sublist_append_right Hb Hq) (List.sublist_append_left _ _)))) (iv_lenW l) (iv_oneW _) om0 om0 ?_
        intro ba2 bcap2 Hb2 hrow2
        have hl1 : ((k + 1) :: l).length = 1 + l.length := by rw [List.length_cons, Nat.add_comm]
        have hrow3 : NewRow 3 1 ((k + 1) :: l).length (iv (natI ((k + 1) :: l))) (.slice ba2 ((k + 1) :: l).length bcap2) Hb2 := by
         rw [hl1]
         exact Row.newRow hrow2 om0
        rw [← hl1]
        refine zm (.int .i64 _) hF ?_
        refine za (.slice _ _ _) hF ?_
        refine za (.int .i64 _) hF ?_
        refine WS_nil ?_
        refine InB_normal ?_
        refine zT fun ds => ?_
        refine zm (.int .i64 _) hF ?_
        refine zD hF (y_add rf rf ui) ?_
        refine za (.int .i64 _) hF ?_
        refine WS_nil ?_
        exact Loop_next (k + 1, ba2, bcap2, Hb2) ⟨by simp only; omega, by rw [hK]; exact hrow3⟩ (by rw [hK]; exact s10) sbA (by simp only; omega)
       ·
        try simp only [qz1, qz2, qz3, qz4, qz5, qz6, qz7, qz8] at c12
        have hK : lK xs i left (k + 1) = lK xs i left k := by
         rw [lK_some om0 hr, ← ho]
         exact betC_keep (Int.not_lt.2 g12_2) (Int.not_lt.2 c12)
        refine W_skip ?_
        refine InB_normal ?_
        refine zT fun ds => ?_
        refine zm (.int .i64 _) hF ?_
        refine zD hF (y_add rf rf ui) ?_
        refine za (.int .i64 _) hF ?_
        refine WS_nil ?_
        exact Loop_next (k + 1, ba, bcap, Hb) ⟨by simp only; omega, by rw [hK]; exact hrow⟩ (by rw [hK]; exact s10) sbA (by simp only; omega)
   ·
    try simp only [qz1, qz2, qz3, qz4, qz5, qz6, qz7, qz8] at c6
    refine W_exit ?_
    refine Then_exit ?_
    refine Loop_exit ?_
    refine InB_same ?_
    refine zS fun ds => ?_
    refine zm (.slice _ _ _) hF ?_
    refine zm (.int .i64 _) hF ?_
    refine za (.slice _ _ _) hF ?_
    refine za (.int .i64 _) hF ?_
    refine zN ?_
    refine W_ret ?_
    refine Fin_ret [.slice _ _ _, .int .i64 _] Hb Try.results15 ⟨by rfl, by rfl, trivial⟩ (HSub.sub sbA) ?_
    simp only at hk
    obtain rfl : k = 6 := by omega
    exact ⟨ba, bcap, Hb, rfl, hrow, List.Sublist.refl _⟩
theorem natI_get (l : List Nat) (k : Nat) : (natI l).getD k 0 = ((l.getD k 0 : Nat) : Int) := by
 unfold natI
 by_cases h : k < l.length
 ·simp [List.getD_eq_getElem?_getD, h]
 ·simp [List.getD_eq_getElem?_getD, List.getElem?_eq_none (Nat.le_of_not_lt h)]
def RwR (r : Option (List Str)) (v : Value) (Hn : List Blk) : Prop :=
 match r with
 | none => v = .tuple #[.slice none 0 0, .bool false]
 | some R => ∃ a cap Hf, v = .tuple #[.slice a R.length cap, .bool true] ∧ NewRow 9 1 R.length (sL R) (.slice a R.length cap) Hf ∧ Hf.Sublist Hn
theorem rwords_any (ls : List Nat) (hn7 : ls.length ≤ 7) (hl6 : ∀ x ∈ ls, 1 ≤ x ∧ x ≤ 6) :
  ∀ (m : Nat) (ws : List Str) (i : Nat) (la : Option Addr) (lcap : Nat) (wa : Option Addr) (wcap : Nat) (w : World), i = ws.length → ws.length + m = ls.length → Ints w la ls.length lcap (natI ls) → Txs w wa ws.length wcap ws →
  Ct Try.prog 16 #[.slice la ls.length lcap, .slice wa i wcap] w fun v Hn => (m = 0 → v = .tuple #[.slice wa i wcap, .bool true]) ∧ (0 < m → RwR (spL ls m ws) v Hn) := by
 intro m
 induction m with
 | zero =>
  intro ws i la lcap wa wcap w hi hm hl hx
  subst hi
  have hF := wide_wide
  refine Ct_start (args := [_, _]) Try.func16 rf Try.ntmps16 rf ?_
  refine zR fun ds => ?_
  refine za (.slice _ _ _) hF ?_
  refine za (.bool _) hF ?_
  refine zO ?_
  refine zR fun ds => ?_
  refine zm (.slice _ _ _) hF ?_
  refine zD hF (y_len rf Try.runUnderlying23) ?_
  refine zm (.slice _ _ _) hF ?_
  refine zD hF (y_len rf Try.runUnderlying22) ?_
  refine zD hF (y_eql rf rf) ?_
  refine zN ?_
  refine W_cond rf (fun c1 => ?_) (fun c1 => ?_)
  ·
   try simp only [qz1, qz2, qz3, qz4, qz5, qz6, qz7, qz8] at c1
   refine zR fun ds => ?_
   refine zm (.slice _ _ _) hF ?_
   refine za (.slice _ _ _) hF ?_
   refine za (.bool _) hF ?_
   refine zN ?_
   refine W_ret ?_
   refine Then_ret ?_
   refine Fin_ret [.slice _ _ _, .bool _] [] Try.results16 ⟨by rfl, by rfl, trivial⟩ (HSub.sub sbA) ?_
   exact ⟨fun _ => rfl, fun h => absurd h (Nat.lt_irrefl _)⟩
  ·(simp only [decide_eq_false_iff_not] at c1; omega)
 | succ m ih =>
  intro ws i la lcap wa wcap w hi hm hl hx
  subst hi
  have hnn := ls_bd hl6 ws.length
  obtain ⟨nn, hnd⟩ : ∃ nn, nn = ls.getD ws.length 0 := ⟨_, rfl⟩
  obtain ⟨lb, lo, rfl, hcell⟩ := hl.cell ws.length om0
  rw [natI_get, ← hnd] at hcell
  rw [← hnd] at hnn
  have hsp : spL ls (m + 1) ws = frK (spF ls m ws) (2 ^ nn) := by rw [spL_succ, hnd]
  have hlen : (rowOf sE (fun k => ws.getD k []) ws.length).length = ws.length * 1 := rowOf_len sE_len _ _
  have h26 : 2 ^ nn ≤ 2 ^ 6 := Nat.pow_le_pow_right (by decide) hnn
  rw [show 2 ^ 6 = 64 from rfl] at h26
  have hF := wide_wide
  refine Ct_start (args := [_, _]) Try.func16 rf Try.ntmps16 rf ?_
  refine zR fun ds => ?_
  refine za (.slice _ _ _) hF ?_
  refine za (.bool _) hF ?_
  refine zO ?_
  refine zR fun ds => ?_
  refine zm (.slice _ _ _) hF ?_
  refine zD hF (y_len rf Try.runUnderlying23) ?_
  refine zm (.slice _ _ _) hF ?_
  refine zD hF (y_len rf Try.runUnderlying22) ?_
  refine zD hF (y_eql rf rf) ?_
  refine zN ?_
  refine W_cond rf (fun c1 => ?_) (fun c1 => ?_)
  ·(simp only [decide_eq_true_eq] at c1; omega)
  ·
   try simp only [qz1, qz2, qz3, qz4, qz5, qz6, qz7, qz8] at c1
   refine W_skip ?_
   refine zS fun ds => ?_
   refine zm (.slice _ _ _) hF ?_
   refine zm (.slice _ _ _) hF ?_
   refine zD hF (y_len rf Try.runUnderlying23) ?_
   refine zD hF (y_index (k := ws.length) rf rf (by first | rfl | omega) (by first | decide | omega) Try.runUnderlying22 Try.sizeOf3) ?_
   refine zD hF (y_load1 rf Try.isAgg3 (by first | exact Mem.old1 (by assumption) | exact Mem.oldAt1 (by assumption) rf | exact Mem.old (by assumption) | exact Mem.oldAtL1 (by assumption) rf rf)) ?_
   refine za (.int .i64 _) hF ?_
   refine zO ?_
   refine zR fun ds => ?_
   refine za (.int .i64 _) hF ?_
   refine zN ?_
   refine W_block ?_
   refine W_loop (γ := Nat) (fun k => k ≤ 2 ^ nn ∧ frK (spF ls m ws) k = none) (fun k => [(0, .slice (some ⟨lb, lo, none⟩) ls.length lcap), (1, .slice wa ws.length wcap), (6, .int .i64 (nn : Int)), (7, .int .i64 (k : Int))]) (fun _ => _) (fun k => 2 ^ nn - k) (0) ⟨Nat.zero_le _, rfl⟩ s10 (sbA) ?_
   rintro k e ⟨hk, hno⟩
   refine W_seq ?_
   refine zR fun ds => ?_
   refine zm (.int .i64 _) hF ?_
   refine zm (.int .i64 _) hF ?_
   refine zD hF (y_shlW (i := nn) rf rf om0) ?_
   refine zD hF (y_lss rf rf) ?_
   refine zN ?_
   refine W_cond rf (fun c5 => ?_) (fun c5 => ?_)
   ·
    try simp only [qz1, qz2, qz3, qz4, qz5, qz6, qz7, qz8] at c5
    refine zU ?_
    refine W_seq ?_
    refine W_block ?_
    refine zR fun ds => ?_
    refine WS_newS hF rf (y_buildSliceL bs23_0 rf) (fun bz => ?_)
    refine zm (.slice _ _ _) hF ?_
    refine WS_gen hF rf (y_append0 rf rf Try.underlying23 infStr rf (Rws.src sE_len hx) hlen om0 om0) ?_
    rintro _ Hc hrow
    have hrow2 := hrow
    obtain ⟨ca, ccap, rfl, _⟩ := hrow2
    refine zm (.int .i64 _) hF ?_
    refine zm (.int .i64 _) hF ?_
    refine zD hF (y_callL rf rf Try.call24 (fun w hw => rword_any nn k w om0 om0)) ?_
    refine WS_newS hF rf (y_buildSliceL bs23_1_0 rf) (fun bx => ?_)
    refine WS_subW (H' := _ :: _ :: Hc) (fun _ _ h => h.perm (List.Perm.cons _ (List.perm_append_comm (l₁ := [_]) (l₂ := Hc)))) ?_
    refine WS_appendW hF (n' := ws.length) (m := 1) (H1 := (_ :: _ :: [])) (Hn := Hc) rf rf rf Try.underlying23 infStr rf rf hrow (rowOf_len sE_len _ _) (.inr ⟨_, _, rfl, Mem.own (us := [sv _]) 0 rf rf⟩) rf rf om0 om0 om0 ?_
    intro ma mcap Hm hrow3
    rw [sL_snoc] at hrow3
    refine za (.slice _ _ _) hF ?_
    refine zO ?_
    refine zR fun ds => ?_
    refine zm (.slice _ _ _) hF ?_
    refine zD hF (y_callL rf rf Try.call25 (fun w hw => rfree_any ma (ws.length + 1) mcap (ws ++ [wordB nn k]) w om0 (Txs.of hrow3 (by rw [List.length_append]; rfl) sbA w hw))) ?_
    refine zD hF (y_not rf) ?_
    refine zN ?_
    refine W_cond rf (fun c8 => ?_) (fun c8 => ?_)
    ·
     try simp only [qz1, qz2, qz3, qz4, qz5, qz6, qz7, qz8] at c8
     have hno2 : frK (spF ls m ws) (k + 1) = none := by rw [frK_next hno]; unfold spF; rw [← hnd, if_neg (by rw [c8]; exact Bool.false_ne_true)]
     refine W_exit ?_
     refine Then_exit ?_
     refine InB_same ?_
     refine zT fun ds => ?_
     refine zm (.int .i64 _) hF ?_
     refine zD hF (y_add rf rf ui) ?_
     refine za (.int .i64 _) hF ?_
     refine WS_nil ?_
     exact Loop_next (k + 1) ⟨by omega, hno2⟩ s10 sbA om0
    ·
     try simp only [qz1, qz2, qz3, qz4, qz5, qz6, qz7, qz8] at c8
     have hspf : spF ls m ws k = spL ls m (ws ++ [wordB nn k]) := by unfold spF; rw [← hnd, if_pos c8]
     refine W_skip ?_
     refine zS fun ds => ?_
     refine zm (.slice _ _ _) hF ?_
     refine zm (.slice _ _ _) hF ?_
     refine WS_gen hF rf (y_callL rf rf Try.call16 (fun w hw => ih (ws ++ [wordB nn k]) (ws.length + 1) (some ⟨lb, lo, none⟩) lcap ma mcap w (by rw [List.length_append]; rfl) (by rw [List.length_append, List.length_singleton]; omega) (hl.st w hw) (by rw [List.length_append]; exact Txs.of hrow3 (by rw [List.length_append]; rfl) sbA w hw))) ?_
     rintro v0 Hq ⟨hz, hpz⟩
     have hres : (spL ls m (ws ++ [wordB nn k]) = none ∧ v0 = .tuple #[.slice none 0 0, .bool false]) ∨ ∃ R oa ocap Hf, spL ls m (ws ++ [wordB nn k]) = some R ∧ v0 = .tuple #[.slice oa R.length ocap, .bool true] ∧ NewRow 9 1 R.length (sL R) (.slice oa R.length ocap) Hf ∧ Hf.Sublist (Hm ++ Hq) := by
      by_cases hm0 : m = 0
      ·subst hm0
       refine .inr ⟨ws ++ [wordB nn k], ma, mcap, Hm, by rw [spL], ?_, ?_, List.sublist_append_left _ _⟩
       ·rw [hz rfl, List.length_append]; rfl
       ·rw [List.length_append]; exact hrow3
      ·have h := hpz om0
       cases hs : spL ls m (ws ++ [wordB nn k]) with
       | none => rw [hs] at h; exact .inl ⟨rfl, h⟩
       | some R =>
        rw [hs] at h
        obtain ⟨oa, ocap, Hf, h1, h2, h3⟩ := h
        exact .inr ⟨R, oa, ocap, Hf, rfl, h1, h2, h3.trans (List.sublist_append_right _ _)⟩
     refine WS_back ?_
     obtain ⟨oa, on, ocap, ob, hv0, hnil⟩ : ∃ oa on ocap ob, v0 = .tuple #[.slice oa on ocap, .bool ob] ∧ (ob = false → spL ls m (ws ++ [wordB nn k]) = none) := by
      rcases hres with ⟨h1, h2⟩ | ⟨R, oa, ocap, Hf, h1, h2, h3, h4⟩
      ·exact ⟨none, 0, 0, false, h2, fun _ => h1⟩
      ·exact ⟨oa, R.length, ocap, true, h2, fun h => by cases h⟩
     subst hv0
     refine zm (.tuple _) hF ?_
     refine zD hF (y_extract (c := .slice _ _ _) rf rf) ?_
     refine zD hF (y_extract (c := .bool _) rf rf) ?_
     refine za (.slice _ _ _) hF ?_
     refine za (.bool _) hF ?_
     refine zP fun ds => ?_
     refine zm (.bool _) hF ?_
     refine zN ?_
     refine W_cond rf (fun c10 => ?_) (fun c10 => ?_)
     ·
      try simp only [qz1, qz2, qz3, qz4, qz5, qz6, qz7, qz8] at c10
      obtain ⟨R0, Hf0, hhit, hrow0, rfl, hsb0⟩ : ∃ R0 Hf0, frK (spF ls m ws) (k + 1) = some R0 ∧ NewRow 9 1 R0.length (sL R0) (.slice oa R0.length ocap) Hf0 ∧ on = R0.length ∧ Hf0.Sublist (Hm ++ Hq) := by
       rcases hres with ⟨h1, h2⟩ | ⟨R, oa', ocap', Hf, h1, h2, h3, h4⟩
       ·cases h2; cases c10
       ·cases h2
        exact ⟨R, Hf, by rw [frK_next hno, hspf]; exact h1, h3, rfl, h4⟩
      refine zR fun ds => ?_
      refine zm (.slice _ _ _) hF ?_
      refine za (.slice _ _ _) hF ?_
      refine za (.bool _) hF ?_
      refine zN ?_
      refine W_ret ?_
      refine InB_ret ?_
      refine Then_ret ?_
      refine Loop_ret ?_
      refine InB_ret ?_
      refine Then_ret ?_
      refine Fin_ret [.slice _ _ _, .bool _] Hf0 Try.results16 ⟨by rfl, by rfl, trivial⟩ (HSub.sub ((hsb0.trans (List.sublist_cons_self _ _)).trans (List.sublist_cons_self _ _))) ?_
      refine ⟨fun h => om0, fun _ => ?_⟩
      rw [hsp, frK_hit hhit om0]
      exact ⟨oa, ocap, Hf0, rfl, hrow0, List.Sublist.refl _⟩
     ·
      try simp only [qz1, qz2, qz3, qz4, qz5, qz6, qz7, qz8] at c10
      have hno2 : frK (spF ls m ws) (k + 1) = none := by rw [frK_next hno, hspf]; exact hnil c10
      refine W_skip ?_
      refine InB_normal ?_
      refine zT fun ds => ?_
      refine zm (.int .i64 _) hF ?_
      refine zD hF (y_add rf rf ui) ?_
      refine za (.int .i64 _) hF ?_
      refine WS_nil ?_
      exact Loop_next (k + 1) ⟨by omega, hno2⟩ s10 sbA om0
   ·
    try simp only [qz1, qz2, qz3, qz4, qz5, qz6, qz7, qz8] at c5
    refine W_exit ?_
    refine Then_exit ?_
    refine Loop_exit ?_
    refine InB_same ?_
    refine zS fun ds => ?_
    refine za (.slice _ _ _) hF ?_
    refine za (.bool _) hF ?_
    refine zN ?_
    refine W_ret ?_
    refine Fin_ret [.slice _ _ _, .bool _] [] Try.results16 ⟨by rfl, by rfl, trivial⟩ (HSub.sub sbA) ?_
    refine ⟨fun h => om0, fun _ => ?_⟩
    obtain rfl : k = 2 ^ nn := by omega
    rw [hsp, hno]; rfl
end Go.Proofs.Ytmpanejghmgoaaa.T
