/- Proved: for every input, with no condition, the law TankTable returns true and the input reads as it did (Rows.TankTableSaid). -/
import Derived.Test.YthkimgfgpphgnaaMb4
import Derived.Laws.Bits64b
import Derived.Test.YthkimgfgpphgnaaMb2
set_option linter.unusedVariables false
set_option linter.unusedSimpArgs false
/- The reference's changes: the walks of Strike and Before. -/
namespace Go.Proofs.Ythkimgfgpphgnaa.T
open Go.RowKit Go.Proofs Go.Eng
set_option maxRecDepth 100000
set_option linter.unusedVariables false
set_option linter.unusedSimpArgs false



def lexB : List Int → List Int → Bool
  | x :: xs, y :: ys => if x = y then lexB xs ys else decide (x < y)
  | _, _ => false
/-- Shorter ones first, then the first number that differs. -/
def befB (xs ys : List Int) : Bool := if xs.length = ys.length then lexB xs ys else decide (xs.length < ys.length)
end Go.Proofs.Ythkimgfgpphgnaa.T

/- The reference's dips that must be false: the walk of Wrong. -/
namespace Go.Eng
section
variable {C : Ctx} {e : Env} {H : List Blk} {d : Option Tmp} {ty : TypeId} {pos : String} {af : Array Edge} {g : Option (Nat × Bool)} {x y : Operand} {t t' : TypeId} {m i : Nat}
end
end Go.Eng
namespace Go.Proofs.Ythkimgfgpphgnaa.T
open Go.RowKit Go.Proofs Go.Eng
set_option maxRecDepth 100000
set_option linter.unusedVariables false
set_option linter.unusedSimpArgs false



def setL (s n : Nat) : List Int := ((List.range n).filter fun i => s.testBit i).map fun i : Nat => (i : Int) + 1
theorem setL_succ (s n : Nat) : setL s (n + 1) = if s.testBit n then setL s n ++ [(n : Int) + 1] else setL s n := by
  unfold setL
  rw [List.range_succ, List.filter_append]
  cases h : s.testBit n <;> simp [h]
def Lg.dipsB (l : Lg) (s n : Nat) : Bool := (List.range n).all fun i => !s.testBit i || decide ((l.e i).kind = 3)
def betB (T : List Int) : Option (List Int) → Bool
  | none => true
  | some R => befB T R
def Lg.bestW (l : Lg) : Nat → Option (List Int)
  | 0 => none
  | s + 1 => if l.dipsB s l.es.length && betB (setL s l.es.length) (l.bestW s) && (l.wo (setL s l.es.length)).holdsB then some (setL s l.es.length) else l.bestW s
def RWrongV (l : Lg) (v : Value) (Hn : List Blk) : Prop :=
  (l.err ≠ 0 → v = .tuple #[.slice none 0 0, .int .i64 l.err] ∧ Hn = []) ∧
  (l.err = 0 → (∀ R, l.bestW (2 ^ l.es.length) = some R → ∃ fa fn fcap, v = .tuple #[.slice fa fn fcap, .int .i64 0] ∧ Row 3 1 fa fn fcap (iv R) Hn ∧ R.length = fn) ∧ (l.bestW (2 ^ l.es.length) = none → v = .tuple #[.slice none 0 0, .int .i64 6] ∧ Hn = []))
end Go.Proofs.Ythkimgfgpphgnaa.T

/- The first of the fewest dips that must be false: both ways of looking for it find the same; plain facts. -/
namespace Go.Proofs.Ythkimgfgpphgnaa.T
open Go.RowKit Go.Proofs Go.Eng
set_option maxRecDepth 100000
set_option linter.unusedVariables false
set_option linter.unusedSimpArgs false

def Lg.Fits (l : Lg) (lo : Int) (E : List Int) : Prop := E.Pairwise (· < ·) ∧ ∀ x ∈ E, lo < x ∧ x ≤ (l.es.length : Int) ∧ (l.e (x - 1).toNat).kind = 3
def Lg.Val (l : Lg) (T : List Int) : Prop := l.Fits 0 T ∧ (l.wo T).holdsB = true
theorem Lg.Fits.tail {l : Lg} {lo x : Int} {E : List Int} (h : l.Fits lo (x :: E)) : l.Fits x E :=
  ⟨(List.pairwise_cons.1 h.1).2, fun y hy => ⟨(List.pairwise_cons.1 h.1).1 y hy, (h.2 y (List.mem_cons_of_mem _ hy)).2⟩⟩
/-! ### Sets as numbers -/
theorem setL_of (n : Nat) : ∀ T : List Int, T.Pairwise (· < ·) → (∀ x ∈ T, 0 < x ∧ x ≤ (n : Int)) → ∃ s, s < 2 ^ n ∧ setL s n = T := by
  induction n with
  | zero =>
    intro T _ h
    refine ⟨0, by decide, ?_⟩
    cases T with
    | nil => rfl
    | cons x T => have := h x List.mem_cons_self; omega
  | succ n ih =>
    intro T hp h
    have small : (∀ x ∈ T, x ≤ (n : Int)) → ∃ s, s < 2 ^ (n + 1) ∧ setL s (n + 1) = T := fun hs => by
      obtain ⟨s, h1, h2⟩ := ih T hp fun x hx => ⟨(h x hx).1, hs x hx⟩
      refine ⟨s, by rw [Nat.pow_succ]; omega, ?_⟩
      rw [setL_succ, Nat.testBit_lt_two_pow h1]
      exact h2
    rcases List.eq_nil_or_concat T with rfl | ⟨L, x, rfl⟩
    · exact small fun x hx => by cases hx
    · rw [List.concat_eq_append] at hp h small ⊢
      have hlt : ∀ y ∈ L, y < x := fun y hy => (List.pairwise_append.1 hp).2.2 y hy x List.mem_cons_self
      have hx := h x (List.mem_append_right _ List.mem_cons_self)
      by_cases hxn : x = (n : Int) + 1
      · obtain ⟨s, h1, h2⟩ := ih L (List.pairwise_append.1 hp).1 fun y hy => ⟨(h y (List.mem_append_left _ hy)).1, by have := hlt y hy; omega⟩
        refine ⟨2 ^ n + s, by rw [Nat.pow_succ]; omega, ?_⟩
        rw [setL_succ, Nat.testBit_two_pow_add_eq, Nat.testBit_lt_two_pow h1]
        have : setL (2 ^ n + s) n = setL s n := by
          unfold setL
          congr 1
          exact List.filter_congr fun i hi => Nat.testBit_two_pow_add_gt (List.mem_range.1 hi) s
        rw [this, h2, hxn]; rfl
      · refine small fun y hy => ?_
        rcases List.mem_append.1 hy with hy | hy
        · have := hlt y hy; omega
        · rw [List.mem_singleton.1 hy]; omega
theorem Lg.Val.set {l : Lg} {T : List Int} (h : l.Val T) : ∃ s, s < 2 ^ l.es.length ∧ setL s l.es.length = T :=
  setL_of _ T h.1.1 fun x hx => ⟨(h.1.2 x hx).1, (h.1.2 x hx).2.1⟩
/-! ### The order of lists -/
end Go.Proofs.Ythkimgfgpphgnaa.T

/- Blocks whose contents nobody asks for any more: stores into them, one by one. No project text. -/
namespace Go.Eng
open Go.RowKit

theorem W_sub {C : Ctx} {F : Fence} {n : Nat} {ds : List Deferred} {c : Code} {Q : Exit → Env → List Blk → Prop} {e : Env} {H H' : List Blk} (hs : HSub H H') (h : W C F n ds c Q e H') : W C F n ds c Q e H :=
  fun dd w hw a ha => h dd w ⟨hw.1, hs _ _ hw.2, hw.3⟩ a ha
section
variable {S1 S2 M M' L : List Blk} {x y : Blk}
theorem Pul.base : (S1 ++ x :: S2).Perm (x :: (S1 ++ S2)) := List.perm_middle
theorem Pul.cons (h : M.Perm (x :: M')) : (y :: M).Perm (x :: y :: M') := (h.cons y).trans (List.Perm.swap ..)
theorem Pul.app (h : M.Perm (x :: M')) : (L ++ M).Perm (x :: (L ++ M')) := (h.append_left L).trans List.perm_middle
theorem Pul.end (h : M.Perm (x :: M')) : M.Perm (x :: M') := h
end

/-- Two blocks of one shape: the place, the length and the kind. -/
def Sh1 (x y : Blk) : Prop := x.1 = y.1 ∧ ∃ vs us T, x.2 = CB vs T ∧ y.2 = CB us T ∧ us.length = vs.length
inductive Shp : List Blk → List Blk → Prop
  | nil : Shp [] []
  | cons {x y : Blk} {l m : List Blk} : Sh1 x y → Shp l m → Shp (x :: l) (y :: m)
theorem Sh1.refl {b : Nat} {vs : List Value} {T : TypeId} : Sh1 (b, CB vs T) (b, CB vs T) := ⟨rfl, vs, vs, T, rfl, rfl, rfl⟩
theorem Shp.app {a b c d : List Blk} (h : Shp a b) (h' : Shp c d) : Shp (a ++ c) (b ++ d) := by
  induction h with
  | nil => exact h'
  | cons h1 _ ih => exact .cons h1 ih
theorem CB_inj {vs us : List Value} {T T' : TypeId} (h : CB vs T = CB us T') : vs = us ∧ T = T' := by
  unfold CB at h
  simp only [Obj.cells.injEq] at h
  exact ⟨by simpa using h.1, by simpa using h.2⟩
/-- A block of such a list stands somewhere in it, and a store leaves the shape. -/
theorem Shp.get {S0 S : List Blk} {b : Nat} {vs : List Value} {T : TypeId} (h : Shp S0 S) (hm : (b, CB vs T) ∈ S0) :
    ∃ S1 us S2, S = S1 ++ (b, CB us T) :: S2 ∧ us.length = vs.length ∧ ∀ us', us'.length = us.length → Shp S0 (S1 ++ (b, CB us' T) :: S2) := by
  induction h with
  | nil => cases hm
  | @cons x y l m h1 h2 ih =>
    rcases List.mem_cons.1 hm with rfl | hm
    · obtain ⟨rfl, vs', us, T', e1, e2, hl⟩ := h1
      obtain ⟨rfl, rfl⟩ := CB_inj e1
      obtain ⟨yb, yo⟩ := y
      simp only at e2
      subst e2
      exact ⟨[], us, m, rfl, hl, fun us' hl' => .cons ⟨rfl, _, _, _, rfl, rfl, hl'.trans hl⟩ h2⟩
    · obtain ⟨S1, us, S2, rfl, hl, hp⟩ := ih hm
      exact ⟨y :: S1, us, S2, rfl, hl, fun us' hl' => .cons h1 (hp us' hl')⟩
/-- A slice whose cells lie in such a block. -/
def OwnR (S0 : List Blk) (T : TypeId) (sz : Nat) (a : Option Addr) (n : Nat) : Prop := n = 0 ∨ ∃ b vs, a = some ⟨b, 0, none⟩ ∧ (b, CB vs T) ∈ S0 ∧ n * sz ≤ vs.length
theorem NewRow.own {S0 : List Blk} {T : TypeId} {sz n cap : Nat} {us : List Value} {a : Option Addr} {Hn : List Blk} (h : NewRow T sz n us (.slice a n cap) Hn) (hs : ∀ x ∈ Hn, x ∈ S0) : OwnR S0 T sz a n := by
  obtain ⟨a', cap', he, hle, ⟨hn, b, junk, rfl, rfl, hl⟩ | ⟨h0, _⟩⟩ := h
  · cases he
    exact .inr ⟨b, _, rfl, hs _ (List.mem_singleton.2 rfl), by rw [hl]; exact Nat.mul_le_mul_right _ hle⟩
  · exact .inl h0
theorem OwnR.get {S0 S : List Blk} {T : TypeId} {sz n k : Nat} {a : Option Addr} (h : OwnR S0 T sz a n) (hk : k < n) (hS : Shp S0 S) :
    ∃ b S1 us S2, a = some ⟨b, 0, none⟩ ∧ S = S1 ++ (b, CB us T) :: S2 ∧ k * sz + sz ≤ us.length ∧ ∀ us', us'.length = us.length → Shp S0 (S1 ++ (b, CB us' T) :: S2) := by
  rcases h with h | ⟨b, vs, rfl, hm, hl⟩
  · omega
  · obtain ⟨S1, us, S2, rfl, hu, hp⟩ := hS.get hm
    refine ⟨b, S1, us, S2, rfl, rfl, ?_, hp⟩
    rw [hu]
    refine Nat.le_trans ?_ hl
    rw [← Nat.succ_mul]
    exact Nat.mul_le_mul_right _ hk
end Go.Eng
namespace Go.Eng
section
variable {C : Ctx} {F : Fence} {n : Nat} {ds : List Deferred} {c : Code} {Q : Exit → Env → List Blk → Prop} {e : Env} {H M M' : List Blk}
end
end Go.Eng

/- Comparisons whose answer is known; equality of Bools. No project text. -/
namespace Go.Eng
open Go.RowKit
theorem ieq_no {a b : Int} : ieq a b = false ↔ ¬ a = b := by unfold ieq; simp
section
variable {C : Ctx} {e : Env} {H : List Blk} {o : Oper} {d : Option Tmp} {x y : Operand} {t t' ty : TypeId} {pos : String} {af : Array Edge} {g : Option (Nat × Bool)} {b c : Bool}
theorem YD_yes (h : YD C o e H (.bool b)) (hb : b = true) : YD C o e H (.bool true) := by subst hb; exact h
theorem YD_no (h : YD C o e H (.bool b)) (hb : b = false) : YD C o e H (.bool false) := by subst hb; exact h
theorem YD_eq {u v : Value} (h : YD C o e H u) (hb : u = v) : YD C o e H v := by subst hb; exact h
theorem y_neqB (hx : ev e x = .bool b) (hy : ev e y = .bool c) (hT : ∀ w, (underlying t).run C.P w = .ok .bool w) : YD C ⟨d, .binOp .neq t x y t', ty, pos, af, g⟩ e H (.bool (b != c)) := yd_of fun w _ => by
  have h : (Op.equalIn Op.maxDepth t (.bool b) (.bool c)).run C.P w = .ok (b == c) w := by
    unfold Op.maxDepth Op.equalIn
    rw [Sem.run_bind, hT]
    simp
  simp [execOp, hx, hy, eqGuard, binOp, Op.equal, h, bne]
end
end Go.Eng
namespace Go.Eng
/-- Slots that nobody reads any more are forgotten. -/
theorem W_keep {C : Ctx} {F : Fence} {n : Nat} {ds : List Deferred} {c : Code} {Q : Exit → Env → List Blk → Prop} {e : Env} {H : List Blk} (L : List (Nat × Value)) (hL : Slots e L) (h : ∀ e, W C F n ds c Q (sets e L) H) : W C F n ds c Q e H := by
  have := h e
  rwa [hL.sets] at this
end Go.Eng

/- Short words for what is asked often; a rest that is walked once. No project text. -/
namespace Go.Eng
open Go.RowKit
theorem sbA {A B : List Blk} (h : A.Sublist B := by (try simp only [List.append_assoc, List.cons_append, List.nil_append, List.set_cons_zero, List.set_cons_succ]); repeat (first | exact List.Sublist.refl _ | exact List.nil_sublist _ | exact List.sublist_append_left _ _ | apply List.Sublist.append_left | apply List.Sublist.cons_cons | apply List.Sublist.cons | refine List.Sublist.trans ?_ (List.sublist_append_right _ _))) : A.Sublist B := h
theorem dect {p : Prop} (h : p := by (try simp only [decide_eq_true_eq, decide_eq_false_iff_not, Bool.not_eq_true', Bool.not_eq_false', Bool.and_eq_true, Bool.and_eq_false_iff, ieq_iff, ieq_no, ne_eq, Classical.not_not]) <;> omega) : p := h
theorem slt {e : Env} {L : List (Nat × Value)} (h : Slots e L := by repeat (first | exact trivial | refine ⟨by rfl, ?_⟩)) : Slots e L := h
section
variable {C : Ctx} {F : Fence} {n : Nat} {ds : List Deferred} {x1 x2 x3 x4 x5 x6 y : Code} {Q : Exit → Env → List Blk → Prop} {e : Env} {H : List Blk} {γ : Type}
/-- The rest, whatever way led to it: some slots as they were, some as a ghost says. -/
def Rest (C : Ctx) (F : Fence) (n : Nat) (ds : List Deferred) (y : Code) (Q : Exit → Env → List Blk → Prop) {γ : Type} (I : γ → Prop) (L : List (Nat × Value)) (M : γ → List (Nat × Value)) (B : γ → List Blk) : Prop :=
  ∀ g e H, I g → Slots e L → Slots e (M g) → HSub H (B g) → W C F n ds y Q e H
theorem Slots.app {e : Env} : ∀ {L M : List (Nat × Value)}, Slots e L → Slots e M → Slots e (L ++ M)
  | [], _, _, h => h
  | _ :: _, _, h, h' => ⟨h.1, Slots.app h.2 h'⟩
theorem rest_of {I : γ → Prop} {L : List (Nat × Value)} {M : γ → List (Nat × Value)} {B : γ → List Blk} (h : ∀ g e, I g → W C F n ds y Q (sets e (L ++ M g)) (B g)) : Rest C F n ds y Q I L M B := fun g e H hi hL hM hB => by
  have := h g e hi
  rw [(hL.app hM).sets] at this
  exact W_sub hB this
theorem W_J1H (I : γ → Prop) (L : List (Nat × Value)) (M : γ → List (Nat × Value)) (_ : Slots e L) (hr : ∀ g e, I g → W C F n ds y Q (sets e (L ++ M g)) H) (h : Rest C F n ds y Q I L M (fun _ => H) → W C F n ds (.seq x1 y) Q e H) :
    W C F n ds (.seq x1 y) Q e H := h (rest_of (B := (fun _ => H)) hr)
end
end Go.Eng

/- The law of changes, walked. -/
namespace Go.Proofs.Ythkimgfgpphgnaa.T
open Go.RowKit Go.Proofs Go.Eng
set_option maxRecDepth 100000
set_option maxHeartbeats 1000000
set_option linter.unusedVariables false
set_option linter.unusedSimpArgs false

def Lg.wrL (l : Lg) : List Int := if l.err = 0 then l.wr.getD [] else []
def Lg.wrE (l : Lg) : Int := if l.err = 0 then (if l.wr.isSome then 0 else 6) else l.err
def WrI (l : Lg) (v : Value) (Hn : List Blk) : Prop :=
  ∃ fa fcap, v = .tuple #[.slice fa l.wrL.length fcap, .int .i64 l.wrE] ∧ ∀ (C : Ctx) (H : List Blk) (w : World), Hn.Sublist H → St C H w → Ints w fa l.wrL.length fcap l.wrL
theorem WrongV.ints {l : Lg} {v : Value} {Hn : List Blk} (h : WrongV l v Hn) : WrI l v Hn := by
  unfold WrI Lg.wrL Lg.wrE
  by_cases h0 : l.err = 0
  · rw [if_pos h0, if_pos h0]
    cases hw : l.wr with
    | none =>
      obtain ⟨rfl, rfl⟩ := (h.2 h0).2 hw
      exact ⟨none, 0, rfl, fun C H w _ _ => Ints.nil _ _ _⟩
    | some R =>
      obtain ⟨fa, fn, fcap, rfl, hr, rfl⟩ := (h.2 h0).1 R hw
      exact ⟨fa, fcap, rfl, fun C H w hs hw => Row.ints hr rfl hs w hw⟩
  · rw [if_neg h0, if_neg h0]
    obtain ⟨rfl, rfl⟩ := h.1 h0
    exact ⟨none, 0, rfl, fun C H w _ _ => Ints.nil _ _ _⟩
def Lg.zero : Lg := ⟨⟨[], 0, 0⟩, ⟨0, 0⟩, []⟩
def Lg.addL (l : Lg) (x : En) : Lg := if l.addE x = 0 then l.put x else Lg.zero
def Lg.strL (l : Lg) (D : List Int) : Lg := if l.strE D = 0 then l.wo D else Lg.zero
end Go.Proofs.Ythkimgfgpphgnaa.T

/- The examples that every outright law calls: alive, walked. -/
namespace Go.Proofs.Ythkimgfgpphgnaa.T
open Go.RowKit Go.Proofs Go.Eng
set_option maxRecDepth 100000
set_option maxHeartbeats 1000000
set_option linter.unusedVariables false
set_option linter.unusedSimpArgs false

theorem bd48_0_1_2 {x0 : Int} {x1 : Int} {x2_0 : Int} {x2_1 : Int} : ∀ w, (Instr.build 48 #[(0, .int .i64 x0), (1, .int .i64 x1), (2, .agg #[.int .i64 x2_0, .int .i64 x2_1])]).run Try.prog w = .ok (.agg #[.int .i64 x0, .int .i64 x1, .int .i64 x2_0, .int .i64 x2_1]) w := fun w => by kernel_rfl
theorem bs22_5_0_1_2_3_4 {x0 : Int} {x1 : Int} {x2 : Int} {x3 : Int} {x4 : Int} : ∀ w, (Instr.buildSlice 22 5 #[(0, .int .i64 x0), (1, .int .i64 x1), (2, .int .i64 x2), (3, .int .i64 x3), (4, .int .i64 x4)]).run Try.prog w = .ok (.slice (some ⟨w.heap.size, 0, none⟩) 5 5) (w.alloc (CB [.int .i64 x0, .int .i64 x1, .int .i64 x2, .int .i64 x3, .int .i64 x4] 3)) := fun w => by kernel_rfl
theorem bs44_4_0_1_2_3 {x0_0 : Int} {x0_1 : Int} {x0_2 : Int} {x0_3 : Int} {x1_0 : Int} {x1_1 : Int} {x1_2 : Int} {x1_3 : Int} {x2_0 : Int} {x2_1 : Int} {x2_2 : Int} {x2_3 : Int} {x3_0 : Int} {x3_1 : Int} {x3_2 : Int} {x3_3 : Int} : ∀ w, (Instr.buildSlice 44 4 #[(0, .agg #[.int .i64 x0_0, .int .i64 x0_1, .int .i64 x0_2, .int .i64 x0_3]), (1, .agg #[.int .i64 x1_0, .int .i64 x1_1, .int .i64 x1_2, .int .i64 x1_3]), (2, .agg #[.int .i64 x2_0, .int .i64 x2_1, .int .i64 x2_2, .int .i64 x2_3]), (3, .agg #[.int .i64 x3_0, .int .i64 x3_1, .int .i64 x3_2, .int .i64 x3_3])]).run Try.prog w = .ok (.slice (some ⟨w.heap.size, 0, none⟩) 4 4) (w.alloc (CB [.int .i64 x0_0, .int .i64 x0_1, .int .i64 x0_2, .int .i64 x0_3, .int .i64 x1_0, .int .i64 x1_1, .int .i64 x1_2, .int .i64 x1_3, .int .i64 x2_0, .int .i64 x2_1, .int .i64 x2_2, .int .i64 x2_3, .int .i64 x3_0, .int .i64 x3_1, .int .i64 x3_2, .int .i64 x3_3] 48)) := fun w => by kernel_rfl

theorem lpart_any (x y : Int) (w : World) : Ct Try.prog 57 #[.int .i64 x, .int .i64 y] w fun v _ => v = .agg #[.int .i64 x, .int .i64 y] := by
  have hF := wide_wide
  refine Ct_start (args := [_, _]) Try.func57 (by rfl) Try.ntmps57 (by rfl) ?_
  refine W_seq ?_
  refine W_region_lit (fun ds => ?_)
  refine WS_new hF (by rfl) (y_alloc Try.zeroValue30 (by rfl)) (fun b1 => ?_)
  refine WS_nil ?_
  refine Then_normal ?_
  refine W_seq ?_
  refine W_region_lit (fun ds => ?_)
  refine WS_det hF (by rfl) (y_move (c := .int .i64 _) (by rfl)) ?_
  refine WS_det hF (by rfl) (y_move (c := .int .i64 _) (by rfl)) ?_
  refine WS_det hF (by rfl) (y_buildL bd30_0_1 (by rfl)) ?_
  refine WS_store hF (i := 0) (by rfl) (by rfl) Try.sizeOf30 (by rfl) (by rfl) (by rfl) (by first | decide | exact Nat.le_of_ble_eq_true rfl | simp) ?_
  refine WS_nil ?_
  refine Then_normal ?_
  refine W_ret ?_
  refine Fin_ret [_] [] Try.results57 ⟨lvN (by rfl) Try.isAgg30 Try.sizeOf30 (Mem.own (us := [.int .i64 _, .int .i64 _]) 0 (by rfl) (by rfl)) (by rfl), trivial⟩ HSub.nil ?_
  rfl
theorem lspan_any (x y : Int) (w : World) : Ct Try.prog 58 #[.int .i64 x, .int .i64 y] w fun v _ => v = .agg #[.int .i64 x, .int .i64 y] := by
  have hF := wide_wide
  refine Ct_start (args := [_, _]) Try.func58 (by rfl) Try.ntmps58 (by rfl) ?_
  refine W_seq ?_
  refine W_region_lit (fun ds => ?_)
  refine WS_new hF (by rfl) (y_alloc Try.zeroValue26 (by rfl)) (fun b1 => ?_)
  refine WS_nil ?_
  refine Then_normal ?_
  refine W_seq ?_
  refine W_region_lit (fun ds => ?_)
  refine WS_det hF (by rfl) (y_move (c := .int .i64 _) (by rfl)) ?_
  refine WS_det hF (by rfl) (y_move (c := .int .i64 _) (by rfl)) ?_
  refine WS_det hF (by rfl) (y_buildL bd26_0_1 (by rfl)) ?_
  refine WS_store hF (i := 0) (by rfl) (by rfl) Try.sizeOf26 (by rfl) (by rfl) (by rfl) (by first | decide | exact Nat.le_of_ble_eq_true rfl | simp) ?_
  refine WS_nil ?_
  refine Then_normal ?_
  refine W_ret ?_
  refine Fin_ret [_] [] Try.results58 ⟨lvN (by rfl) Try.isAgg26 Try.sizeOf26 (Mem.own (us := [.int .i64 _, .int .i64 _]) 0 (by rfl) (by rfl)) (by rfl), trivial⟩ HSub.nil ?_
  rfl
theorem lentry_any (d k x y : Int) (w : World) : Ct Try.prog 60 #[.int .i64 d, .int .i64 k, .int .i64 x, .int .i64 y] w fun v _ => v = .agg #[.int .i64 d, .int .i64 k, .int .i64 x, .int .i64 y] := by
  have hF := wide_wide
  refine Ct_start (args := [_, _, _, _]) Try.func60 (by rfl) Try.ntmps60 (by rfl) ?_
  refine W_seq ?_
  refine W_region_lit (fun ds => ?_)
  refine WS_new hF (by rfl) (y_alloc Try.zeroValue48 (by rfl)) (fun b1 => ?_)
  refine WS_nil ?_
  refine Then_normal ?_
  refine W_seq ?_
  refine W_region_lit (fun ds => ?_)
  refine WS_det hF (by rfl) (y_move (c := .int .i64 _) (by rfl)) ?_
  refine WS_det hF (by rfl) (y_move (c := .int .i64 _) (by rfl)) ?_
  refine WS_det hF (by rfl) (y_move (c := .int .i64 _) (by rfl)) ?_
  refine WS_det hF (by rfl) (y_move (c := .int .i64 _) (by rfl)) ?_
  refine WS_det hF (by rfl) (y_callL (by rfl) (by rfl) Try.call58 (fun w hw => lspan_any _ _ w)) ?_
  refine WS_det hF (by rfl) (y_buildL bd48_0_1_2 (by rfl)) ?_
  refine WS_store hF (i := 0) (by rfl) (by rfl) Try.sizeOf48 (by rfl) (by rfl) (by rfl) (by first | decide | exact Nat.le_of_ble_eq_true rfl | simp) ?_
  refine WS_nil ?_
  refine Then_normal ?_
  refine W_ret ?_
  refine Fin_ret [_] [] Try.results60 ⟨lvN (by rfl) Try.isAgg48 Try.sizeOf48 (Mem.own (us := [.int .i64 _, .int .i64 _, .int .i64 _, .int .i64 _]) 0 (by rfl) (by rfl)) (by rfl), trivial⟩ HSub.nil ?_
  rfl
def tunT : Tk := ⟨[0, 10, 30, 60, 100], 2, 8⟩
def logL : Lg := ⟨tunT, ⟨20, 40⟩, [⟨0, 1, ⟨10, 15⟩⟩, ⟨3, 3, ⟨18, 20⟩⟩, ⟨5, 2, ⟨10, 20⟩⟩, ⟨5, 3, ⟨12, 16⟩⟩]⟩
def TwinT (t : Tk) (v : Value) (Hn : List Blk) : Prop := ∃ a cap, v = .agg #[.slice a t.n cap, .int .i64 t.leak, .int .i64 t.foot] ∧ NewRow 3 1 t.n (iv t.pints) (.slice a t.n cap) Hn
theorem tun_any (w : World) : Ct Try.prog 63 #[] w (TwinT tunT) := by
  have hF := wide_wide
  refine Ct_start (args := []) Try.func63 (by rfl) Try.ntmps63 (by rfl) ?_
  refine W_seq ?_
  refine W_region_lit (fun ds => ?_)
  refine WS_new hF (by rfl) (y_alloc Try.zeroValue24 (by rfl)) (fun b1 => ?_)
  refine WS_nil ?_
  refine Then_normal ?_
  refine W_seq ?_
  refine W_region_lit (fun ds => ?_)
  refine WS_newS hF (by rfl) (y_buildSliceL bs22_5_0_1_2_3_4 (by rfl)) (fun b2 => ?_)
  refine WS_det hF (by rfl) (y_buildL bd24_0_1_2 (by rfl)) ?_
  refine WS_store hF (i := 1) (by rfl) (by rfl) Try.sizeOf24 (by rfl) (by rfl) (by rfl) (by first | decide | exact Nat.le_of_ble_eq_true rfl | simp) ?_
  refine WS_nil ?_
  refine Then_normal ?_
  refine W_ret ?_
  refine Fin_ret [_] [(b2, _)] Try.results63 ⟨lvN (by rfl) Try.isAgg24 Try.sizeOf24 (Mem.own (us := [.slice _ _ _, .int .i64 _, .int .i64 _]) 1 (by rfl) (by rfl)) (by rfl), trivial⟩ (HSub.sub (by repeat (first | exact List.nil_sublist _ | apply List.Sublist.cons_cons | apply List.Sublist.cons))) ?_
  exact ⟨_, _, rfl, ⟨_, _, rfl, Nat.le_refl _, .inl ⟨by decide, b2, [], rfl, rfl, rfl⟩⟩⟩
theorem log_any (w : World) : Ct Try.prog 62 #[] w (TwinL logL) := by
  have hF := wide_wide
  refine Ct_start (args := []) Try.func62 (by rfl) Try.ntmps62 (by rfl) ?_
  refine W_seq ?_
  refine W_region_lit (fun ds => ?_)
  refine WS_new hF (by rfl) (y_alloc Try.zeroValue46 (by rfl)) (fun b1 => ?_)
  refine WS_nil ?_
  refine Then_normal ?_
  refine W_seq ?_
  refine W_region_lit (fun ds => ?_)
  refine WS_gen hF (by rfl) (y_callL (by rfl) (by rfl) Try.call63 (fun w hw => tun_any w)) ?_
  rintro _ Hn ⟨a, cap, rfl, hr⟩
  refine WS_back ?_
  refine WS_det hF (by rfl) (y_callL (by rfl) (by rfl) Try.call58 (fun w hw => lspan_any _ _ w)) ?_
  refine WS_det hF (by rfl) (y_callL (by rfl) (by rfl) Try.call60 (fun w hw => lentry_any _ _ _ _ w)) ?_
  refine WS_det hF (by rfl) (y_callL (by rfl) (by rfl) Try.call60 (fun w hw => lentry_any _ _ _ _ w)) ?_
  refine WS_det hF (by rfl) (y_callL (by rfl) (by rfl) Try.call60 (fun w hw => lentry_any _ _ _ _ w)) ?_
  refine WS_det hF (by rfl) (y_callL (by rfl) (by rfl) Try.call60 (fun w hw => lentry_any _ _ _ _ w)) ?_
  refine WS_newS hF (by rfl) (y_buildSliceL bs44_4_0_1_2_3 (by rfl)) (fun b2 => ?_)
  refine WS_det hF (by rfl) (y_buildL bd46_0_1_2 (by rfl)) ?_
  refine WS_store hF (i := 1) (by rfl) (by rfl) Try.sizeOf46 (by rfl) (by rfl) (by rfl) (by first | decide | exact Nat.le_of_ble_eq_true rfl | simp) ?_
  refine WS_nil ?_
  refine Then_normal ?_
  refine W_ret ?_
  refine Fin_ret [_] (Hn ++ [(b2, CB (rowOf En.cells logL.e logL.es.length) 48)]) Try.results62 ⟨lvN (by rfl) Try.isAgg46 Try.sizeOf46 (Mem.own (us := [.slice _ _ _, .int .i64 _, .int .i64 _, .int .i64 _, .int .i64 _, .slice _ _ _]) 1 (by rfl) (by rfl)) (by rfl), trivial⟩ (fun _ _ h => (h.sub (H' := [(b2, CB (rowOf En.cells logL.e logL.es.length) 48)] ++ Hn) (List.Sublist.cons_cons _ (List.Sublist.cons _ (List.Sublist.refl _)))).perm List.perm_append_comm) ?_
  exact ⟨_, _, _, _, _, [(b2, _)], rfl, hr, ⟨_, _, rfl, Nat.le_refl _, .inl ⟨by decide, b2, [], by rfl, by rw [List.append_nil], by rfl⟩⟩, rfl⟩
end Go.Proofs.Ythkimgfgpphgnaa.T

/- What the examples come to: by the kernel's own run. -/
namespace Go.Proofs.Ythkimgfgpphgnaa.T
open Go.RowKit Go.Proofs Go.Eng
set_option maxRecDepth 100000

theorem k_vol : tunT.volume 9 = .tuple #[.agg #[.int .i64 25, .int .i64 2], .int .i64 0] := by kernel_rfl
theorem k_eig : tunT.eighthV 35 3 = .tuple #[.agg #[.int .i64 52, .int .i64 3], .int .i64 0] := by kernel_rfl
theorem k_lb : tunT.Lb 35 3 := ⟨by decide, fun k hk => by
  obtain rfl | rfl | rfl : k = 0 ∨ k = 1 ∨ k = 2 := by omega
  all_goals decide, fun k h1 h2 => by
  have : k < 5 := h2
  obtain rfl | rfl : k = 3 ∨ k = 4 := by omega
  all_goals decide⟩
theorem k_rng : tunT.range 9 12 = .tuple #[.agg #[.int .i64 13, .int .i64 20], .int .i64 0] := by kernel_rfl
theorem k_hol : logL.holdsV 1 = .tuple #[.agg #[.int .i64 38, .int .i64 51], .int .i64 0] := by kernel_rfl
theorem k_trs : logL.trs = [23, 38, 38, 20, 20] := by kernel_rfl
theorem k_aerr : logL.aerr = 0 := by kernel_rfl
theorem k_mov : logL.movedV 3 = .tuple #[.agg #[.int .i64 10, .int .i64 20], .int .i64 0] := by kernel_rfl
theorem k_los : logL.lostV 1 = .tuple #[.agg #[.int .i64 0, .int .i64 6], .int .i64 0] := by kernel_rfl
theorem k_lea : logL.leakedV = .tuple #[.agg #[.int .i64 0, .int .i64 10], .int .i64 0] := by kernel_rfl
theorem k_sur : logL.sureV 21 = .tuple #[.int .u8 1, .int .i64 0] := by kernel_rfl
theorem k_whe : logL.whenV 38 = .tuple #[.int .i64 1, .int .i64 0] := by kernel_rfl
theorem k_rea : logL.readyV = .tuple #[.agg #[.int .i64 10, .int .i64 20], .int .i64 0] := by kernel_rfl
theorem k_roo : logL.roomV = .tuple #[.agg #[.int .i64 70, .int .i64 80], .int .i64 0] := by kernel_rfl
theorem k_ask : logL.askV = .tuple #[.int .i64 14, .int .i64 6, .int .i64 0] := by kernel_rfl
def oddX : En := ⟨5, 3, ⟨20, 24⟩⟩
def oddL : Lg := logL.put oddX
theorem k_add : logL.addE oddX = 0 := by kernel_rfl
theorem k_wrL : oddL.wrL = [5] := by kernel_rfl
theorem k_wrE : oddL.wrE = 0 := by kernel_rfl
theorem k_odd : oddL.aerr = 8 := by kernel_rfl
end Go.Proofs.Ythkimgfgpphgnaa.T

/- alive returns true, walked. -/
namespace Go.Proofs.Ythkimgfgpphgnaa.T
open Go.RowKit Go.Proofs Go.Eng
set_option maxRecDepth 100000
set_option maxHeartbeats 4000000
set_option linter.unusedVariables false
set_option linter.unusedSimpArgs false

theorem a_gneqA30 {x y : Operand} {x_0 : Int} {x_1 : Int} {y_0 : Int} {y_1 : Int} : ∀ w, (eqGuard .neq 30 x y (.agg #[.int .i64 x_0, .int .i64 x_1]) (.agg #[.int .i64 y_0, .int .i64 y_1])).run Try.prog w = .ok () w := fun w => by kernel_rfl
theorem neqA30 {x y : Operand} {x_0 : Int} {x_1 : Int} {y_0 : Int} {y_1 : Int} : ∀ w, ((do eqGuard .neq 30 x y (.agg #[.int .i64 x_0, .int .i64 x_1]) (.agg #[.int .i64 y_0, .int .i64 y_1]); binOp .neq 30 (.agg #[.int .i64 x_0, .int .i64 x_1]) (.agg #[.int .i64 y_0, .int .i64 y_1])) : Sem Value).run Try.prog w = .ok (.bool (!(ieq x_0 y_0 && ieq x_1 y_1))) w := eq_topN a_gneqA30 eq30

theorem alive_any (w : World) : Ct Try.prog 53 #[] w fun v _ => v = .bool true := by
  have hF := wide_wide
  refine Ct_start (args := []) Try.func53 (by rfl) Try.ntmps53 (by rfl) ?_
  refine W_seq ?_
  refine W_region_lit (fun ds => ?_)
  refine WS_det hF (by rfl) (y_assign (c := .bool _) (by rfl)) ?_
  refine WS_nil ?_
  refine Then_normal ?_
  refine W_seq ?_
  refine W_region_lit (fun ds => ?_)
  refine WS_gen hF (by rfl) (y_callL (by rfl) (by rfl) Try.call63 (fun w hw => tun_any w)) ?_
  rintro _ Ht ⟨ta, tcap, rfl, hrt⟩
  refine WS_back ?_
  refine WS_det hF (by rfl) (y_callL (by rfl) (by rfl) Try.call13 (fun w hw => Ct_eq (volume_any tunT _ _ 9 w (by decide) (NewRow.ints hrt rfl sbA w hw)) k_vol)) ?_
  refine WS_det hF (by rfl) (y_move (c := .tuple _) (by rfl)) ?_
  refine WS_det hF (by rfl) (y_extract (c := .agg _) (by rfl) (by rfl)) ?_
  refine WS_det hF (by rfl) (y_extract (c := .int .i64 _) (by rfl) (by rfl)) ?_
  refine WS_new hF (by rfl) (y_alloc Try.zeroValue30 (by rfl)) (fun b1 => ?_)
  refine WS_store hF (i := 0) (by rfl) (by rfl) Try.sizeOf30 (by rfl) (by rfl) (by rfl) (by first | decide | exact Nat.le_of_ble_eq_true rfl | simp) ?_
  refine WS_det hF (by rfl) (y_assign (c := .int .i64 _) (by rfl)) ?_
  refine WS_nil ?_
  refine Then_normal ?_
  refine W_seq ?_
  refine W_region_lit (fun ds => ?_)
  refine WS_gen hF (by rfl) (y_callL (by rfl) (by rfl) Try.call63 (fun w hw => tun_any w)) ?_
  rintro _ Ht ⟨ta, tcap, rfl, hrt⟩
  refine WS_back ?_
  refine WS_det hF (by rfl) (y_callL (by rfl) (by rfl) Try.call15 (fun w hw => Ct_eq (eighth_any tunT _ _ 35 3 w (by decide) (NewRow.ints hrt rfl sbA w hw) (fun _ => k_lb)) k_eig)) ?_
  refine WS_det hF (by rfl) (y_move (c := .tuple _) (by rfl)) ?_
  refine WS_det hF (by rfl) (y_extract (c := .agg _) (by rfl) (by rfl)) ?_
  refine WS_det hF (by rfl) (y_extract (c := .int .i64 _) (by rfl) (by rfl)) ?_
  refine WS_new hF (by rfl) (y_alloc Try.zeroValue30 (by rfl)) (fun b2 => ?_)
  refine WS_store hF (i := 0) (by rfl) (by rfl) Try.sizeOf30 (by rfl) (by rfl) (by rfl) (by first | decide | exact Nat.le_of_ble_eq_true rfl | simp) ?_
  refine WS_det hF (by rfl) (y_assign (c := .int .i64 _) (by rfl)) ?_
  refine WS_nil ?_
  refine Then_normal ?_
  refine W_seq ?_
  refine W_region_lit (fun ds => ?_)
  refine WS_gen hF (by rfl) (y_callL (by rfl) (by rfl) Try.call63 (fun w hw => tun_any w)) ?_
  rintro _ Ht ⟨ta, tcap, rfl, hrt⟩
  refine WS_back ?_
  refine WS_det hF (by rfl) (y_callL (by rfl) (by rfl) Try.call58 (fun w hw => lspan_any _ _ w)) ?_
  refine WS_det hF (by rfl) (y_callL (by rfl) (by rfl) Try.call17 (fun w hw => Ct_eq (range_any tunT _ _ 9 12 w (by decide) (NewRow.ints hrt rfl sbA w hw)) k_rng)) ?_
  refine WS_det hF (by rfl) (y_move (c := .tuple _) (by rfl)) ?_
  refine WS_det hF (by rfl) (y_extract (c := .agg _) (by rfl) (by rfl)) ?_
  refine WS_det hF (by rfl) (y_extract (c := .int .i64 _) (by rfl) (by rfl)) ?_
  refine WS_new hF (by rfl) (y_alloc Try.zeroValue26 (by rfl)) (fun b3 => ?_)
  refine WS_store hF (i := 0) (by rfl) (by rfl) Try.sizeOf26 (by rfl) (by rfl) (by rfl) (by first | decide | exact Nat.le_of_ble_eq_true rfl | simp) ?_
  refine WS_det hF (by rfl) (y_assign (c := .int .i64 _) (by rfl)) ?_
  refine WS_nil ?_
  refine Then_normal ?_
  refine W_seq ?_
  refine W_region_lit (fun ds => ?_)
  refine WS_gen hF (by rfl) (y_callL (by rfl) (by rfl) Try.call62 (fun w hw => log_any w)) ?_
  rintro _ _ ⟨a1, cap1, ae1, cape1, Hp, He, rfl, hrp, hre, rfl⟩
  refine WS_back ?_
  refine WS_det hF (by rfl) (y_callL (by rfl) (by rfl) Try.call43 (fun w hw => Ct_eq (holds_any logL _ _ _ _ 1 w (by decide) (NewRow.ints hrp rfl sbA w hw) (NewRow.rws en_len hre rfl sbA w hw)) k_hol)) ?_
  refine WS_det hF (by rfl) (y_move (c := .tuple _) (by rfl)) ?_
  refine WS_det hF (by rfl) (y_extract (c := .agg _) (by rfl) (by rfl)) ?_
  refine WS_det hF (by rfl) (y_extract (c := .int .i64 _) (by rfl) (by rfl)) ?_
  refine WS_new hF (by rfl) (y_alloc Try.zeroValue26 (by rfl)) (fun b4 => ?_)
  refine WS_store hF (i := 0) (by rfl) (by rfl) Try.sizeOf26 (by rfl) (by rfl) (by rfl) (by first | decide | exact Nat.le_of_ble_eq_true rfl | simp) ?_
  refine WS_det hF (by rfl) (y_assign (c := .int .i64 _) (by rfl)) ?_
  refine WS_nil ?_
  refine Then_normal ?_
  refine W_seq ?_
  refine W_region_lit (fun ds => ?_)
  refine WS_gen hF (by rfl) (y_callL (by rfl) (by rfl) Try.call62 (fun w hw => log_any w)) ?_
  rintro _ _ ⟨a1, cap1, ae1, cape1, Hp, He, rfl, hrp, hre, rfl⟩
  refine WS_back ?_
  refine WS_gen hF (by rfl) (y_callL (by rfl) (by rfl) Try.call41 (fun w hw => truth_any logL _ _ _ _ w (by decide) (NewRow.ints hrp rfl sbA w hw) (NewRow.rws en_len hre rfl sbA w hw))) ?_
  rintro _ Hb hTb
  obtain ⟨tb, tcap2, rfl, htb⟩ := truth_ints hTb
  rw [k_trs, k_aerr] at *
  refine WS_back ?_
  refine WS_det hF (by rfl) (y_move (c := .tuple _) (by rfl)) ?_
  refine WS_det hF (by rfl) (y_extract (c := .slice _ _ _) (by rfl) (by rfl)) ?_
  refine WS_det hF (by rfl) (y_extract (c := .int .i64 _) (by rfl) (by rfl)) ?_
  refine WS_det hF (by rfl) (y_assign (c := .slice _ _ _) (by rfl)) ?_
  refine WS_det hF (by rfl) (y_assign (c := .int .i64 _) (by rfl)) ?_
  refine WS_nil ?_
  refine Then_normal ?_
  refine W_seq ?_
  refine W_region_lit (fun ds => ?_)
  refine WS_gen hF (by rfl) (y_callL (by rfl) (by rfl) Try.call62 (fun w hw => log_any w)) ?_
  rintro _ _ ⟨a1, cap1, ae1, cape1, Hp, He, rfl, hrp, hre, rfl⟩
  refine WS_back ?_
  refine WS_det hF (by rfl) (y_callL (by rfl) (by rfl) Try.call47 (fun w hw => Ct_eq (moved_any logL _ _ _ _ 3 w (by decide) (NewRow.ints hrp rfl sbA w hw) (NewRow.rws en_len hre rfl sbA w hw)) k_mov)) ?_
  refine WS_det hF (by rfl) (y_move (c := .tuple _) (by rfl)) ?_
  refine WS_det hF (by rfl) (y_extract (c := .agg _) (by rfl) (by rfl)) ?_
  refine WS_det hF (by rfl) (y_extract (c := .int .i64 _) (by rfl) (by rfl)) ?_
  refine WS_new hF (by rfl) (y_alloc Try.zeroValue26 (by rfl)) (fun b5 => ?_)
  refine WS_store hF (i := 0) (by rfl) (by rfl) Try.sizeOf26 (by rfl) (by rfl) (by rfl) (by first | decide | exact Nat.le_of_ble_eq_true rfl | simp) ?_
  refine WS_det hF (by rfl) (y_assign (c := .int .i64 _) (by rfl)) ?_
  refine WS_nil ?_
  refine Then_normal ?_
  refine W_seq ?_
  refine W_region_lit (fun ds => ?_)
  refine WS_gen hF (by rfl) (y_callL (by rfl) (by rfl) Try.call62 (fun w hw => log_any w)) ?_
  rintro _ _ ⟨a1, cap1, ae1, cape1, Hp, He, rfl, hrp, hre, rfl⟩
  refine WS_back ?_
  refine WS_det hF (by rfl) (y_callL (by rfl) (by rfl) Try.call49 (fun w hw => Ct_eq (lost_any logL _ _ _ _ 1 w (by decide) (NewRow.ints hrp rfl sbA w hw) (NewRow.rws en_len hre rfl sbA w hw)) k_los)) ?_
  refine WS_det hF (by rfl) (y_move (c := .tuple _) (by rfl)) ?_
  refine WS_det hF (by rfl) (y_extract (c := .agg _) (by rfl) (by rfl)) ?_
  refine WS_det hF (by rfl) (y_extract (c := .int .i64 _) (by rfl) (by rfl)) ?_
  refine WS_new hF (by rfl) (y_alloc Try.zeroValue26 (by rfl)) (fun b6 => ?_)
  refine WS_store hF (i := 0) (by rfl) (by rfl) Try.sizeOf26 (by rfl) (by rfl) (by rfl) (by first | decide | exact Nat.le_of_ble_eq_true rfl | simp) ?_
  refine WS_det hF (by rfl) (y_assign (c := .int .i64 _) (by rfl)) ?_
  refine WS_nil ?_
  refine Then_normal ?_
  refine W_seq ?_
  refine W_region_lit (fun ds => ?_)
  refine WS_gen hF (by rfl) (y_callL (by rfl) (by rfl) Try.call62 (fun w hw => log_any w)) ?_
  rintro _ _ ⟨a1, cap1, ae1, cape1, Hp, He, rfl, hrp, hre, rfl⟩
  refine WS_back ?_
  refine WS_det hF (by rfl) (y_callL (by rfl) (by rfl) Try.call51 (fun w hw => Ct_eq (leaked_any logL _ _ _ _ w (by decide) (NewRow.ints hrp rfl sbA w hw) (NewRow.rws en_len hre rfl sbA w hw)) k_lea)) ?_
  refine WS_det hF (by rfl) (y_move (c := .tuple _) (by rfl)) ?_
  refine WS_det hF (by rfl) (y_extract (c := .agg _) (by rfl) (by rfl)) ?_
  refine WS_det hF (by rfl) (y_extract (c := .int .i64 _) (by rfl) (by rfl)) ?_
  refine WS_new hF (by rfl) (y_alloc Try.zeroValue26 (by rfl)) (fun b7 => ?_)
  refine WS_store hF (i := 0) (by rfl) (by rfl) Try.sizeOf26 (by rfl) (by rfl) (by rfl) (by first | decide | exact Nat.le_of_ble_eq_true rfl | simp) ?_
  refine WS_det hF (by rfl) (y_assign (c := .int .i64 _) (by rfl)) ?_
  refine WS_nil ?_
  refine Then_normal ?_
  refine W_seq ?_
  refine W_seq ?_
  refine W_draw0 hF Trymixed [] (by decide +kernel) (fun ds => ?_)
  refine P_det (by rfl) (Over_nil (y_move (c := .int .i64 _) (by rfl))) ?_
  refine P_det (by rfl) (Over_nil (y_neqF (by rfl) (by rfl))) ?_
  refine P_det (by rfl) (Over_nil (y_move (c := .bool _) (by rfl))) ?_
  refine P_det (by rfl) (Over_nil (y_loadN (by rfl) Try.isAgg30 Try.sizeOf30 (Mem.own (us := [.int .i64 _, .int .i64 _]) 6 (by rfl) (by rfl)) (by rfl))) ?_
  refine P_det (by rfl) (Over_nil (y_callL (by rfl) (by rfl) Try.call57 (fun w hw => lpart_any _ _ w))) ?_
  refine P_det (by rfl) (Over_nil (y_neqlAF (by rfl) (by rfl) neqA30 (by simp only [ieq_self, Bool.and_self, Bool.not_true]))) ?_
  refine P_det (by rfl) (Over_nil (by first | exact y_pick_t (c := .bool _) (by rfl) (by rfl) | exact y_pick_f (c := .bool _) (by rfl) (by rfl))) ?_
  refine P_det (by rfl) (Over_nil (y_move (c := .bool _) (by rfl))) ?_
  refine P_det (by rfl) (Over_nil (y_move (c := .int .i64 _) (by rfl))) ?_
  refine P_det (by rfl) (Over_nil (y_neqF (by rfl) (by rfl))) ?_
  refine P_det (by rfl) (Over_nil (by first | exact y_pick_t (c := .bool _) (by rfl) (by rfl) | exact y_pick_f (c := .bool _) (by rfl) (by rfl))) ?_
  refine P_det (by rfl) (Over_nil (y_move (c := .bool _) (by rfl))) ?_
  refine P_det (by rfl) (Over_nil (y_loadN (by rfl) Try.isAgg30 Try.sizeOf30 (Mem.own (us := [.int .i64 _, .int .i64 _]) 5 (by rfl) (by rfl)) (by rfl))) ?_
  refine P_det (by rfl) (Over_nil (y_callL (by rfl) (by rfl) Try.call57 (fun w hw => lpart_any _ _ w))) ?_
  refine P_det (by rfl) (Over_nil (y_neqlAF (by rfl) (by rfl) neqA30 (by simp only [ieq_self, Bool.and_self, Bool.not_true]))) ?_
  refine P_det (by rfl) (Over_nil (by first | exact y_pick_t (c := .bool _) (by rfl) (by rfl) | exact y_pick_f (c := .bool _) (by rfl) (by rfl))) ?_
  refine P_det (by rfl) (Over_nil (y_move (c := .bool _) (by rfl))) ?_
  refine P_det (by rfl) (Over_nil (y_move (c := .int .i64 _) (by rfl))) ?_
  refine P_det (by rfl) (Over_nil (y_neqF (by rfl) (by rfl))) ?_
  refine P_det (by rfl) (Over_nil (by first | exact y_pick_t (c := .bool _) (by rfl) (by rfl) | exact y_pick_f (c := .bool _) (by rfl) (by rfl))) ?_
  refine P_det (by rfl) (Over_nil (y_move (c := .bool _) (by rfl))) ?_
  refine P_det (by rfl) (Over_nil (y_loadN (by rfl) Try.isAgg26 Try.sizeOf26 (Mem.own (us := [.int .i64 _, .int .i64 _]) 4 (by rfl) (by rfl)) (by rfl))) ?_
  refine P_det (by rfl) (Over_nil (y_callL (by rfl) (by rfl) Try.call58 (fun w hw => lspan_any _ _ w))) ?_
  refine P_det (by rfl) (Over_nil (y_neqlAF (by rfl) (by rfl) neqA26 (by simp only [ieq_self, Bool.and_self, Bool.not_true]))) ?_
  refine P_det (by rfl) (Over_nil (by first | exact y_pick_t (c := .bool _) (by rfl) (by rfl) | exact y_pick_f (c := .bool _) (by rfl) (by rfl))) ?_
  refine P_det (by rfl) (Over_nil (y_move (c := .bool _) (by rfl))) ?_
  refine P_det (by rfl) (Over_nil (y_move (c := .int .i64 _) (by rfl))) ?_
  refine P_det (by rfl) (Over_nil (y_neqF (by rfl) (by rfl))) ?_
  refine P_det (by rfl) (Over_nil (by first | exact y_pick_t (c := .bool _) (by rfl) (by rfl) | exact y_pick_f (c := .bool _) (by rfl) (by rfl))) ?_
  refine P_det (by rfl) (Over_nil (y_move (c := .bool _) (by rfl))) ?_
  refine P_det (by rfl) (Over_nil (y_loadN (by rfl) Try.isAgg26 Try.sizeOf26 (Mem.own (us := [.int .i64 _, .int .i64 _]) 3 (by rfl) (by rfl)) (by rfl))) ?_
  refine P_det (by rfl) (Over_nil (y_callL (by rfl) (by rfl) Try.call58 (fun w hw => lspan_any _ _ w))) ?_
  refine P_det (by rfl) (Over_nil (y_neqlAF (by rfl) (by rfl) neqA26 (by simp only [ieq_self, Bool.and_self, Bool.not_true]))) ?_
  refine P_det (by rfl) (Over_nil (by first | exact y_pick_t (c := .bool _) (by rfl) (by rfl) | exact y_pick_f (c := .bool _) (by rfl) (by rfl))) ?_
  refine P_det (by rfl) (Over_nil (y_move (c := .bool _) (by rfl))) ?_
  refine P_det (by rfl) (Over_nil (y_move (c := .int .i64 _) (by rfl))) ?_
  refine P_det (by rfl) (Over_nil (y_neqF (by rfl) (by rfl))) ?_
  refine P_det (by rfl) (Over_nil (by first | exact y_pick_t (c := .bool _) (by rfl) (by rfl) | exact y_pick_f (c := .bool _) (by rfl) (by rfl))) ?_
  refine P_det (by rfl) (Over_nil (y_move (c := .bool _) (by rfl))) ?_
  refine P_det (by rfl) (Over_nil (y_move (c := .slice _ _ _) (by rfl))) ?_
  refine P_new (by rfl) (by rfl) (Over_nil (y_buildSliceL bs22_5_0_1_2_3_4 (by rfl))) ?_
  refine P_det (by rfl) (Over_in (by rfl) (Over_nil (by rintro _ _ ⟨b9, rfl, rfl⟩; exact (y_callL (by rfl) (by rfl) Try.call21 (fun w hw => Ct_eq (c' := .bool true) (sameInts_any _ _ _ _ _ _ [23, 38, 38, 20, 20] [23, 38, 38, 20, 20] w (by decide) (htb _ _ w sbA hw) (Ints.mem (rest := []) 0 (by rfl) (by rfl) (by decide) w hw)) (by simp)))))) ?_
  refine P_det (by rfl) (Over_out (by rfl) (Over_nil (y_not (by rfl)))) ?_
  refine P_det (by rfl) (Over_out (by rfl) (Over_nil (by first | exact y_pick_t (c := .bool _) (by rfl) (by rfl) | exact y_pick_f (c := .bool _) (by rfl) (by rfl)))) ?_
  refine P_det (by rfl) (Over_out (by rfl) (Over_nil (y_move (c := .bool _) (by rfl)))) ?_
  refine P_det (by rfl) (Over_out (by rfl) (Over_nil (y_move (c := .int .i64 _) (by rfl)))) ?_
  refine P_det (by rfl) (Over_out (by rfl) (Over_nil (y_neqF (by rfl) (by rfl)))) ?_
  refine P_det (by rfl) (Over_out (by rfl) (Over_nil (by first | exact y_pick_t (c := .bool _) (by rfl) (by rfl) | exact y_pick_f (c := .bool _) (by rfl) (by rfl)))) ?_
  refine P_det (by rfl) (Over_out (by rfl) (Over_nil (y_move (c := .bool _) (by rfl)))) ?_
  refine P_det (by rfl) (Over_out (by rfl) (Over_nil (y_loadN (by rfl) Try.isAgg26 Try.sizeOf26 (Mem.own (us := [.int .i64 _, .int .i64 _]) 2 (by rfl) (by rfl)) (by rfl)))) ?_
  refine P_det (by rfl) (Over_out (by rfl) (Over_nil (y_callL (by rfl) (by rfl) Try.call58 (fun w hw => lspan_any _ _ w)))) ?_
  refine P_det (by rfl) (Over_out (by rfl) (Over_nil (y_neqlAF (by rfl) (by rfl) neqA26 (by simp only [ieq_self, Bool.and_self, Bool.not_true])))) ?_
  refine P_det (by rfl) (Over_out (by rfl) (Over_nil (by first | exact y_pick_t (c := .bool _) (by rfl) (by rfl) | exact y_pick_f (c := .bool _) (by rfl) (by rfl)))) ?_
  refine P_det (by rfl) (Over_out (by rfl) (Over_nil (y_move (c := .bool _) (by rfl)))) ?_
  refine P_det (by rfl) (Over_out (by rfl) (Over_nil (y_move (c := .int .i64 _) (by rfl)))) ?_
  refine P_det (by rfl) (Over_out (by rfl) (Over_nil (y_neqF (by rfl) (by rfl)))) ?_
  refine P_det (by rfl) (Over_out (by rfl) (Over_nil (by first | exact y_pick_t (c := .bool _) (by rfl) (by rfl) | exact y_pick_f (c := .bool _) (by rfl) (by rfl)))) ?_
  refine P_det (by rfl) (Over_out (by rfl) (Over_nil (y_move (c := .bool _) (by rfl)))) ?_
  refine P_det (by rfl) (Over_out (by rfl) (Over_nil (y_loadN (by rfl) Try.isAgg26 Try.sizeOf26 (Mem.own (us := [.int .i64 _, .int .i64 _]) 1 (by rfl) (by rfl)) (by rfl)))) ?_
  refine P_det (by rfl) (Over_out (by rfl) (Over_nil (y_callL (by rfl) (by rfl) Try.call58 (fun w hw => lspan_any _ _ w)))) ?_
  refine P_det (by rfl) (Over_out (by rfl) (Over_nil (y_neqlAF (by rfl) (by rfl) neqA26 (by simp only [ieq_self, Bool.and_self, Bool.not_true])))) ?_
  refine P_det (by rfl) (Over_out (by rfl) (Over_nil (by first | exact y_pick_t (c := .bool _) (by rfl) (by rfl) | exact y_pick_f (c := .bool _) (by rfl) (by rfl)))) ?_
  refine P_det (by rfl) (Over_out (by rfl) (Over_nil (y_move (c := .bool _) (by rfl)))) ?_
  refine P_det (by rfl) (Over_out (by rfl) (Over_nil (y_move (c := .int .i64 _) (by rfl)))) ?_
  refine P_det (by rfl) (Over_out (by rfl) (Over_nil (y_neqF (by rfl) (by rfl)))) ?_
  refine P_det (by rfl) (Over_out (by rfl) (Over_nil (by first | exact y_pick_t (c := .bool _) (by rfl) (by rfl) | exact y_pick_f (c := .bool _) (by rfl) (by rfl)))) ?_
  refine P_det (by rfl) (Over_out (by rfl) (Over_nil (y_move (c := .bool _) (by rfl)))) ?_
  refine P_det (by rfl) (Over_out (by rfl) (Over_nil (y_loadN (by rfl) Try.isAgg26 Try.sizeOf26 (Mem.own (us := [.int .i64 _, .int .i64 _]) 0 (by rfl) (by rfl)) (by rfl)))) ?_
  refine P_det (by rfl) (Over_out (by rfl) (Over_nil (y_callL (by rfl) (by rfl) Try.call58 (fun w hw => lspan_any _ _ w)))) ?_
  refine P_det (by rfl) (Over_out (by rfl) (Over_nil (y_neqlAF (by rfl) (by rfl) neqA26 (by simp only [ieq_self, Bool.and_self, Bool.not_true])))) ?_
  refine P_det (by rfl) (Over_out (by rfl) (Over_nil (by first | exact y_pick_t (c := .bool _) (by rfl) (by rfl) | exact y_pick_f (c := .bool _) (by rfl) (by rfl)))) ?_
  refine PW_end (by rfl) ?_
  refine OverAll_cons (fun w106 l106 => ?_)
  refine OverAll_nil ?_
  rintro ⟨-, h106⟩
  obtain ⟨b8, rfl, rfl⟩ := h106
  refine Then_normal ?_
  refine W_cond (by rfl) (fun c9 => ?_) (fun c9 => ?_)
  · cases c9
  ·
    try simp only [Bool.not_eq_true', Bool.not_eq_false', decide_eq_true_eq, decide_eq_false_iff_not, ne_eq, Classical.not_not, Int.not_lt, Int.not_le] at c9
    refine W_skip ?_
    refine Then_normal ?_
    refine W_seq ?_
    refine W_region_lit (fun ds => ?_)
    refine WS_gen hF (by rfl) (y_callL (by rfl) (by rfl) Try.call62 (fun w hw => log_any w)) ?_
    rintro _ _ ⟨a1, cap1, ae1, cape1, Hp, He, rfl, hrp, hre, rfl⟩
    refine WS_back ?_
    refine WS_det hF (by rfl) (y_callL (by rfl) (by rfl) Try.call31 (fun w hw => Ct_eq (sure_any logL _ _ _ _ 21 w (by decide) (NewRow.ints hrp rfl sbA w hw) (NewRow.rws en_len hre rfl sbA w hw)) k_sur)) ?_
    refine WS_det hF (by rfl) (y_move (c := .tuple _) (by rfl)) ?_
    refine WS_det hF (by rfl) (y_extract (c := .int .u8 _) (by rfl) (by rfl)) ?_
    refine WS_det hF (by rfl) (y_extract (c := .int .i64 _) (by rfl) (by rfl)) ?_
    refine WS_det hF (by rfl) (y_assign (c := .int .u8 _) (by rfl)) ?_
    refine WS_det hF (by rfl) (y_assign (c := .int .i64 _) (by rfl)) ?_
    refine WS_nil ?_
    refine Then_normal ?_
    refine W_seq ?_
    refine W_region_lit (fun ds => ?_)
    refine WS_gen hF (by rfl) (y_callL (by rfl) (by rfl) Try.call62 (fun w hw => log_any w)) ?_
    rintro _ _ ⟨a1, cap1, ae1, cape1, Hp, He, rfl, hrp, hre, rfl⟩
    refine WS_back ?_
    refine WS_det hF (by rfl) (y_callL (by rfl) (by rfl) Try.call33 (fun w hw => Ct_eq (when_any logL _ _ _ _ 38 w (by decide) (NewRow.ints hrp rfl sbA w hw) (NewRow.rws en_len hre rfl sbA w hw)) k_whe)) ?_
    refine WS_det hF (by rfl) (y_move (c := .tuple _) (by rfl)) ?_
    refine WS_det hF (by rfl) (y_extract (c := .int .i64 _) (by rfl) (by rfl)) ?_
    refine WS_det hF (by rfl) (y_extract (c := .int .i64 _) (by rfl) (by rfl)) ?_
    refine WS_det hF (by rfl) (y_assign (c := .int .i64 _) (by rfl)) ?_
    refine WS_det hF (by rfl) (y_assign (c := .int .i64 _) (by rfl)) ?_
    refine WS_nil ?_
    refine Then_normal ?_
    refine W_seq ?_
    refine W_region_lit (fun ds => ?_)
    refine WS_gen hF (by rfl) (y_callL (by rfl) (by rfl) Try.call62 (fun w hw => log_any w)) ?_
    rintro _ _ ⟨a1, cap1, ae1, cape1, Hp, He, rfl, hrp, hre, rfl⟩
    refine WS_back ?_
    refine WS_det hF (by rfl) (y_callL (by rfl) (by rfl) Try.call35 (fun w hw => Ct_eq (ready_any logL _ _ _ _ w (by decide) (NewRow.ints hrp rfl sbA w hw) (NewRow.rws en_len hre rfl sbA w hw)) k_rea)) ?_
    refine WS_det hF (by rfl) (y_move (c := .tuple _) (by rfl)) ?_
    refine WS_det hF (by rfl) (y_extract (c := .agg _) (by rfl) (by rfl)) ?_
    refine WS_det hF (by rfl) (y_extract (c := .int .i64 _) (by rfl) (by rfl)) ?_
    refine WS_new hF (by rfl) (y_alloc Try.zeroValue26 (by rfl)) (fun b10 => ?_)
    refine WS_store hF (i := 0) (by rfl) (by rfl) Try.sizeOf26 (by rfl) (by rfl) (by rfl) (by first | decide | exact Nat.le_of_ble_eq_true rfl | simp) ?_
    refine WS_det hF (by rfl) (y_assign (c := .int .i64 _) (by rfl)) ?_
    refine WS_nil ?_
    refine Then_normal ?_
    refine W_seq ?_
    refine W_region_lit (fun ds => ?_)
    refine WS_gen hF (by rfl) (y_callL (by rfl) (by rfl) Try.call62 (fun w hw => log_any w)) ?_
    rintro _ _ ⟨a1, cap1, ae1, cape1, Hp, He, rfl, hrp, hre, rfl⟩
    refine WS_back ?_
    refine WS_det hF (by rfl) (y_callL (by rfl) (by rfl) Try.call37 (fun w hw => Ct_eq (room_any logL _ _ _ _ w (by decide) (NewRow.ints hrp rfl sbA w hw) (NewRow.rws en_len hre rfl sbA w hw)) k_roo)) ?_
    refine WS_det hF (by rfl) (y_move (c := .tuple _) (by rfl)) ?_
    refine WS_det hF (by rfl) (y_extract (c := .agg _) (by rfl) (by rfl)) ?_
    refine WS_det hF (by rfl) (y_extract (c := .int .i64 _) (by rfl) (by rfl)) ?_
    refine WS_new hF (by rfl) (y_alloc Try.zeroValue26 (by rfl)) (fun b11 => ?_)
    refine WS_store hF (i := 0) (by rfl) (by rfl) Try.sizeOf26 (by rfl) (by rfl) (by rfl) (by first | decide | exact Nat.le_of_ble_eq_true rfl | simp) ?_
    refine WS_det hF (by rfl) (y_assign (c := .int .i64 _) (by rfl)) ?_
    refine WS_nil ?_
    refine Then_normal ?_
    refine W_seq ?_
    refine W_region_lit (fun ds => ?_)
    refine WS_gen hF (by rfl) (y_callL (by rfl) (by rfl) Try.call62 (fun w hw => log_any w)) ?_
    rintro _ _ ⟨a1, cap1, ae1, cape1, Hp, He, rfl, hrp, hre, rfl⟩
    refine WS_back ?_
    refine WS_det hF (by rfl) (y_callL (by rfl) (by rfl) Try.call39 (fun w hw => Ct_eq (ask_any logL _ _ _ _ w (by decide) (NewRow.ints hrp rfl sbA w hw) (NewRow.rws en_len hre rfl sbA w hw)) k_ask)) ?_
    refine WS_det hF (by rfl) (y_move (c := .tuple _) (by rfl)) ?_
    refine WS_det hF (by rfl) (y_extract (c := .int .i64 _) (by rfl) (by rfl)) ?_
    refine WS_det hF (by rfl) (y_extract (c := .int .i64 _) (by rfl) (by rfl)) ?_
    refine WS_det hF (by rfl) (y_extract (c := .int .i64 _) (by rfl) (by rfl)) ?_
    refine WS_det hF (by rfl) (y_assign (c := .int .i64 _) (by rfl)) ?_
    refine WS_det hF (by rfl) (y_assign (c := .int .i64 _) (by rfl)) ?_
    refine WS_det hF (by rfl) (y_assign (c := .int .i64 _) (by rfl)) ?_
    refine WS_nil ?_
    refine Then_normal ?_
    refine W_seq ?_
    refine W_region_lit (fun ds => ?_)
    refine WS_gen hF (by rfl) (y_callL (by rfl) (by rfl) Try.call62 (fun w hw => log_any w)) ?_
    rintro _ _ ⟨a1, cap1, ae1, cape1, Hp, He, rfl, hrp, hre, rfl⟩
    refine WS_back ?_
    refine WS_det hF (by rfl) (y_callL (by rfl) (by rfl) Try.call60 (fun w hw => lentry_any _ _ _ _ w)) ?_
    refine WS_gen hF (by rfl) (y_callL (by rfl) (by rfl) Try.call26 (fun w hw => add_any logL _ _ _ _ oddX w (by decide) (NewRow.ints hrp rfl sbA w hw) (NewRow.rws en_len hre rfl sbA w hw))) ?_
    rintro _ _ hT
    obtain ⟨_, rfl, _, hT2⟩ := hT
    obtain ⟨o1, oc1, o2, oc2, Ho1, Ho2, rfl, ho1, ho2, rfl⟩ := hT2 k_add
    rw [k_add]
    refine WS_back ?_
    refine WS_det hF (by rfl) (y_move (c := .tuple _) (by rfl)) ?_
    refine WS_det hF (by rfl) (y_extract (c := .agg _) (by rfl) (by rfl)) ?_
    refine WS_det hF (by rfl) (y_extract (c := .int .i64 _) (by rfl) (by rfl)) ?_
    refine WS_new hF (by rfl) (y_alloc Try.zeroValue46 (by rfl)) (fun b12 => ?_)
    refine WS_store hF (i := 0) (by rfl) (by rfl) Try.sizeOf46 (by rfl) (by rfl) (by rfl) (by first | decide | exact Nat.le_of_ble_eq_true rfl | simp) ?_
    refine WS_det hF (by rfl) (y_assign (c := .int .i64 _) (by rfl)) ?_
    refine WS_nil ?_
    refine Then_normal ?_
    refine W_seq ?_
    refine W_seq ?_
    refine W_draw0 hF Trymixed [] (by decide +kernel) (fun ds => ?_)
    refine P_det (by rfl) (Over_nil (y_move (c := .int .i64 _) (by rfl))) ?_
    refine P_det (by rfl) (Over_nil (y_neqF (by rfl) (by rfl))) ?_
    refine P_det (by rfl) (Over_nil (y_move (c := .bool _) (by rfl))) ?_
    refine P_det (by rfl) (Over_nil (y_move (c := .int .u8 _) (by rfl))) ?_
    refine P_det (by rfl) (Over_nil (y_neqF (by rfl) (by rfl))) ?_
    refine P_det (by rfl) (Over_nil (by first | exact y_pick_t (c := .bool _) (by rfl) (by rfl) | exact y_pick_f (c := .bool _) (by rfl) (by rfl))) ?_
    refine P_det (by rfl) (Over_nil (y_move (c := .bool _) (by rfl))) ?_
    refine P_det (by rfl) (Over_nil (y_move (c := .int .i64 _) (by rfl))) ?_
    refine P_det (by rfl) (Over_nil (y_neqF (by rfl) (by rfl))) ?_
    refine P_det (by rfl) (Over_nil (by first | exact y_pick_t (c := .bool _) (by rfl) (by rfl) | exact y_pick_f (c := .bool _) (by rfl) (by rfl))) ?_
    refine P_det (by rfl) (Over_nil (y_move (c := .bool _) (by rfl))) ?_
    refine P_det (by rfl) (Over_nil (y_move (c := .int .i64 _) (by rfl))) ?_
    refine P_det (by rfl) (Over_nil (y_neqF (by rfl) (by rfl))) ?_
    refine P_det (by rfl) (Over_nil (by first | exact y_pick_t (c := .bool _) (by rfl) (by rfl) | exact y_pick_f (c := .bool _) (by rfl) (by rfl))) ?_
    refine P_det (by rfl) (Over_nil (y_move (c := .bool _) (by rfl))) ?_
    refine P_det (by rfl) (Over_nil (y_move (c := .int .i64 _) (by rfl))) ?_
    refine P_det (by rfl) (Over_nil (y_neqF (by rfl) (by rfl))) ?_
    refine P_det (by rfl) (Over_nil (by first | exact y_pick_t (c := .bool _) (by rfl) (by rfl) | exact y_pick_f (c := .bool _) (by rfl) (by rfl))) ?_
    refine P_det (by rfl) (Over_nil (y_move (c := .bool _) (by rfl))) ?_
    refine P_det (by rfl) (Over_nil (y_loadN (by rfl) Try.isAgg26 Try.sizeOf26 (Mem.own (us := [.int .i64 _, .int .i64 _]) 2 (by rfl) (by rfl)) (by rfl))) ?_
    refine P_det (by rfl) (Over_nil (y_callL (by rfl) (by rfl) Try.call58 (fun w hw => lspan_any _ _ w))) ?_
    refine P_det (by rfl) (Over_nil (y_neqlAF (by rfl) (by rfl) neqA26 (by simp only [ieq_self, Bool.and_self, Bool.not_true]))) ?_
    refine P_det (by rfl) (Over_nil (by first | exact y_pick_t (c := .bool _) (by rfl) (by rfl) | exact y_pick_f (c := .bool _) (by rfl) (by rfl))) ?_
    refine P_det (by rfl) (Over_nil (y_move (c := .bool _) (by rfl))) ?_
    refine P_det (by rfl) (Over_nil (y_move (c := .int .i64 _) (by rfl))) ?_
    refine P_det (by rfl) (Over_nil (y_neqF (by rfl) (by rfl))) ?_
    refine P_det (by rfl) (Over_nil (by first | exact y_pick_t (c := .bool _) (by rfl) (by rfl) | exact y_pick_f (c := .bool _) (by rfl) (by rfl))) ?_
    refine P_det (by rfl) (Over_nil (y_move (c := .bool _) (by rfl))) ?_
    refine P_det (by rfl) (Over_nil (y_loadN (by rfl) Try.isAgg26 Try.sizeOf26 (Mem.own (us := [.int .i64 _, .int .i64 _]) 1 (by rfl) (by rfl)) (by rfl))) ?_
    refine P_det (by rfl) (Over_nil (y_callL (by rfl) (by rfl) Try.call58 (fun w hw => lspan_any _ _ w))) ?_
    refine P_det (by rfl) (Over_nil (y_neqlAF (by rfl) (by rfl) neqA26 (by simp only [ieq_self, Bool.and_self, Bool.not_true]))) ?_
    refine P_det (by rfl) (Over_nil (by first | exact y_pick_t (c := .bool _) (by rfl) (by rfl) | exact y_pick_f (c := .bool _) (by rfl) (by rfl))) ?_
    refine P_det (by rfl) (Over_nil (y_move (c := .bool _) (by rfl))) ?_
    refine P_det (by rfl) (Over_nil (y_move (c := .int .i64 _) (by rfl))) ?_
    refine P_det (by rfl) (Over_nil (y_neqF (by rfl) (by rfl))) ?_
    refine P_det (by rfl) (Over_nil (by first | exact y_pick_t (c := .bool _) (by rfl) (by rfl) | exact y_pick_f (c := .bool _) (by rfl) (by rfl))) ?_
    refine P_det (by rfl) (Over_nil (y_move (c := .bool _) (by rfl))) ?_
    refine P_det (by rfl) (Over_nil (y_move (c := .int .i64 _) (by rfl))) ?_
    refine P_det (by rfl) (Over_nil (y_neqF (by rfl) (by rfl))) ?_
    refine P_det (by rfl) (Over_nil (by first | exact y_pick_t (c := .bool _) (by rfl) (by rfl) | exact y_pick_f (c := .bool _) (by rfl) (by rfl))) ?_
    refine P_det (by rfl) (Over_nil (y_move (c := .bool _) (by rfl))) ?_
    refine P_det (by rfl) (Over_nil (y_move (c := .int .i64 _) (by rfl))) ?_
    refine P_det (by rfl) (Over_nil (y_neqF (by rfl) (by rfl))) ?_
    refine P_det (by rfl) (Over_nil (by first | exact y_pick_t (c := .bool _) (by rfl) (by rfl) | exact y_pick_f (c := .bool _) (by rfl) (by rfl))) ?_
    refine P_det (by rfl) (Over_nil (y_move (c := .bool _) (by rfl))) ?_
    refine P_det (by rfl) (Over_nil (y_move (c := .int .i64 _) (by rfl))) ?_
    refine P_det (by rfl) (Over_nil (y_neqF (by rfl) (by rfl))) ?_
    refine P_det (by rfl) (Over_nil (by first | exact y_pick_t (c := .bool _) (by rfl) (by rfl) | exact y_pick_f (c := .bool _) (by rfl) (by rfl))) ?_
    refine PW_end (by rfl) ?_
    refine OverAll_nil ?_
    rintro -
    refine Then_normal ?_
    refine W_cond (by rfl) (fun c17 => ?_) (fun c17 => ?_)
    · cases c17
    ·
      try simp only [Bool.not_eq_true', Bool.not_eq_false', decide_eq_true_eq, decide_eq_false_iff_not, ne_eq, Classical.not_not, Int.not_lt, Int.not_le] at c17
      refine W_skip ?_
      refine Then_normal ?_
      refine W_seq ?_
      refine W_region_lit (fun ds => ?_)
      refine WS_det hF (by rfl) (y_loadN (by rfl) Try.isAgg46 Try.sizeOf46 (Mem.own (us := [.slice _ _ _, .int .i64 _, .int .i64 _, .int .i64 _, .int .i64 _, .slice _ _ _]) 0 (by rfl) (by rfl)) (by rfl)) ?_
      refine WS_gen hF (by rfl) (y_callL (by rfl) (by rfl) Try.call24 (fun w hw => wrong_any oddL _ _ _ _ w (by decide) (NewRow.ints ho1 rfl sbA w hw) (NewRow.rws en_len ho2 rfl sbA w hw))) ?_
      rintro _ Ha hTa
      obtain ⟨wa, wcap, rfl, hwa⟩ := WrongV.ints hTa
      rw [k_wrL, k_wrE] at *
      refine WS_back ?_
      refine WS_det hF (by rfl) (y_move (c := .tuple _) (by rfl)) ?_
      refine WS_det hF (by rfl) (y_extract (c := .slice _ _ _) (by rfl) (by rfl)) ?_
      refine WS_det hF (by rfl) (y_extract (c := .int .i64 _) (by rfl) (by rfl)) ?_
      refine WS_det hF (by rfl) (y_assign (c := .slice _ _ _) (by rfl)) ?_
      refine WS_det hF (by rfl) (y_assign (c := .int .i64 _) (by rfl)) ?_
      refine WS_nil ?_
      refine Then_normal ?_
      refine W_seq ?_
      refine W_region_lit (fun ds => ?_)
      refine WS_det hF (by rfl) (y_loadN (by rfl) Try.isAgg46 Try.sizeOf46 (Mem.own (us := [.slice _ _ _, .int .i64 _, .int .i64 _, .int .i64 _, .int .i64 _, .slice _ _ _]) 0 (by rfl) (by rfl)) (by rfl)) ?_
      refine WS_gen hF (by rfl) (y_callL (by rfl) (by rfl) Try.call41 (fun w hw => truth_any oddL _ _ _ _ w (by decide) (NewRow.ints ho1 rfl sbA w hw) (NewRow.rws en_len ho2 rfl sbA w hw))) ?_
      rintro _ _ hTb
      obtain ⟨rfl, rfl⟩ := hTb.1 (by rw [k_odd]; decide)
      rw [k_odd]
      refine WS_det hF (by rfl) (y_move (c := .tuple _) (by rfl)) ?_
      refine WS_det hF (by rfl) (y_extract (c := .slice _ _ _) (by rfl) (by rfl)) ?_
      refine WS_det hF (by rfl) (y_extract (c := .int .i64 _) (by rfl) (by rfl)) ?_
      refine WS_det hF (by rfl) (y_assign (c := .int .i64 _) (by rfl)) ?_
      refine WS_nil ?_
      refine Then_normal ?_
      refine W_seq ?_
      refine W_region_lit (fun ds => ?_)
      refine WS_det hF (by rfl) (y_move (c := .int .i64 _) (by rfl)) ?_
      refine WS_det hF (by rfl) (y_eqlT (by rfl) (by rfl)) ?_
      refine WS_det hF (by rfl) (y_move (c := .bool _) (by rfl)) ?_
      refine WS_det hF (by rfl) (y_move (c := .slice _ _ _) (by rfl)) ?_
      refine WS_newS hF (by rfl) (y_buildSliceL bs22_1_0 (by rfl)) (fun b13 => ?_)
      refine WS_det hF (by rfl) (y_callL (by rfl) (by rfl) Try.call21 (fun w hw => Ct_eq (c' := .bool true) (sameInts_any _ _ _ _ _ _ [5] [5] w (by decide) (hwa _ _ w sbA hw) (Ints.mem (rest := []) 0 (by rfl) (by rfl) (by decide) w hw)) (by simp))) ?_
      refine WS_det hF (by rfl) (by first | exact y_pick_t (c := .bool _) (by rfl) (by rfl) | exact y_pick_f (c := .bool _) (by rfl) (by rfl)) ?_
      refine WS_det hF (by rfl) (y_move (c := .bool _) (by rfl)) ?_
      refine WS_det hF (by rfl) (y_move (c := .int .i64 _) (by rfl)) ?_
      refine WS_det hF (by rfl) (y_eqlT (by rfl) (by rfl)) ?_
      refine WS_det hF (by rfl) (by first | exact y_pick_t (c := .bool _) (by rfl) (by rfl) | exact y_pick_f (c := .bool _) (by rfl) (by rfl)) ?_
      refine WS_det hF (by rfl) (y_assign (c := .bool _) (by rfl)) ?_
      refine WS_nil ?_
      refine Then_normal ?_
      refine W_ret ?_
      refine Fin_ret [.bool _] [] Try.results53 ⟨by rfl, trivial⟩ HSub.nil ?_
      rfl
end Go.Proofs.Ythkimgfgpphgnaa.T

/- Truths of a log: plain facts on spans and truths. -/
namespace Go.Proofs.Ythkimgfgpphgnaa.T
open Go.RowKit Go.Proofs Go.Eng
set_option maxRecDepth 100000
set_option linter.unusedVariables false
set_option linter.unusedSimpArgs false

def Sn.In (s : Sn) (v : Int) : Prop := s.lo ≤ v ∧ v ≤ s.hi
/-- What an entry may make of a number. -/
def Tk.Mv (t : Tk) (x : En) (u w : Int) : Prop :=
  (x.kind = 1 ∧ u + x.size.lo ≤ w ∧ w ≤ u + x.size.hi ∧ 0 ≤ w ∧ w ≤ t.full) ∨ (x.kind = 2 ∧ u - x.size.hi ≤ w ∧ w ≤ u - x.size.lo ∧ 0 ≤ w ∧ w ≤ t.full) ∨ (x.kind = 3 ∧ w = u ∧ (t.dip x.size).In w)
theorem Sn.met_in {a b : Sn} {v : Int} : (a.met b).In v ↔ a.In v ∧ b.In v := by
  unfold Sn.met Sn.In; simp only; omega
theorem Tk.forth_of {t : Tk} {x : En} {s : Sn} {u w : Int} (hu : s.In u) (hm : t.Mv x u w) : (t.forth x s).In w := by
  unfold Tk.forth
  rcases hm with ⟨hk, hm⟩ | ⟨hk, hm⟩ | ⟨hk, rfl, hm⟩
  · rw [if_pos hk]; unfold Sn.In at hu ⊢; simp only [Sn.met, Sn.add, Tk.all]; omega
  · rw [if_neg (by omega), if_pos hk]; unfold Sn.In at hu ⊢; simp only [Sn.met, Sn.sub, Tk.all]; omega
  · rw [if_neg (by omega), if_neg (by omega), Sn.met_in]; exact ⟨hu, hm⟩
theorem Tk.forth_to {t : Tk} {x : En} {s : Sn} {w : Int} (hk : 1 ≤ x.kind ∧ x.kind ≤ 3) (hz : x.size.lo ≤ x.size.hi) (hs : s.lo ≤ s.hi) (h : (t.forth x s).In w) : ∃ u, s.In u ∧ t.Mv x u w := by
  unfold Tk.forth at h
  unfold Tk.Mv
  obtain h1 | h1 | h1 : x.kind = 1 ∨ x.kind = 2 ∨ x.kind = 3 := by omega
  · rw [if_pos h1] at h
    unfold Sn.In at h ⊢
    simp only [Sn.met, Sn.add, Tk.all] at h
    exact ⟨max s.lo (w - x.size.hi), by omega, .inl (by omega)⟩
  · rw [if_neg (by omega), if_pos h1] at h
    unfold Sn.In at h ⊢
    simp only [Sn.met, Sn.sub, Tk.all] at h
    exact ⟨max s.lo (w + x.size.lo), by omega, .inr (.inl (by omega))⟩
  · rw [if_neg (by omega), if_neg (by omega), Sn.met_in] at h
    exact ⟨w, h.1, .inr (.inr ⟨h1, rfl, h.2⟩)⟩
theorem Tk.back_of {t : Tk} {x : En} {s : Sn} {u w : Int} (hw : s.In w) (hm : t.Mv x u w) (h0 : 0 ≤ u) (h1 : u ≤ t.full) : (t.back x s).In u := by
  unfold Tk.back
  rcases hm with ⟨hk, hm⟩ | ⟨hk, hm⟩ | ⟨hk, rfl, hm⟩
  · rw [if_pos hk]; unfold Sn.In at hw ⊢; simp only [Sn.met, Sn.sub, Tk.all]; omega
  · rw [if_neg (by omega), if_pos hk]; unfold Sn.In at hw ⊢; simp only [Sn.met, Sn.add, Tk.all]; omega
  · rw [if_neg (by omega), if_neg (by omega), Sn.met_in]; exact ⟨hw, hm⟩
theorem Lg.before_of {l : Lg} {i : Nat} {s : Sn} {v u : Int} (hv : s.In v) (h1 : max 0 (v - l.drip i) ≤ u) (h2 : u ≤ v) : (l.before i s).In u := by
  unfold Sn.In at hv ⊢; unfold Lg.before; simp only; omega
theorem Lg.before_to {l : Lg} {i : Nat} {s : Sn} {u : Int} (hd : 0 ≤ l.drip i) (hs : s.lo ≤ s.hi) (h : (l.before i s).In u) : ∃ v, s.In v ∧ max 0 (v - l.drip i) ≤ u ∧ u ≤ v := by
  unfold Sn.In at h ⊢; unfold Lg.before at h; simp only at h
  exact ⟨max s.lo u, by omega, by omega, by omega⟩
/-- One step of a truth: what it holds at a time, before the entry, and at the next time. -/
def Lg.Stp (l : Lg) (T U : Nat → Int) (i : Nat) : Prop := (max 0 (T i - l.drip i) ≤ U i ∧ U i ≤ T i) ∧ l.tk.Mv (l.e i) (U i) (T (i + 1))
/-- A truth. -/
structure Lg.Tru (l : Lg) (T U : Nat → Int) : Prop where
  st : l.start.In (T 0)
  sp : ∀ i, i < l.es.length → l.Stp T U i
theorem Lg.Stp.congr {l : Lg} {T U T' U' : Nat → Int} {i : Nat} (h : l.Stp T U i) (h1 : T' i = T i) (h2 : U' i = U i) (h3 : T' (i + 1) = T (i + 1)) : l.Stp T' U' i := by
  unfold Lg.Stp at h ⊢
  rw [h1, h2, h3]; exact h
theorem Tk.Mv.bd {t : Tk} {x : En} {u w : Int} (h : t.Mv x u w) (h0 : 0 ≤ u) (h1 : u ≤ t.full) : 0 ≤ w ∧ w ≤ t.full := by
  rcases h with ⟨_, h⟩ | ⟨_, h⟩ | ⟨_, rfl, h⟩ <;> omega
theorem Lg.Tru.bd {l : Lg} {T U : Nat → Int} (h : l.Tru T U) (hok : l.Ok) : ∀ i, i ≤ l.es.length → 0 ≤ T i ∧ T i ≤ l.tk.full
  | 0, _ => by
    have := Sn.inB_iff.1 hok.start
    have := h.st
    unfold Sn.In at this
    omega
  | i + 1, hi => by
    have ih := Lg.Tru.bd h hok i (by omega)
    obtain ⟨h1, h2⟩ := h.sp i (by omega)
    exact h2.bd (by omega) (by omega)
theorem Lg.Tru.ubd {l : Lg} {T U : Nat → Int} (h : l.Tru T U) (hok : l.Ok) {i : Nat} (hi : i < l.es.length) : 0 ≤ U i ∧ U i ≤ l.tk.full := by
  have h1 := h.bd hok i (by omega)
  have h2 := (h.sp i hi).1
  omega
theorem Lg.Tru.hold {l : Lg} {T U : Nat → Int} (h : l.Tru T U) : ∀ i, i ≤ l.es.length → (l.hold i).In (T i)
  | 0, _ => h.st
  | i + 1, hi => Tk.forth_of (Lg.before_of (Lg.Tru.hold h i (by omega)) (h.sp i (by omega)).1.1 (h.sp i (by omega)).1.2) (h.sp i (by omega)).2
theorem Lg.Tru.aftR {l : Lg} {T U : Nat → Int} (h : l.Tru T U) (hok : l.Ok) : ∀ m, m ≤ l.es.length → (l.aft (l.es.length - m)).In (T (l.es.length - m))
  | 0, _ => by
    rw [Nat.sub_zero, l.aft_n]
    exact h.bd hok _ (Nat.le_refl _)
  | m + 1, hm => by
    have ih := Lg.Tru.aftR h hok m (by omega)
    have hi : l.es.length - (m + 1) < l.es.length := by omega
    have hn : l.es.length - m = l.es.length - (m + 1) + 1 := by omega
    rw [hn] at ih
    generalize l.es.length - (m + 1) = i at *
    have hs := h.sp i hi
    have hu := h.ubd hok hi
    have hT := h.bd hok i (by omega)
    have ha : (l.ahd i).In (U i) := Tk.back_of ih hs.2 hu.1 hu.2
    rw [l.aft_lt hi]
    have h1 := hs.1
    unfold Sn.In at ha ⊢
    simp only
    omega
theorem Lg.Tru.aft {l : Lg} {T U : Nat → Int} (h : l.Tru T U) (hok : l.Ok) {i : Nat} (hi : i ≤ l.es.length) : (l.aft i).In (T i) := by
  have := h.aftR hok (l.es.length - i) (by omega)
  rwa [show l.es.length - (l.es.length - i) = i by omega] at this
theorem Lg.Tru.ahd {l : Lg} {T U : Nat → Int} (h : l.Tru T U) (hok : l.Ok) {i : Nat} (hi : i < l.es.length) : (l.ahd i).In (U i) :=
  Tk.back_of (h.aft hok (i := i + 1) hi) (h.sp i hi).2 (h.ubd hok hi).1 (h.ubd hok hi).2
theorem Lg.Tru.at {l : Lg} {T U : Nat → Int} (h : l.Tru T U) (hok : l.Ok) {i : Nat} (hi : i ≤ l.es.length) : (l.at i).In (T i) := Sn.met_in.2 ⟨h.hold i hi, h.aft hok hi⟩
theorem Lg.pre {l : Lg} (hok : l.Ok) : ∀ k, k ≤ l.es.length → (∀ j, j < k → (l.hold j).lo ≤ (l.hold j).hi) → ∀ v, (l.hold k).In v → ∃ T U : Nat → Int, T k = v ∧ l.start.In (T 0) ∧ ∀ i, i < k → l.Stp T U i
  | 0, _, _, v, hv => ⟨fun _ => v, fun _ => v, rfl, hv, fun i hi => absurd hi (by omega)⟩
  | k + 1, hk, hne, v, hv => by
    have hd := hok.drip_bd (i := k) (by omega)
    have hn := hne k (by omega)
    have hb : (l.before k (l.hold k)).lo ≤ (l.before k (l.hold k)).hi ∨ (l.before k (l.hold k)).hi < (l.before k (l.hold k)).lo := by omega
    have h0 := (hok.hold_bd k (by omega) fun j hj => by unfold Sn.empty; simp only [decide_eq_false_iff_not]; have := hne j (by omega); omega).1
    have hb2 : (l.before k (l.hold k)).lo ≤ (l.before k (l.hold k)).hi := by unfold Lg.before; simp only; omega
    obtain ⟨u, hu, hm⟩ := Tk.forth_to (hok.kind k (by omega)) (Sn.inB_iff.1 (hok.size k (by omega))).2.1 hb2 hv
    obtain ⟨v', hv', h1, h2⟩ := Lg.before_to hd.1 hn hu
    obtain ⟨T, U, ht, hs, hp⟩ := Lg.pre hok k (by omega) (fun j hj => hne j (by omega)) v' hv'
    refine ⟨fun j => if j = k + 1 then v else T j, fun j => if j = k then u else U j, if_pos rfl, by simpa using hs, fun i hi => ?_⟩
    by_cases hik : i = k
    · subst hik
      unfold Lg.Stp
      simp only [if_true]
      rw [if_neg (by omega), ht]
      exact ⟨⟨h1, h2⟩, hm⟩
    · exact (hp i (by omega)).congr (by rw [if_neg (by omega)]) (by rw [if_neg hik]) (by rw [if_neg (by omega)])
theorem Lg.at_bd {l : Lg} (hok : l.Ok) (hh : l.holdsB = true) {i : Nat} (hi : i ≤ l.es.length) : 0 ≤ (l.at i).lo ∧ (l.at i).hi ≤ l.tk.full := by
  have h1 := hok.aft_bd hi
  unfold Lg.at Sn.met
  simp only
  omega
end Go.Proofs.Ythkimgfgpphgnaa.T

/- A log with an entry more: plain facts; ready, walked. -/
namespace Go.Proofs.Ythkimgfgpphgnaa.T
open Go.RowKit Go.Proofs Go.Eng
set_option maxRecDepth 100000
set_option linter.unusedVariables false
set_option linter.unusedSimpArgs false



theorem AddV.ok {l : Lg} {x : En} {v : Value} {Hn : List Blk} (h : AddV l x v Hn) (h0 : l.addE x = 0) : ∃ a cap ae cape H1 H2, v = .tuple #[.agg #[.slice a (l.put x).tk.n cap, .int .i64 (l.put x).tk.leak, .int .i64 (l.put x).tk.foot, .int .i64 (l.put x).start.lo, .int .i64 (l.put x).start.hi, .slice ae (l.put x).es.length cape], .int .i64 0] ∧
    NewRow 3 1 (l.put x).tk.n (iv (l.put x).tk.pints) (.slice a (l.put x).tk.n cap) H1 ∧ NewRow 48 4 (l.put x).es.length (rowOf En.cells (l.put x).e (l.put x).es.length) (.slice ae (l.put x).es.length cape) H2 ∧ Hn = H1 ++ H2 := by
  obtain ⟨v0, rfl, _, h2⟩ := h
  obtain ⟨a, cap, ae, cape, H1, H2, rfl, h3, h4, rfl⟩ := h2 h0
  rw [h0]
  exact ⟨a, cap, ae, cape, H1, H2, rfl, h3, h4, rfl⟩
def Lg.great (l : Lg) : Bool := decide ((l.tk.n : Int) > 40) || decide ((l.es.length : Int) > 24)
def Lg.rdy (l : Lg) : Bool := !l.great && decide (l.err = 0)
/-- The same from another start. -/
def Lg.sta (l : Lg) (v : Int) : Lg := ⟨l.tk, ⟨v, v⟩, l.es⟩
end Go.Proofs.Ythkimgfgpphgnaa.T

/- What the tank holds is exact: plain facts, and the law walked. -/
namespace Go.Proofs.Ythkimgfgpphgnaa.T
open Go.RowKit Go.Proofs Go.Eng
set_option maxRecDepth 100000
set_option maxHeartbeats 2000000
set_option linter.unusedVariables false
set_option linter.unusedSimpArgs false



def drE (d v : Int) : En := ⟨d, 2, ⟨v, v⟩⟩
def dpE (d : Int) : En := ⟨d, 3, ⟨0, 0⟩⟩
structure Lg.Exact (l : Lg) (d v : Int) : Prop where
  a1 : l.addE (drE d v) = 0
  a2 : (l.put (drE d v)).addE (dpE d) = 0
  err : ((l.put (drE d v)).put (dpE d)).err = 0
  iff : ((l.put (drE d v)).put (dpE d)).holdsB = true ↔ (l.at l.es.length).In v
theorem emod_bd {n m : Int} (h : 0 ≤ m) : 0 ≤ n % (m + 1) ∧ n % (m + 1) ≤ m := ⟨Int.emod_nonneg _ (by omega), by have := Int.emod_lt_of_pos n (show 0 < m + 1 by omega); omega⟩
end Go.Proofs.Ythkimgfgpphgnaa.T

/- What is sure, and when: the law walked. -/
namespace Go.Proofs.Ythkimgfgpphgnaa.T
open Go.RowKit Go.Proofs Go.Eng
set_option maxRecDepth 100000
set_option maxHeartbeats 2000000
set_option linter.unusedVariables false
set_option linter.unusedSimpArgs false



def Lg.trB (l : Lg) : Bool := l.rdy && l.holdsB
def fiN (f : Nat → Bool) (k : Nat) : Int := match firstN f k with
  | some i => (i : Int)
  | none => -1
def Lg.gz (l : Lg) : Nat → Sn
  | 0 => Sn.z
  | k + 1 => l.at k
def Lg.fs (l : Lg) (p : Int) (i : Nat) : Bool := decide (p ≤ (l.at i).lo)
end Go.Proofs.Ythkimgfgpphgnaa.T

/- The dip that tells most: the law walked. -/
namespace Go.Proofs.Ythkimgfgpphgnaa.T
open Go.RowKit Go.Proofs Go.Eng
set_option maxRecDepth 100000
set_option maxHeartbeats 2000000
set_option linter.unusedVariables false
set_option linter.unusedSimpArgs false



structure Tk.Vol (t : Tk) (x num den : Int) : Prop where
  v : t.volume x = .tuple #[.agg #[.int .i64 num, .int .i64 den], .int .i64 0]
  d1 : 1 ≤ den
  d8 : den ≤ 8
  n0 : 0 ≤ num
  n1 : num ≤ 8 * t.full
  eq : num * 8 = den * t.eight x
  cop : Int.gcd num den = 1
theorem Tk.Ok.vol {t : Tk} (h : t.Ok) {x : Int} (h0 : 0 ≤ x) (h1 : x ≤ t.height) : ∃ num den, t.Vol x num den := by
  have hb := h.eight_bd h0 h1
  have hv : t.volume x = .tuple #[lowest (t.eight x).toNat 8, .int .i64 0] := by
    unfold Tk.volume
    rw [if_pos (Tk.ok_iff.2 h), if_pos (inB1.2 ⟨h0, h1⟩)]; rfl
  obtain ⟨n, hn⟩ : ∃ n, n = (t.eight x).toNat := ⟨_, rfl⟩
  have hn' : (n : Int) = t.eight x := by omega
  rw [← hn] at hv
  have hg : 0 < Nat.gcd n 8 := Nat.gcd_pos_of_pos_right n (by decide)
  have e1 : n / Nat.gcd n 8 * Nat.gcd n 8 = n := Nat.div_mul_cancel (Nat.gcd_dvd_left n 8)
  have e2 : 8 / Nat.gcd n 8 * Nat.gcd n 8 = 8 := Nat.div_mul_cancel (Nat.gcd_dvd_right n 8)
  have hc : Nat.gcd (n / Nat.gcd n 8) (8 / Nat.gcd n 8) = 1 := Nat.gcd_div_gcd_div_gcd_of_pos_right (by decide)
  unfold lowest at hv
  obtain ⟨a, ha⟩ : ∃ a, a = n / Nat.gcd n 8 := ⟨_, rfl⟩
  obtain ⟨b, hbb⟩ : ∃ b, b = 8 / Nat.gcd n 8 := ⟨_, rfl⟩
  rw [← ha, ← hbb] at hc hv
  rw [← ha] at e1
  rw [← hbb] at e2
  generalize Nat.gcd n 8 = g at *
  have ha1 : a ≤ n := by rw [← e1]; exact Nat.le_mul_of_pos_right a hg
  have hb1 : b ≤ 8 := by have := Nat.le_mul_of_pos_right b hg; omega
  have hb0 : 1 ≤ b := by
    rcases Nat.eq_zero_or_pos b with h | h
    · rw [h, Nat.zero_mul] at e2; cases e2
    · exact h
  have hm : a * 8 = b * n := by rw [← e1, ← e2]; exact Nat.mul_left_comm a b g
  refine ⟨(a : Int), (b : Int), hv, by omega, by omega, by omega, by omega, by rw [← hn']; exact_mod_cast hm, by rw [Int.gcd_natCast_natCast]; exact hc⟩
theorem Tk.Vol.below {t : Tk} {x num den v : Int} (h : t.Vol x num den) : v * den < num ↔ v < t.up x := by
  have h1 := h.eq
  have h2 := h.d1
  have hu : v < t.up x ↔ v * 8 < t.eight x := by unfold Tk.up; omega
  rw [hu]
  have e : (v * 8) * den = (v * den) * 8 := by rw [Int.mul_assoc, Int.mul_comm 8 den, ← Int.mul_assoc]
  constructor
  · intro h
    have : (v * 8) * den < t.eight x * den := by rw [e, Int.mul_comm (t.eight x) den, ← h1]; omega
    exact Int.lt_of_mul_lt_mul_right this (by omega)
  · intro h
    have := Int.mul_lt_mul_of_pos_right h (show 0 < den by omega)
    rw [e, Int.mul_comm (t.eight x) den, ← h1] at this
    omega
end Go.Proofs.Ythkimgfgpphgnaa.T

/- Tables read there and back: plain facts. -/
namespace Go.Proofs.Ythkimgfgpphgnaa.T
open Go.RowKit Go.Proofs Go.Eng
set_option maxRecDepth 100000
set_option linter.unusedVariables false
set_option linter.unusedSimpArgs false

theorem Tk.Ok.eight_seg {t : Tk} (h : t.Ok) {i : Nat} (hi : i + 1 < t.n) {x : Int} (h0 : 8 * (i : Int) ≤ x) (h1 : x ≤ 8 * (i : Int) + 8) : t.eight x = 8 * t.p i + (x - 8 * (i : Int)) * (t.p (i + 1) - t.p i) := by
  by_cases hx : x < 8 * (i : Int) + 8
  · have hs : t.seg x = i := by unfold Tk.seg; omega
    unfold Tk.eight
    rw [hs]
  · have he : x = 8 * ((i : Int) + 1) := by omega
    by_cases hl : i + 2 < t.n
    · have hs : t.seg x = i + 1 := by unfold Tk.seg; omega
      unfold Tk.eight
      rw [hs, he]
      have e1 : 8 * ((i : Int) + 1) - 8 * ((i + 1 : Nat) : Int) = 0 := by push_cast; omega
      have e2 : 8 * ((i : Int) + 1) - 8 * (i : Int) = 8 := by omega
      rw [e1, e2, Int.zero_mul]; omega
    · have hs : t.seg x = i := by unfold Tk.seg; omega
      unfold Tk.eight
      rw [hs]
theorem Tk.Ok.mono_le {t : Tk} (h : t.Ok) {j k : Nat} (hj : j ≤ k) (hk : k < t.n) : t.p j ≤ t.p k := by
  by_cases he : j = k
  · rw [he]; exact Int.le_refl _
  · have := h.mono (j := j) (k := k) (by omega) hk; omega
theorem Tk.Ok.eight_mono {t : Tk} (h : t.Ok) {x y : Int} (h0 : 0 ≤ x) (hxy : x < y) (h1 : y ≤ t.height) : t.eight x < t.eight y := by
  have hn := h.n2
  have hH : t.height = 8 * ((t.n : Int) - 1) := rfl
  obtain ⟨i, hi, hi0, hi1⟩ : ∃ i : Nat, i + 1 < t.n ∧ 8 * (i : Int) ≤ x ∧ x ≤ 8 * (i : Int) + 7 := ⟨(x / 8).toNat, by omega, by omega, by omega⟩
  obtain ⟨j, hj, hj0, hj1⟩ : ∃ j : Nat, j + 1 < t.n ∧ 8 * (j : Int) < y ∧ y ≤ 8 * (j : Int) + 8 := ⟨((y - 1) / 8).toNat, by omega, by omega, by omega⟩
  have d1 := (h.inc i hi).1
  have d2 := (h.inc j hj).1
  rw [h.eight_seg hi hi0 (by omega), h.eight_seg hj (by omega) hj1]
  by_cases he : i = j
  · subst he
    have := Int.mul_lt_mul_of_pos_right (show x - 8 * (i : Int) < y - 8 * (i : Int) by omega) (show 0 < t.p (i + 1) - t.p i by omega)
    omega
  · have hij : i < j := by omega
    have m1 := Int.mul_lt_mul_of_pos_right (show x - 8 * (i : Int) < 8 by omega) (show 0 < t.p (i + 1) - t.p i by omega)
    have m2 : 0 ≤ (y - 8 * (j : Int)) * (t.p (j + 1) - t.p j) := Int.mul_nonneg (by omega) (by omega)
    have m3 := h.mono_le (j := i + 1) (k := j) hij (by omega)
    omega
theorem Tk.Ok.eight_inj {t : Tk} (h : t.Ok) {x y : Int} (h0 : 0 ≤ x) (h1 : x ≤ t.height) (g0 : 0 ≤ y) (g1 : y ≤ t.height) (he : t.eight x = t.eight y) : x = y := by
  by_cases a : x < y
  · have := h.eight_mono h0 a g1; omega
  · by_cases b : y < x
    · have := h.eight_mono g0 b h1; omega
    · omega
theorem Tk.Ok.eight_le {t : Tk} (h : t.Ok) {x y : Int} (h0 : 0 ≤ x) (hxy : x ≤ y) (h1 : y ≤ t.height) : t.eight x ≤ t.eight y := by
  by_cases a : x = y
  · rw [a]; exact Int.le_refl _
  · have := h.eight_mono h0 (show x < y by omega) h1; omega
/-- The eighth of some pints. -/
structure Tk.Eig (t : Tk) (p : Int) (i : Nat) (xn xd : Int) : Prop where
  v : t.eighthV p i = .tuple #[.agg #[.int .i64 xn, .int .i64 xd], .int .i64 0]
  d1 : 1 ≤ xd
  d6 : xd ≤ 600
  n0 : 0 ≤ xn
  n1 : xn ≤ t.height * xd
  f0 : 0 ≤ xn / xd
  f1 : xn / xd ≤ t.height
  c0 : 0 ≤ (xn + xd - 1) / xd
  c1 : (xn + xd - 1) / xd ≤ t.height
  lo : t.eight (xn / xd) ≤ 8 * p
  hi : 8 * p ≤ t.eight ((xn + xd - 1) / xd)
  un : ∀ e, 0 ≤ e → e ≤ t.height → t.eight e = 8 * p → xn = e ∧ xd = 1
theorem div_ceil {a b : Int} (h : 0 < b) : a ≤ (a + b - 1) / b * b ∧ ((a + b - 1) / b - 1) * b < a := by
  have h1 := Int.ediv_mul_le (a + b - 1) (show b ≠ 0 by omega)
  have h2 := Int.lt_ediv_add_one_mul_self (a + b - 1) h
  rw [Int.add_mul] at h2
  rw [Int.sub_mul]
  omega
theorem div_floor {a b : Int} (h : 0 < b) : a / b * b ≤ a ∧ a < (a / b + 1) * b := ⟨Int.ediv_mul_le a (by omega), Int.lt_ediv_add_one_mul_self a h⟩
theorem Tk.Ok.eig {t : Tk} (h : t.Ok) {p : Int} {i : Nat} (hl : t.Lb p i) (h0 : 0 ≤ p) (h1 : p ≤ t.full) : ∃ xn xd, t.Eig p i xn xd := by
  have hn := h.n2
  have hn21 := h.n21
  have hH : t.height = 8 * ((t.n : Int) - 1) := rfl
  have hv : t.eighthV p i = .tuple #[if i < t.n ∧ t.p i = p then lowI (8 * i) 1 else lowI (8 * (((i : Int) - 1) * (t.p i - t.p (i - 1)) + p - t.p (i - 1))) (t.p i - t.p (i - 1)), .int .i64 0] := by
    unfold Tk.eighthV
    rw [if_pos (Tk.ok_iff.2 h), if_pos (inB1.2 ⟨h0, h1⟩)]
  have hin : i < t.n := by
    rcases Nat.lt_or_ge i t.n with g | g
    · exact g
    · have := hl.lo (t.n - 1) (by omega)
      unfold Tk.full at h1; omega
  by_cases hp : t.p i = p
  · rw [if_pos ⟨hin, hp⟩] at hv
    have he8 : t.eight (8 * (i : Int)) = 8 * p := by
      by_cases hi0 : i + 1 < t.n
      · rw [h.eight_seg hi0 (Int.le_refl _) (by omega), Int.sub_self, Int.zero_mul]; omega
      · obtain ⟨k, rfl⟩ : ∃ k, i = k + 1 := ⟨i - 1, by omega⟩
        rw [h.eight_seg (i := k) (by omega) (by push_cast; omega) (by push_cast; omega)]
        have e2 : 8 * ((k + 1 : Nat) : Int) - 8 * (k : Int) = 8 := by push_cast; omega
        rw [e2]; omega
    refine ⟨8 * (i : Int), 1, ?_, by decide, by decide, by omega, by omega, ?_, ?_, ?_, ?_, ?_, ?_, fun e g0 g1 g2 => ⟨(h.eight_inj g0 g1 (by omega) (by omega) (by omega)).symm, rfl⟩⟩
    · rw [hv]
      unfold lowI lowest
      have e1 : (8 * (i : Int)).toNat = 8 * i := by omega
      rw [e1, show (1 : Int).toNat = 1 from rfl, Nat.gcd_one_right, Nat.div_one]
      rfl
    · rw [Int.ediv_one]; omega
    · rw [Int.ediv_one]; omega
    · rw [Int.ediv_one]; omega
    · rw [Int.ediv_one]; omega
    · rw [Int.ediv_one]; omega
    · rw [Int.ediv_one, show 8 * (i : Int) + 1 - 1 = 8 * (i : Int) by omega]; omega
  · rw [if_neg fun h => hp h.2] at hv
    have hi0 : i ≠ 0 := fun hz => by
      have := hl.hi 0 (by omega) (by omega)
      rw [hz, h.p0] at hp
      rw [h.p0] at this
      omega
    obtain ⟨k, rfl⟩ : ∃ k, i = k + 1 := ⟨i - 1, by omega⟩
    rw [Nat.add_sub_cancel] at hv
    have hlo := hl.lo k (by omega)
    have hhi := hl.hi (k + 1) (Nat.le_refl _) hin
    have hb0 := h.bd k (by omega)
    have hb1 := h.bd (k + 1) hin
    have hseg := fun {x : Int} a b => h.eight_seg (i := k) hin (x := x) a b
    have hk : (((k + 1 : Nat) : Int) - 1) = (k : Int) := by push_cast; omega
    rw [hk] at hv
    generalize hS : t.p (k + 1) - t.p k = S at *
    have hS0 : 0 < S := by omega
    have hq : (k : Int) * S = (k : Int) * S := rfl
    obtain ⟨q, hq⟩ : ∃ q, q = (k : Int) * S := ⟨_, rfl⟩
    have hq0 : 0 ≤ q := by rw [hq]; exact Int.mul_nonneg (by omega) (by omega)
    rw [← hq] at hv
    generalize hN : 8 * (q + p - t.p k) = N at *
    have hN0 : 0 ≤ N := by omega
    have h8k : 8 * (k : Int) * S = 8 * q := by rw [hq, Int.mul_assoc]
    have h8k1 : (8 * (k : Int) + 8) * S = 8 * q + 8 * S := by rw [Int.add_mul, h8k]
    obtain ⟨a, hNa⟩ := Int.eq_ofNat_of_zero_le hN0
    obtain ⟨b, hSb⟩ := Int.eq_ofNat_of_zero_le (Int.le_of_lt hS0)
    have hb00 : 0 < b := by omega
    have hg : 0 < Nat.gcd a b := Nat.gcd_pos_of_pos_right a hb00
    have e1 : a / Nat.gcd a b * Nat.gcd a b = a := Nat.div_mul_cancel (Nat.gcd_dvd_left a b)
    have e2 : b / Nat.gcd a b * Nat.gcd a b = b := Nat.div_mul_cancel (Nat.gcd_dvd_right a b)
    have hvv : t.eighthV p (k + 1) = .tuple #[.agg #[.int .i64 ((a / Nat.gcd a b : Nat) : Int), .int .i64 ((b / Nat.gcd a b : Nat) : Int)], .int .i64 0] := by
      rw [hv, hNa, hSb]; rfl
    have hun : ∀ e, 0 ≤ e → e ≤ t.height → t.eight e = 8 * p → ((a / Nat.gcd a b : Nat) : Int) = e ∧ ((b / Nat.gcd a b : Nat) : Int) = 1 := fun e g0 g1 g2 => by
      have l1 : 8 * (k : Int) < e := by
        by_cases hc : 8 * (k : Int) < e
        · exact hc
        · have := h.eight_le g0 (show e ≤ 8 * (k : Int) by omega) (by omega)
          rw [hseg (Int.le_refl _) (by omega), Int.sub_self, Int.zero_mul] at this
          omega
      have l2 : e < 8 * (k : Int) + 8 := by
        by_cases hc : e < 8 * (k : Int) + 8
        · exact hc
        · have := h.eight_le (show 0 ≤ 8 * (k : Int) + 8 by omega) (show 8 * (k : Int) + 8 ≤ e by omega) g1
          rw [hseg (by omega) (Int.le_refl _), show 8 * (k : Int) + 8 - 8 * (k : Int) = 8 by omega] at this
          omega
      rw [hseg (by omega) (by omega), Int.sub_mul, h8k] at g2
      obtain ⟨en, hen⟩ := Int.eq_ofNat_of_zero_le g0
      have hab : a = en * b := by
        have : (a : Int) = (en : Int) * (b : Int) := by rw [← hNa, ← hSb, ← hen]; omega
        exact_mod_cast this
      have hgb : Nat.gcd a b = b := by rw [hab]; exact Nat.gcd_mul_left_left en b
      rw [hgb, hab, Nat.mul_div_cancel _ hb00, Nat.div_self hb00, hen]
      exact ⟨rfl, rfl⟩
    refine ⟨((a / Nat.gcd a b : Nat) : Int), ((b / Nat.gcd a b : Nat) : Int), ?_⟩
    generalize a / Nat.gcd a b = u at *
    generalize b / Nat.gcd a b = v at *
    generalize Nat.gcd a b = g at *
    have hv0 : 0 < v := by
      rcases Nat.eq_zero_or_pos v with z | z
      · rw [z, Nat.zero_mul] at e2; omega
      · exact z
    have hvb : v ≤ b := by rw [← e2]; exact Nat.le_mul_of_pos_right v hg
    have eN : (u : Int) * (g : Int) = N := by rw [hNa]; exact_mod_cast e1
    have eS : (v : Int) * (g : Int) = S := by rw [hSb]; exact_mod_cast e2
    have hv0' : (0 : Int) < (v : Int) := by omega
    have hg' : (0 : Int) ≤ (g : Int) := by omega
    obtain ⟨F1, F2⟩ := div_floor (a := (u : Int)) hv0'
    obtain ⟨C1, C2⟩ := div_ceil (a := (u : Int)) hv0'
    have hgp : (0 : Int) < (g : Int) := by omega
    generalize hF : (u : Int) / (v : Int) = f at *
    generalize hC : ((u : Int) + (v : Int) - 1) / (v : Int) = c at *
    have k1 : f * S ≤ N := by
      have := Int.mul_le_mul_of_nonneg_right F1 hg'
      rw [Int.mul_assoc, eS, eN] at this; exact this
    have k2 : N < (f + 1) * S := by
      have := Int.mul_lt_mul_of_pos_right F2 hgp
      rw [Int.mul_assoc, eS, eN] at this; exact this
    have k3 : N ≤ c * S := by
      have := Int.mul_le_mul_of_nonneg_right C1 hg'
      rw [Int.mul_assoc, eS, eN] at this; exact this
    have k4 : (c - 1) * S < N := by
      have := Int.mul_lt_mul_of_pos_right C2 hgp
      rw [Int.mul_assoc, eS, eN] at this; exact this
    have lt_of : ∀ {x y : Int}, x * S < y * S → x < y := fun h => Int.lt_of_mul_lt_mul_right h (by omega)
    have f1 : 8 * (k : Int) < f + 1 := lt_of (by rw [h8k]; omega)
    have f2 : f < 8 * (k : Int) + 8 := lt_of (by rw [h8k1]; omega)
    have c1 : c - 1 < 8 * (k : Int) + 8 := lt_of (by rw [h8k1]; omega)
    have c2 : 8 * (k : Int) < c := lt_of (by rw [h8k]; omega)
    have hu0 : (0 : Int) ≤ (u : Int) := by omega
    have hN8 : N < (8 * (k : Int) + 8) * S := by rw [h8k1]; omega
    refine ⟨hvv, by omega, by omega, hu0, ?_, by omega, by omega, by omega, by omega, ?_, ?_, hun⟩
    · have hlt : (u : Int) < (8 * (k : Int) + 8) * (v : Int) := by
        refine Int.lt_of_mul_lt_mul_right (a := (g : Int)) ?_ hg'
        rw [Int.mul_assoc, eS, eN]; exact hN8
      have := Int.mul_le_mul_of_nonneg_right (show 8 * (k : Int) + 8 ≤ t.height by omega) (Int.le_of_lt hv0')
      omega
    · rw [hF, hseg (by omega) (by omega), Int.sub_mul, h8k]; omega
    · rw [hC, hseg (by omega) (by omega), Int.sub_mul, h8k]; omega
end Go.Proofs.Ythkimgfgpphgnaa.T

/- A table there and back: the law walked. -/
namespace Go.Proofs.Ythkimgfgpphgnaa.T
open Go.RowKit Go.Proofs Go.Eng
set_option maxRecDepth 100000
set_option maxHeartbeats 2000000
set_option linter.unusedVariables false
set_option linter.unusedSimpArgs false

theorem fa30_0 : ∀ b o w, (Instr.fieldAt 30 (.pointer (some ⟨b, o, none⟩)) 0).run Try.prog w = .ok (.pointer (some ⟨b, o + 0, none⟩)) w := fun b o w => by kernel_rfl
theorem fa30_1 : ∀ b o w, (Instr.fieldAt 30 (.pointer (some ⟨b, o, none⟩)) 1).run Try.prog w = .ok (.pointer (some ⟨b, o + 1, none⟩)) w := fun b o w => by kernel_rfl

theorem Tk.Vol.whole {t : Tk} {x num den q : Int} (h : t.Vol x num den) (he : t.eight x = 8 * q) (hq : 0 ≤ q) : num = q ∧ den = 1 := by
  have h1 := h.eq
  have h2 := h.d1
  rw [he] at h1
  have h3 : num = den * q := by
    have : num * 8 = (den * q) * 8 := by rw [h1, Int.mul_comm 8 q, ← Int.mul_assoc]
    omega
  have h4 := h.cop
  rw [h3] at h4
  have h5 : Int.gcd (den * q) den = den.natAbs := by rw [Int.gcd_comm]; exact Int.gcd_mul_right_right den q
  rw [h5] at h4
  have h6 : den = 1 := by omega
  rw [h6, Int.one_mul] at h3
  exact ⟨h3, h6⟩
theorem Tk.Vol.ceil {t : Tk} {x num den : Int} (h : t.Vol x num den) : (num + den - 1) / den = t.up x := by
  have h1 := h.eq
  have h2 := h.d1
  have h3 := h.d8
  unfold Tk.up
  obtain rfl | rfl | rfl | rfl | rfl | rfl | rfl | rfl : den = 1 ∨ den = 2 ∨ den = 3 ∨ den = 4 ∨ den = 5 ∨ den = 6 ∨ den = 7 ∨ den = 8 := by omega
  all_goals omega
theorem Tk.Vol.floor {t : Tk} {x num den : Int} (h : t.Vol x num den) : num / den = t.down x := by
  have h1 := h.eq
  have h2 := h.d1
  have h3 := h.d8
  unfold Tk.down
  obtain rfl | rfl | rfl | rfl | rfl | rfl | rfl | rfl : den = 1 ∨ den = 2 ∨ den = 3 ∨ den = 4 ∨ den = 5 ∨ den = 6 ∨ den = 7 ∨ den = 8 := by omega
  all_goals omega
theorem Tk.Vol.cmp {t : Tk} {x y an ad bn bd : Int} (h : t.Vol x an ad) (h' : t.Vol y bn bd) : an * bd * 8 = ad * bd * t.eight x ∧ bn * ad * 8 = ad * bd * t.eight y := by
  have h1 := h.eq
  have h2 := h'.eq
  constructor
  · rw [Int.mul_right_comm, h1, Int.mul_right_comm]
  · rw [Int.mul_right_comm, h2, Int.mul_right_comm, Int.mul_comm bd ad]
theorem Tk.Vol.leq {t : Tk} {x num den p : Int} (h : t.Vol x num den) : (t.eight x ≤ 8 * p → num ≤ p * den) ∧ (8 * p ≤ t.eight x → p * den ≤ num) := by
  have h1 := h.eq
  have h2 := h.d1
  constructor
  · intro g
    have := Int.mul_le_mul_of_nonneg_left g (show 0 ≤ den by omega)
    rw [← h1, Int.mul_comm 8 p, ← Int.mul_assoc, Int.mul_comm den p] at this
    omega
  · intro g
    have := Int.mul_le_mul_of_nonneg_left g (show 0 ≤ den by omega)
    rw [← h1, Int.mul_comm 8 p, ← Int.mul_assoc, Int.mul_comm den p] at this
    omega
theorem Tk.range_spec {t : Tk} (hok : t.Ok) {x y : Int} (h0 : 0 ≤ x) (hxy : x ≤ y) (h1 : y ≤ t.height) : ∃ r s e : Int, t.range x y = .tuple #[.agg #[.int .i64 r, .int .i64 s], .int .i64 e] ∧ (t.down y < t.up x → e = 6) ∧ (t.up x ≤ t.down y → r = t.up x ∧ s = t.down y ∧ e = 0) := by
  unfold Tk.range
  rw [if_pos (Tk.ok_iff.2 hok), if_pos (by rw [Bool.and_eq_true, inB2, decide_eq_true_eq]; omega)]
  by_cases hc : t.down y < t.up x
  · rw [if_pos hc]
    exact ⟨0, 0, 6, rfl, fun _ => rfl, fun h => by omega⟩
  · rw [if_neg hc]
    exact ⟨_, _, 0, rfl, fun h => absurd h hc, fun _ => ⟨rfl, rfl, rfl⟩⟩
theorem tankTable_great (t : Tk) (a : Option Addr) (cap : Nat) (p1 p2 p3 : Int) (w : World) (hx : Ints w a t.n cap t.pints) (hg : t.n > 40) :
    Ct Try.prog 7 #[.agg #[.slice a t.n cap, .int .i64 t.leak, .int .i64 t.foot], .int .u8 p1, .int .u8 p2, .int .u16 p3] w fun v _ => v = .bool true := by
  have hF := wide_wide
  refine Ct_start (args := [_, _, _, _]) Try.func7 (by rfl) Try.ntmps7 (by rfl) ?_
  refine W_seq ?_
  refine W_region_lit (fun ds => ?_)
  refine WS_new hF (by rfl) (y_box (by rfl)) (fun b1 => ?_)
  refine WS_det hF (by rfl) (y_assign (c := .bool _) (by rfl)) ?_
  refine WS_nil ?_
  refine Then_normal ?_
  refine W_seq ?_
  refine W_region_lit (fun ds => ?_)
  refine WS_det hF (by rfl) (y_callL (by rfl) (by rfl) Try.call53 (fun w hw => alive_any w)) ?_
  refine WS_det hF (by rfl) (y_assign (c := .bool _) (by rfl)) ?_
  refine WS_nil ?_
  refine Then_normal ?_
  refine W_seq ?_
  refine W_seq ?_
  refine W_region_lit (fun ds => ?_)
  refine WS_det hF (by rfl) (y_loadN (by rfl) Try.isAgg24 Try.sizeOf24 (Mem.own (us := [.slice _ _ _, .int .i64 _, .int .i64 _]) 0 (by rfl) (by rfl)) (by rfl)) ?_
  refine WS_det hF (by rfl) (y_callL (by rfl) (by rfl) Try.call11 (fun w hw => Ct_eq (greatTank_any t a cap w) (show Value.bool (decide ((t.n : Int) > 40)) = .bool true by rw [decide_eq_true (by omega)]))) ?_
  refine WS_det hF (by rfl) (y_move (c := .bool _) (by rfl)) ?_
  refine WS_no hF (by rfl) ?_
  refine WS_no hF (by rfl) ?_
  refine WS_no hF (by rfl) ?_
  refine WS_det hF (by rfl) (by first | exact y_pick_t (c := .bool _) (by rfl) (by rfl) | exact y_pick_f (c := .bool _) (by rfl) (by rfl)) ?_
  refine WS_det hF (by rfl) (y_move (c := .bool _) (by rfl)) ?_
  refine WS_no hF (by rfl) ?_
  refine WS_no hF (by rfl) ?_
  refine WS_det hF (by rfl) (by first | exact y_pick_t (c := .bool _) (by rfl) (by rfl) | exact y_pick_f (c := .bool _) (by rfl) (by rfl)) ?_
  refine WS_nil ?_
  refine Then_normal ?_
  refine W_cond (by rfl) (fun c2 => ?_) (fun c2 => ?_)
  ·
    try simp only [Bool.not_eq_true', Bool.not_eq_false', decide_eq_true_eq, decide_eq_false_iff_not, ne_eq, Classical.not_not, Int.not_lt, Int.not_le] at c2
    refine W_seq ?_
    refine W_region_lit (fun ds => ?_)
    refine WS_det hF (by rfl) (y_move (c := .bool _) (by rfl)) ?_
    refine WS_det hF (by rfl) (y_assign (c := .bool _) (by rfl)) ?_
    refine WS_nil ?_
    refine Then_normal ?_
    refine W_ret ?_
    refine Then_ret ?_
    refine Fin_ret [.bool _] [] Try.results7 ⟨by rfl, trivial⟩ HSub.nil ?_
    rfl
  · cases c2
theorem tankTable_no (t : Tk) (a : Option Addr) (cap : Nat) (p1 p2 p3 : Int) (w : World) (hx : Ints w a t.n cap t.pints) (hn : t.n ≤ 40) (hno : t.okB = false) :
    Ct Try.prog 7 #[.agg #[.slice a t.n cap, .int .i64 t.leak, .int .i64 t.foot], .int .u8 p1, .int .u8 p2, .int .u16 p3] w fun v _ => v = .bool true := by
  have hF := wide_wide
  refine Ct_start (args := [_, _, _, _]) Try.func7 (by rfl) Try.ntmps7 (by rfl) ?_
  refine W_seq ?_
  refine W_region_lit (fun ds => ?_)
  refine WS_new hF (by rfl) (y_box (by rfl)) (fun b1 => ?_)
  refine WS_det hF (by rfl) (y_assign (c := .bool _) (by rfl)) ?_
  refine WS_nil ?_
  refine Then_normal ?_
  refine W_seq ?_
  refine W_region_lit (fun ds => ?_)
  refine WS_det hF (by rfl) (y_callL (by rfl) (by rfl) Try.call53 (fun w hw => alive_any w)) ?_
  refine WS_det hF (by rfl) (y_assign (c := .bool _) (by rfl)) ?_
  refine WS_nil ?_
  refine Then_normal ?_
  refine W_seq ?_
  refine W_seq ?_
  refine W_region_lit (fun ds => ?_)
  refine WS_det hF (by rfl) (y_loadN (by rfl) Try.isAgg24 Try.sizeOf24 (Mem.own (us := [.slice _ _ _, .int .i64 _, .int .i64 _]) 0 (by rfl) (by rfl)) (by rfl)) ?_
  refine WS_det hF (by rfl) (y_callL (by rfl) (by rfl) Try.call11 (fun w hw => Ct_eq (greatTank_any t a cap w) (show Value.bool (decide ((t.n : Int) > 40)) = .bool false by rw [decide_eq_false (by omega)]))) ?_
  refine WS_det hF (by rfl) (y_move (c := .bool _) (by rfl)) ?_
  refine WS_det hF (by rfl) (y_loadN (by rfl) Try.isAgg24 Try.sizeOf24 (Mem.own (us := [.slice _ _ _, .int .i64 _, .int .i64 _]) 0 (by rfl) (by rfl)) (by rfl)) ?_
  refine WS_det hF (by rfl) (y_callL (by rfl) (by rfl) Try.call54 (fun w hw => Ct_eq (tank_any t a cap w (by omega) (hx.st w hw)) (by rw [hno]))) ?_
  refine WS_det hF (by rfl) (y_not (by rfl)) ?_
  refine WS_det hF (by rfl) (by first | exact y_pick_t (c := .bool _) (by rfl) (by rfl) | exact y_pick_f (c := .bool _) (by rfl) (by rfl)) ?_
  refine WS_det hF (by rfl) (y_move (c := .bool _) (by rfl)) ?_
  refine WS_no hF (by rfl) ?_
  refine WS_no hF (by rfl) ?_
  refine WS_det hF (by rfl) (by first | exact y_pick_t (c := .bool _) (by rfl) (by rfl) | exact y_pick_f (c := .bool _) (by rfl) (by rfl)) ?_
  refine WS_nil ?_
  refine Then_normal ?_
  refine W_cond (by rfl) (fun c2 => ?_) (fun c2 => ?_)
  ·
    try simp only [Bool.not_eq_true', Bool.not_eq_false', decide_eq_true_eq, decide_eq_false_iff_not, ne_eq, Classical.not_not, Int.not_lt, Int.not_le] at c2
    refine W_seq ?_
    refine W_region_lit (fun ds => ?_)
    refine WS_det hF (by rfl) (y_move (c := .bool _) (by rfl)) ?_
    refine WS_det hF (by rfl) (y_assign (c := .bool _) (by rfl)) ?_
    refine WS_nil ?_
    refine Then_normal ?_
    refine W_ret ?_
    refine Then_ret ?_
    refine Fin_ret [.bool _] [] Try.results7 ⟨by rfl, trivial⟩ HSub.nil ?_
    rfl
  · cases c2
theorem tankTable_ok (t : Tk) (a : Option Addr) (cap : Nat) (p1 p2 p3 : Int) (w : World) (hx : Ints w a t.n cap t.pints) (hn40 : t.n ≤ 40) (hb : t.okB = true) (hp1 : 0 ≤ p1 ∧ p1 ≤ 255) (hp2 : 0 ≤ p2 ∧ p2 ≤ 255) (hp3 : 0 ≤ p3 ∧ p3 ≤ 65535) :
    Ct Try.prog 7 #[.agg #[.slice a t.n cap, .int .i64 t.leak, .int .i64 t.foot], .int .u8 p1, .int .u8 p2, .int .u16 p3] w fun v _ => v = .bool true := by
  have hok := Tk.ok_iff.1 hb
  have hn : t.n ≤ 1000000 := by omega
  have hn2 := hok.n2
  have hn21 := hok.n21
  have hf := hok.full_bd
  have hH : t.height = 8 * ((t.n : Int) - 1) := rfl
  have b1 := emod_bd (n := p1) (m := t.height) (by omega)
  have b2 := emod_bd (n := p2) (m := t.height) (by omega)
  have b3 := emod_bd (n := p3) hf.1
  generalize hL1 : p1 % (t.height + 1) = L1 at *
  generalize hL2 : p2 % (t.height + 1) = L2 at *
  generalize hP : p3 % (t.full + 1) = P at *
  have hlh : min L1 L2 ≤ max L1 L2 ∧ 0 ≤ min L1 L2 ∧ max L1 L2 ≤ t.height := by omega
  generalize hlo : min L1 L2 = lo at *
  generalize hhi : max L1 L2 = hi at *
  obtain ⟨an, ad, hA⟩ := hok.vol hlh.2.1 (show lo ≤ t.height by omega)
  obtain ⟨bn, bd, hB⟩ := hok.vol (show 0 ≤ hi by omega) hlh.2.2
  obtain ⟨hcA, hcB⟩ := Tk.Vol.cmp hA hB
  have hA1 := hA.d1
  have hA8 := hA.d8
  have hA0 := hA.n0
  have hAn := hA.n1
  have hB1 := hB.d1
  have hB8 := hB.d8
  have hB0 := hB.n0
  have hBn := hB.n1
  have m1 := mul_bd hA0 (show an ≤ 4800 by omega) (show 0 ≤ bd by omega) hB8
  have m2 := mul_bd hB0 (show bn ≤ 4800 by omega) (show 0 ≤ ad by omega) hA8
  have hPp : 0 < ad * bd := Int.mul_pos (by omega) (by omega)
  have hle : an * bd ≤ bn * ad := by
    have := Int.mul_le_mul_of_nonneg_left (hok.eight_le hlh.2.1 hlh.1 hlh.2.2) (Int.le_of_lt hPp)
    omega
  have hlt : an * bd < bn * ad ↔ lo < hi := by
    constructor
    · intro h
      by_cases hc : lo < hi
      · exact hc
      · obtain rfl : lo = hi := by omega
        omega
    · intro h
      have := Int.mul_lt_mul_of_pos_left (hok.eight_mono hlh.2.1 h hlh.2.2) hPp
      omega
  obtain ⟨i, hi_⟩ := t.lb_ex P
  obtain ⟨xn, xd, hE⟩ := hok.eig (hi_ hb) b3.1 b3.2
  have hE1 := hE.d1
  have hE6 := hE.d6
  have hE0 := hE.n0
  have hEn := hE.n1
  have m3 := mul_bd (show 0 ≤ t.height by omega) (show t.height ≤ 160 by omega) (show 0 ≤ xd by omega) hE6
  obtain ⟨cn, cd, hC⟩ := hok.vol hE.f0 hE.f1
  obtain ⟨dn, dd, hD⟩ := hok.vol hE.c0 hE.c1
  have hC1 := hC.d1
  have hC8 := hC.d8
  have hD1 := hD.d1
  have hD8 := hD.d8
  have hCl := (hC.leq (p := P)).1 hE.lo
  have hDl := (hD.leq (p := P)).2 hE.hi
  have m4 := mul_bd b3.1 (show P ≤ 600 by omega) (show 0 ≤ cd by omega) hC8
  have m5 := mul_bd b3.1 (show P ≤ 600 by omega) (show 0 ≤ dd by omega) hD8
  have hone : xd = 1 → cn = P ∧ cd = 1 := fun h => by
    have g1 := hE.lo
    have g2 := hE.hi
    have e1 : xn / xd = xn := by rw [h, Int.ediv_one]
    have e2 : (xn + xd - 1) / xd = xn := by rw [h, Int.ediv_one]; omega
    rw [e2] at g2
    refine hC.whole ?_ b3.1
    rw [e1] at g1 ⊢
    omega
  have hwh : lo % 8 = 0 → an = t.p (lo / 8).toNat ∧ ad = 1 := fun h => by
    refine hA.whole ?_ (hok.bd _ (by omega)).1
    by_cases hc : (lo / 8).toNat + 1 < t.n
    · rw [hok.eight_seg hc (by omega) (by omega), show lo - 8 * (((lo / 8).toNat : Nat) : Int) = 0 by omega, Int.zero_mul]; omega
    · obtain ⟨k, hk⟩ : ∃ k, (lo / 8).toNat = k + 1 := ⟨(lo / 8).toNat - 1, by omega⟩
      rw [hk, hok.eight_seg (i := k) (by omega) (by omega) (by omega), show lo - 8 * (k : Int) = 8 by omega]; omega
  obtain ⟨r, s, e, hR, hR6, hR0⟩ := Tk.range_spec hok hlh.2.1 hlh.1 hlh.2.2
  have hup := hA.ceil
  have hdn := hB.floor
  have hback : ad = 1 → ∃ i2 yn yd, (t.okB = true → t.Lb an i2) ∧ t.Eig an i2 yn yd ∧ yn = lo ∧ yd = 1 := fun h => by
    have e8 : t.eight lo = 8 * an := by have := hA.eq; rw [h] at this; omega
    obtain ⟨i2, h2⟩ := t.lb_ex an
    have he := hok.eight_bd hlh.2.1 (show lo ≤ t.height by omega)
    obtain ⟨yn, yd, hY⟩ := hok.eig (h2 hb) hA0 (by omega)
    exact ⟨i2, yn, yd, h2, hY, hY.un lo hlh.2.1 (by omega) e8⟩
  obtain ⟨b, o, rfl⟩ := hx.adr (by omega)
  have hcell := hx.at (k := (lo / 8).toNat) (by omega)
  change At w b _ [.int .i64 (t.p (lo / 8).toNat)] at hcell
  have hF := wide_wide
  refine Ct_start (args := [_, _, _, _]) Try.func7 (by rfl) Try.ntmps7 (by rfl) ?_
  refine W_seq ?_
  refine W_region_lit (fun ds => ?_)
  refine WS_new hF (by rfl) (y_box (by rfl)) (fun b1 => ?_)
  refine WS_det hF (by rfl) (y_assign (c := .bool _) (by rfl)) ?_
  refine WS_nil ?_
  refine Then_normal ?_
  refine W_seq ?_
  refine W_region_lit (fun ds => ?_)
  refine WS_det hF (by rfl) (y_callL (by rfl) (by rfl) Try.call53 (fun w hw => alive_any w)) ?_
  refine WS_det hF (by rfl) (y_assign (c := .bool _) (by rfl)) ?_
  refine WS_nil ?_
  refine Then_normal ?_
  refine W_seq ?_
  refine W_seq ?_
  refine W_region_lit (fun ds => ?_)
  refine WS_det hF (by rfl) (y_loadN (by rfl) Try.isAgg24 Try.sizeOf24 (Mem.own (us := [.slice _ _ _, .int .i64 _, .int .i64 _]) 0 (by rfl) (by rfl)) (by rfl)) ?_
  refine WS_det hF (by rfl) (y_callL (by rfl) (by rfl) Try.call11 (fun w hw => Ct_eq (greatTank_any t _ cap w) (show Value.bool (decide ((t.n : Int) > 40)) = .bool false by rw [decide_eq_false (by omega)]))) ?_
  refine WS_det hF (by rfl) (y_move (c := .bool _) (by rfl)) ?_
  refine WS_det hF (by rfl) (y_loadN (by rfl) Try.isAgg24 Try.sizeOf24 (Mem.own (us := [.slice _ _ _, .int .i64 _, .int .i64 _]) 0 (by rfl) (by rfl)) (by rfl)) ?_
  refine WS_det hF (by rfl) (y_callL (by rfl) (by rfl) Try.call54 (fun w hw => Ct_eq (tank_any t _ cap w (by omega) (hx.st w hw)) (by rw [hb]))) ?_
  refine WS_det hF (by rfl) (y_not (by rfl)) ?_
  refine WS_det hF (by rfl) (by first | exact y_pick_t (c := .bool _) (by rfl) (by rfl) | exact y_pick_f (c := .bool _) (by rfl) (by rfl)) ?_
  refine WS_det hF (by rfl) (y_move (c := .bool _) (by rfl)) ?_
  refine WS_det hF (by rfl) (y_move (c := .bool _) (by rfl)) ?_
  refine WS_det hF (by rfl) (y_not (by rfl)) ?_
  refine WS_det hF (by rfl) (by first | exact y_pick_t (c := .bool _) (by rfl) (by rfl) | exact y_pick_f (c := .bool _) (by rfl) (by rfl)) ?_
  refine WS_nil ?_
  refine Then_normal ?_
  refine W_cond (by rfl) (fun c2 => ?_) (fun c2 => ?_)
  · cases c2
  ·
    try simp only [Bool.not_eq_true', Bool.not_eq_false', decide_eq_true_eq, decide_eq_false_iff_not, ne_eq, Classical.not_not, Int.not_lt, Int.not_le] at c2
    refine W_skip ?_
    refine Then_normal ?_
    refine W_seq ?_
    refine W_draw0 hF Trymixed [] (by decide +kernel) (fun ds => ?_)
    refine P_det (by rfl) (Over_nil (y_loadN (by rfl) Try.isAgg24 Try.sizeOf24 (Mem.own (us := [.slice _ _ _, .int .i64 _, .int .i64 _]) 0 (by rfl) (by rfl)) (by rfl))) ?_
    refine P_det (by rfl) (Over_nil (y_callL (by rfl) (by rfl) Try.call55 (fun w hw => height_any t _ cap w hn))) ?_
    refine P_det (by rfl) (Over_nil (y_loadN (by rfl) Try.isAgg24 Try.sizeOf24 (Mem.own (us := [.slice _ _ _, .int .i64 _, .int .i64 _]) 0 (by rfl) (by rfl)) (by rfl))) ?_
    refine P_det (by rfl) (Over_nil (y_callL (by rfl) (by rfl) Try.call56 (fun w hw => full_any t _ cap w hn (by omega) (hx.st w hw)))) ?_
    refine P_det (by rfl) (Over_nil (y_assign (c := .int .i64 _) (by rfl))) ?_
    refine P_det (by rfl) (Over_nil (y_assign (c := .int .i64 _) (by rfl))) ?_
    refine PW_end (by rfl) ?_
    refine OverAll_nil ?_
    rintro -
    refine Then_normal ?_
    refine W_seq ?_
    refine W_draw0 hF Trymixed [] (by decide +kernel) (fun ds => ?_)
    refine P_det (by rfl) (Over_nil (y_move (c := .int .u8 _) (by rfl))) ?_
    refine P_det (by rfl) (Over_nil (y_conv_iu (by rfl) Try.runUnderlying5 Try.runUnderlying3 (by first | exact IntWalk.i64_in _ (by omega) | exact IntWalk.u64_in _ (by omega)))) ?_
    refine P_det (by rfl) (Over_nil (y_move (c := .int .i64 _) (by rfl))) ?_
    refine P_det (by rfl) (Over_nil (y_add (by rfl) (by rfl) (by unfold I64; omega))) ?_
    refine P_det (by rfl) (Over_nil (YD_eq (y_rem (by rfl) (by rfl) (by omega) (by omega)) (congrArg (Value.int _) hL1))) ?_
    refine P_det (by rfl) (Over_nil (y_move (c := .int .u8 _) (by rfl))) ?_
    refine P_det (by rfl) (Over_nil (y_conv_iu (by rfl) Try.runUnderlying5 Try.runUnderlying3 (by first | exact IntWalk.i64_in _ (by omega) | exact IntWalk.u64_in _ (by omega)))) ?_
    refine P_det (by rfl) (Over_nil (y_move (c := .int .i64 _) (by rfl))) ?_
    refine P_det (by rfl) (Over_nil (y_add (by rfl) (by rfl) (by unfold I64; omega))) ?_
    refine P_det (by rfl) (Over_nil (YD_eq (y_rem (by rfl) (by rfl) (by omega) (by omega)) (congrArg (Value.int _) hL2))) ?_
    refine P_det (by rfl) (Over_nil (y_assign (c := .int .i64 _) (by rfl))) ?_
    refine P_det (by rfl) (Over_nil (y_assign (c := .int .i64 _) (by rfl))) ?_
    refine PW_end (by rfl) ?_
    refine OverAll_nil ?_
    rintro -
    refine Then_normal ?_
    refine W_seq ?_
    refine W_keep [(3, .int .u16 _), (4, .pointer _), (8, .bool _), (9, .bool _), (10, .int .i64 _), (11, .int .i64 _), (12, .int .i64 _), (13, .int .i64 _)] (by repeat (first | exact trivial | refine ⟨by rfl, ?_⟩)) (fun e => ?_)
    refine W_region_lit (fun ds => ?_)
    refine WS_det hF (by rfl) (y_move (c := .int .i64 _) (by rfl)) ?_
    refine WS_det hF (by rfl) (y_move (c := .int .i64 _) (by rfl)) ?_
    refine WS_det hF (by rfl) (YD_eq (y_min (by rfl) (by rfl)) (congrArg (Value.int _) hlo)) ?_
    refine WS_det hF (by rfl) (y_move (c := .int .i64 _) (by rfl)) ?_
    refine WS_det hF (by rfl) (y_move (c := .int .i64 _) (by rfl)) ?_
    refine WS_det hF (by rfl) (YD_eq (y_max (by rfl) (by rfl)) (congrArg (Value.int _) hhi)) ?_
    refine WS_det hF (by rfl) (y_assign (c := .int .i64 _) (by rfl)) ?_
    refine WS_det hF (by rfl) (y_assign (c := .int .i64 _) (by rfl)) ?_
    refine WS_nil ?_
    refine Then_normal ?_
    refine W_seq ?_
    refine W_region_lit (fun ds => ?_)
    refine WS_det hF (by rfl) (y_loadN (by rfl) Try.isAgg24 Try.sizeOf24 (Mem.own (us := [.slice _ _ _, .int .i64 _, .int .i64 _]) 0 (by rfl) (by rfl)) (by rfl)) ?_
    refine WS_det hF (by rfl) (y_move (c := .int .i64 _) (by rfl)) ?_
    refine WS_det hF (by rfl) (y_callL (by rfl) (by rfl) Try.call13 (fun w hw => Ct_eq (volume_any t _ cap lo w hn (hx.st w hw)) hA.v)) ?_
    refine WS_det hF (by rfl) (y_move (c := .tuple _) (by rfl)) ?_
    refine WS_det hF (by rfl) (y_extract (c := .agg _) (by rfl) (by rfl)) ?_
    refine WS_det hF (by rfl) (y_extract (c := .int .i64 _) (by rfl) (by rfl)) ?_
    refine WS_new hF (by rfl) (y_alloc Try.zeroValue30 (by rfl)) (fun b2 => ?_)
    refine WS_store hF (us := [.int .i64 _, .int .i64 _]) (i := 0) (by rfl) (by rfl) Try.sizeOf30 (by rfl) (by rfl) (by rfl) (by first | decide | exact Nat.le_of_ble_eq_true rfl | simp) ?_
    refine WS_det hF (by rfl) (y_assign (c := .int .i64 _) (by rfl)) ?_
    refine WS_nil ?_
    refine Then_normal ?_
    refine W_seq ?_
    refine W_region_lit (fun ds => ?_)
    refine WS_det hF (by rfl) (y_loadN (by rfl) Try.isAgg24 Try.sizeOf24 (Mem.own (us := [.slice _ _ _, .int .i64 _, .int .i64 _]) 1 (by rfl) (by rfl)) (by rfl)) ?_
    refine WS_det hF (by rfl) (y_move (c := .int .i64 _) (by rfl)) ?_
    refine WS_det hF (by rfl) (y_callL (by rfl) (by rfl) Try.call13 (fun w hw => Ct_eq (volume_any t _ cap hi w hn (hx.st w hw)) hB.v)) ?_
    refine WS_det hF (by rfl) (y_move (c := .tuple _) (by rfl)) ?_
    refine WS_det hF (by rfl) (y_extract (c := .agg _) (by rfl) (by rfl)) ?_
    refine WS_det hF (by rfl) (y_extract (c := .int .i64 _) (by rfl) (by rfl)) ?_
    refine WS_new hF (by rfl) (y_alloc Try.zeroValue30 (by rfl)) (fun b3 => ?_)
    refine WS_store hF (us := [.int .i64 _, .int .i64 _]) (i := 0) (by rfl) (by rfl) Try.sizeOf30 (by rfl) (by rfl) (by rfl) (by first | decide | exact Nat.le_of_ble_eq_true rfl | simp) ?_
    refine WS_det hF (by rfl) (y_assign (c := .int .i64 _) (by rfl)) ?_
    refine WS_nil ?_
    refine Then_normal ?_
    refine W_seq ?_
    refine W_seq ?_
    refine W_region_lit (fun ds => ?_)
    refine WS_det hF (by rfl) (y_move (c := .int .i64 _) (by rfl)) ?_
    refine WS_det hF (by rfl) (YD_no (y_neq (by rfl) (by rfl)) dect) ?_
    refine WS_det hF (by rfl) (y_move (c := .bool _) (by rfl)) ?_
    refine WS_det hF (by rfl) (y_move (c := .int .i64 _) (by rfl)) ?_
    refine WS_det hF (by rfl) (YD_no (y_neq (by rfl) (by rfl)) dect) ?_
    refine WS_det hF (by rfl) (by first | exact y_pick_t (c := .bool _) (by rfl) (by rfl) | exact y_pick_f (c := .bool _) (by rfl) (by rfl)) ?_
    refine WS_det hF (by rfl) (y_move (c := .bool _) (by rfl)) ?_
    refine WS_det hF (by rfl) (y_fieldAddr (by rfl) fa30_1) ?_
    refine WS_det hF (by rfl) (y_load1 (by rfl) Try.isAgg3 (Mem.own1 1 (by rfl) (by rfl))) ?_
    refine WS_det hF (by rfl) (YD_no (y_lss (by rfl) (by rfl)) dect) ?_
    refine WS_det hF (by rfl) (by first | exact y_pick_t (c := .bool _) (by rfl) (by rfl) | exact y_pick_f (c := .bool _) (by rfl) (by rfl)) ?_
    refine WS_det hF (by rfl) (y_move (c := .bool _) (by rfl)) ?_
    refine WS_det hF (by rfl) (y_fieldAddr (by rfl) fa30_1) ?_
    refine WS_det hF (by rfl) (y_load1 (by rfl) Try.isAgg3 (Mem.own1 1 (by rfl) (by rfl))) ?_
    refine WS_det hF (by rfl) (YD_no (y_gtr (by rfl) (by rfl)) dect) ?_
    refine WS_det hF (by rfl) (by first | exact y_pick_t (c := .bool _) (by rfl) (by rfl) | exact y_pick_f (c := .bool _) (by rfl) (by rfl)) ?_
    refine WS_det hF (by rfl) (y_move (c := .bool _) (by rfl)) ?_
    refine WS_det hF (by rfl) (y_fieldAddr (by rfl) fa30_1) ?_
    refine WS_det hF (by rfl) (y_load1 (by rfl) Try.isAgg3 (Mem.own1 0 (by rfl) (by rfl))) ?_
    refine WS_det hF (by rfl) (YD_no (y_lss (by rfl) (by rfl)) dect) ?_
    refine WS_det hF (by rfl) (by first | exact y_pick_t (c := .bool _) (by rfl) (by rfl) | exact y_pick_f (c := .bool _) (by rfl) (by rfl)) ?_
    refine WS_det hF (by rfl) (y_move (c := .bool _) (by rfl)) ?_
    refine WS_det hF (by rfl) (y_fieldAddr (by rfl) fa30_1) ?_
    refine WS_det hF (by rfl) (y_load1 (by rfl) Try.isAgg3 (Mem.own1 0 (by rfl) (by rfl))) ?_
    refine WS_det hF (by rfl) (YD_no (y_gtr (by rfl) (by rfl)) dect) ?_
    refine WS_det hF (by rfl) (by first | exact y_pick_t (c := .bool _) (by rfl) (by rfl) | exact y_pick_f (c := .bool _) (by rfl) (by rfl)) ?_
    refine WS_det hF (by rfl) (y_move (c := .bool _) (by rfl)) ?_
    refine WS_det hF (by rfl) (y_fieldAddr (by rfl) fa30_0) ?_
    refine WS_det hF (by rfl) (y_load1 (by rfl) Try.isAgg3 (Mem.own1 1 (by rfl) (by rfl))) ?_
    refine WS_det hF (by rfl) (YD_no (y_lss (by rfl) (by rfl)) dect) ?_
    refine WS_det hF (by rfl) (by first | exact y_pick_t (c := .bool _) (by rfl) (by rfl) | exact y_pick_f (c := .bool _) (by rfl) (by rfl)) ?_
    refine WS_det hF (by rfl) (y_move (c := .bool _) (by rfl)) ?_
    refine WS_det hF (by rfl) (y_fieldAddr (by rfl) fa30_0) ?_
    refine WS_det hF (by rfl) (y_load1 (by rfl) Try.isAgg3 (Mem.own1 1 (by rfl) (by rfl))) ?_
    refine WS_det hF (by rfl) (y_move (c := .int .i64 _) (by rfl)) ?_
    refine WS_det hF (by rfl) (y_mul (by rfl) (by rfl) (by unfold I64; omega)) ?_
    refine WS_det hF (by rfl) (YD_no (y_gtr (by rfl) (by rfl)) dect) ?_
    refine WS_det hF (by rfl) (by first | exact y_pick_t (c := .bool _) (by rfl) (by rfl) | exact y_pick_f (c := .bool _) (by rfl) (by rfl)) ?_
    refine WS_det hF (by rfl) (y_move (c := .bool _) (by rfl)) ?_
    refine WS_det hF (by rfl) (y_fieldAddr (by rfl) fa30_0) ?_
    refine WS_det hF (by rfl) (y_load1 (by rfl) Try.isAgg3 (Mem.own1 0 (by rfl) (by rfl))) ?_
    refine WS_det hF (by rfl) (YD_no (y_lss (by rfl) (by rfl)) dect) ?_
    refine WS_det hF (by rfl) (by first | exact y_pick_t (c := .bool _) (by rfl) (by rfl) | exact y_pick_f (c := .bool _) (by rfl) (by rfl)) ?_
    refine WS_det hF (by rfl) (y_move (c := .bool _) (by rfl)) ?_
    refine WS_det hF (by rfl) (y_fieldAddr (by rfl) fa30_0) ?_
    refine WS_det hF (by rfl) (y_load1 (by rfl) Try.isAgg3 (Mem.own1 0 (by rfl) (by rfl))) ?_
    refine WS_det hF (by rfl) (y_move (c := .int .i64 _) (by rfl)) ?_
    refine WS_det hF (by rfl) (y_mul (by rfl) (by rfl) (by unfold I64; omega)) ?_
    refine WS_det hF (by rfl) (YD_no (y_gtr (by rfl) (by rfl)) dect) ?_
    refine WS_det hF (by rfl) (by first | exact y_pick_t (c := .bool _) (by rfl) (by rfl) | exact y_pick_f (c := .bool _) (by rfl) (by rfl)) ?_
    refine WS_det hF (by rfl) (y_move (c := .bool _) (by rfl)) ?_
    refine WS_det hF (by rfl) (y_fieldAddr (by rfl) fa30_0) ?_
    refine WS_det hF (by rfl) (y_load1 (by rfl) Try.isAgg3 (Mem.own1 1 (by rfl) (by rfl))) ?_
    refine WS_det hF (by rfl) (y_fieldAddr (by rfl) fa30_1) ?_
    refine WS_det hF (by rfl) (y_load1 (by rfl) Try.isAgg3 (Mem.own1 0 (by rfl) (by rfl))) ?_
    refine WS_det hF (by rfl) (y_mul (by rfl) (by rfl) (by unfold I64; omega)) ?_
    refine WS_det hF (by rfl) (y_fieldAddr (by rfl) fa30_0) ?_
    refine WS_det hF (by rfl) (y_load1 (by rfl) Try.isAgg3 (Mem.own1 0 (by rfl) (by rfl))) ?_
    refine WS_det hF (by rfl) (y_fieldAddr (by rfl) fa30_1) ?_
    refine WS_det hF (by rfl) (y_load1 (by rfl) Try.isAgg3 (Mem.own1 1 (by rfl) (by rfl))) ?_
    refine WS_det hF (by rfl) (y_mul (by rfl) (by rfl) (by unfold I64; omega)) ?_
    refine WS_det hF (by rfl) (y_lss (by rfl) (by rfl)) ?_
    refine WS_det hF (by rfl) (y_move (c := .int .i64 _) (by rfl)) ?_
    refine WS_det hF (by rfl) (y_move (c := .int .i64 _) (by rfl)) ?_
    refine WS_det hF (by rfl) (y_lss (by rfl) (by rfl)) ?_
    refine WS_det hF (by rfl) (YD_no (y_neqB (by rfl) (by rfl) Try.runUnderlying4) (by
                                        rw [bne_eq_false_iff_eq, decide_eq_decide]
                                        exact hlt)) ?_
    refine WS_det hF (by rfl) (by first | exact y_pick_t (c := .bool _) (by rfl) (by rfl) | exact y_pick_f (c := .bool _) (by rfl) (by rfl)) ?_
    refine WS_det hF (by rfl) (y_move (c := .bool _) (by rfl)) ?_
    refine WS_det hF (by rfl) (y_fieldAddr (by rfl) fa30_0) ?_
    refine WS_det hF (by rfl) (y_load1 (by rfl) Try.isAgg3 (Mem.own1 1 (by rfl) (by rfl))) ?_
    refine WS_det hF (by rfl) (y_fieldAddr (by rfl) fa30_1) ?_
    refine WS_det hF (by rfl) (y_load1 (by rfl) Try.isAgg3 (Mem.own1 0 (by rfl) (by rfl))) ?_
    refine WS_det hF (by rfl) (y_mul (by rfl) (by rfl) (by unfold I64; omega)) ?_
    refine WS_det hF (by rfl) (y_fieldAddr (by rfl) fa30_0) ?_
    refine WS_det hF (by rfl) (y_load1 (by rfl) Try.isAgg3 (Mem.own1 0 (by rfl) (by rfl))) ?_
    refine WS_det hF (by rfl) (y_fieldAddr (by rfl) fa30_1) ?_
    refine WS_det hF (by rfl) (y_load1 (by rfl) Try.isAgg3 (Mem.own1 1 (by rfl) (by rfl))) ?_
    refine WS_det hF (by rfl) (y_mul (by rfl) (by rfl) (by unfold I64; omega)) ?_
    refine WS_det hF (by rfl) (YD_no (y_gtr (by rfl) (by rfl)) dect) ?_
    refine WS_det hF (by rfl) (by first | exact y_pick_t (c := .bool _) (by rfl) (by rfl) | exact y_pick_f (c := .bool _) (by rfl) (by rfl)) ?_
    refine WS_nil ?_
    refine Then_normal ?_
    refine W_cond (by rfl) (fun c9 => ?_) (fun c9 => ?_)
    · cases c9
    ·
      try simp only [Bool.not_eq_true', Bool.not_eq_false', decide_eq_true_eq, decide_eq_false_iff_not, ne_eq, Classical.not_not, Int.not_lt, Int.not_le] at c9
      refine W_skip ?_
      refine Then_normal ?_
      refine W_seq ?_
      refine W_seq ?_
      refine W_keep [(3, .int .u16 _), (4, .pointer _), (8, .bool _), (9, .bool _), (10, .int .i64 _), (11, .int .i64 _), (12, .int .i64 _), (13, .int .i64 _), (14, .pointer _), (16, .pointer _)] (by repeat (first | exact trivial | refine ⟨by rfl, ?_⟩)) (fun e => ?_)
      refine W_draw0 hF Trymixed [] (by decide +kernel) (fun ds => ?_)
      refine P_det (by rfl) (Over_nil (y_move (c := .int .i64 _) (by rfl))) ?_
      refine P_det (by rfl) (Over_nil (y_rem (by rfl) (by rfl) (by omega) (by omega))) ?_
      refine P_det (by rfl) (Over_nil (y_eql (by rfl) (by rfl))) ?_
      refine P_det (by rfl) (Over_nil (y_move (c := .bool _) (by rfl))) ?_
      refine P_split 159 (by rfl) (fun g11_3 => ?_) (fun g11_3 => ?_)
      ·
        try simp only [Bool.not_eq_true', Bool.not_eq_false', decide_eq_true_eq, decide_eq_false_iff_not, ne_eq, Classical.not_not, Int.not_lt, Int.not_le] at g11_3
        refine P_det (by rfl) (Over_nil (y_loadN (by rfl) Try.isAgg30 Try.sizeOf30 (Mem.own (us := [.int .i64 _, .int .i64 _]) 1 (by rfl) (by rfl)) (by rfl))) ?_
        refine P_det (by rfl) (Over_nil (y_fieldAddr (by rfl) fa24_0)) ?_
        refine P_det (by rfl) (Over_nil (y_load1 (by rfl) Try.isAgg22 (Mem.own1 2 (by rfl) (by rfl)))) ?_
        refine P_det (by rfl) (Over_nil (y_move (c := .int .i64 _) (by rfl))) ?_
        refine P_det (by rfl) (Over_nil (y_quo (by rfl) (by rfl) (by omega) (by omega) (by unfold I64; omega))) ?_
        refine P_det (by rfl) (Over_nil (y_index (k := (lo / 8).toNat) (by rfl) (by rfl) (by first | rfl | omega) (by first | decide | omega) Try.runUnderlying22 Try.sizeOf3)) ?_
        refine P_det (by rfl) (Over_nil (y_load1 (by rfl) Try.isAgg3 (by first | exact Mem.old1 (by assumption) | exact Mem.oldAt1 (by assumption) (by rfl) | exact Mem.old (by assumption) | exact Mem.oldAtL1 (by assumption) (by rfl) (by rfl)))) ?_
        refine P_det (by rfl) (Over_nil (y_callL (by rfl) (by rfl) Try.call57 (fun w hw => lpart_any _ _ w))) ?_
        refine P_det (by rfl) (Over_nil (YD_no (y_neqlA (by rfl) (by rfl) neqA30) (by
                                        obtain ⟨w1, w2⟩ := hwh g11_3
                                        rw [w1, w2]
                                        simp [ieq_self]))) ?_
        refine P_det (by rfl) (Over_nil (by first | exact y_pick_t (c := .bool _) (by rfl) (by rfl) | exact y_pick_f (c := .bool _) (by rfl) (by rfl))) ?_
        refine PW_end (by rfl) ?_
        refine OverAll_nil ?_
        rintro -
        refine Then_normal ?_
        refine W_cond (by rfl) (fun c11 => ?_) (fun c11 => ?_)
        · cases c11
        ·
          try simp only [Bool.not_eq_true', Bool.not_eq_false', decide_eq_true_eq, decide_eq_false_iff_not, ne_eq, Classical.not_not, Int.not_lt, Int.not_le] at c11
          refine W_skip ?_
          refine Then_normal ?_
          refine W_seq ?_
          refine W_region_lit (fun ds => ?_)
          refine WS_det hF (by rfl) (y_move (c := .int .u16 _) (by rfl)) ?_
          refine WS_det hF (by rfl) (y_conv_iu (by rfl) Try.runUnderlying83 Try.runUnderlying3 (by first | exact IntWalk.i64_in _ (by omega) | exact IntWalk.u64_in _ (by omega))) ?_
          refine WS_det hF (by rfl) (y_move (c := .int .i64 _) (by rfl)) ?_
          refine WS_det hF (by rfl) (y_add (by rfl) (by rfl) (by unfold I64; omega)) ?_
          refine WS_det hF (by rfl) (YD_eq (y_rem (by rfl) (by rfl) (by omega) (by omega)) (congrArg (Value.int _) hP)) ?_
          refine WS_det hF (by rfl) (y_assign (c := .int .i64 _) (by rfl)) ?_
          refine WS_nil ?_
          refine Then_normal ?_
          refine W_seq ?_
          refine W_region_lit (fun ds => ?_)
          refine WS_det hF (by rfl) (y_loadN (by rfl) Try.isAgg24 Try.sizeOf24 (Mem.own (us := [.slice _ _ _, .int .i64 _, .int .i64 _]) 2 (by rfl) (by rfl)) (by rfl)) ?_
          refine WS_det hF (by rfl) (y_move (c := .int .i64 _) (by rfl)) ?_
          refine WS_det hF (by rfl) (y_callL (by rfl) (by rfl) Try.call15 (fun w hw => Ct_eq (eighth_any t _ cap P i w hn (hx.st w hw) hi_) hE.v)) ?_
          refine WS_det hF (by rfl) (y_move (c := .tuple _) (by rfl)) ?_
          refine WS_det hF (by rfl) (y_extract (c := .agg _) (by rfl) (by rfl)) ?_
          refine WS_det hF (by rfl) (y_extract (c := .int .i64 _) (by rfl) (by rfl)) ?_
          refine WS_new hF (by rfl) (y_alloc Try.zeroValue30 (by rfl)) (fun b4 => ?_)
          refine WS_store hF (us := [.int .i64 _, .int .i64 _]) (i := 0) (by rfl) (by rfl) Try.sizeOf30 (by rfl) (by rfl) (by rfl) (by first | decide | exact Nat.le_of_ble_eq_true rfl | simp) ?_
          refine WS_det hF (by rfl) (y_assign (c := .int .i64 _) (by rfl)) ?_
          refine WS_nil ?_
          refine Then_normal ?_
          refine W_seq ?_
          refine W_seq ?_
          refine W_region_lit (fun ds => ?_)
          refine WS_det hF (by rfl) (y_move (c := .int .i64 _) (by rfl)) ?_
          refine WS_det hF (by rfl) (YD_no (y_neq (by rfl) (by rfl)) dect) ?_
          refine WS_det hF (by rfl) (y_move (c := .bool _) (by rfl)) ?_
          refine WS_det hF (by rfl) (y_fieldAddr (by rfl) fa30_1) ?_
          refine WS_det hF (by rfl) (y_load1 (by rfl) Try.isAgg3 (Mem.own1 0 (by rfl) (by rfl))) ?_
          refine WS_det hF (by rfl) (YD_no (y_lss (by rfl) (by rfl)) dect) ?_
          refine WS_det hF (by rfl) (by first | exact y_pick_t (c := .bool _) (by rfl) (by rfl) | exact y_pick_f (c := .bool _) (by rfl) (by rfl)) ?_
          refine WS_det hF (by rfl) (y_move (c := .bool _) (by rfl)) ?_
          refine WS_det hF (by rfl) (y_fieldAddr (by rfl) fa30_1) ?_
          refine WS_det hF (by rfl) (y_load1 (by rfl) Try.isAgg3 (Mem.own1 0 (by rfl) (by rfl))) ?_
          refine WS_det hF (by rfl) (YD_no (y_gtr (by rfl) (by rfl)) dect) ?_
          refine WS_det hF (by rfl) (by first | exact y_pick_t (c := .bool _) (by rfl) (by rfl) | exact y_pick_f (c := .bool _) (by rfl) (by rfl)) ?_
          refine WS_det hF (by rfl) (y_move (c := .bool _) (by rfl)) ?_
          refine WS_det hF (by rfl) (y_fieldAddr (by rfl) fa30_0) ?_
          refine WS_det hF (by rfl) (y_load1 (by rfl) Try.isAgg3 (Mem.own1 0 (by rfl) (by rfl))) ?_
          refine WS_det hF (by rfl) (YD_no (y_lss (by rfl) (by rfl)) dect) ?_
          refine WS_det hF (by rfl) (by first | exact y_pick_t (c := .bool _) (by rfl) (by rfl) | exact y_pick_f (c := .bool _) (by rfl) (by rfl)) ?_
          refine WS_det hF (by rfl) (y_move (c := .bool _) (by rfl)) ?_
          refine WS_det hF (by rfl) (y_fieldAddr (by rfl) fa30_0) ?_
          refine WS_det hF (by rfl) (y_load1 (by rfl) Try.isAgg3 (Mem.own1 0 (by rfl) (by rfl))) ?_
          refine WS_det hF (by rfl) (y_move (c := .int .i64 _) (by rfl)) ?_
          refine WS_det hF (by rfl) (y_fieldAddr (by rfl) fa30_1) ?_
          refine WS_det hF (by rfl) (y_load1 (by rfl) Try.isAgg3 (Mem.own1 0 (by rfl) (by rfl))) ?_
          refine WS_det hF (by rfl) (y_mul (by rfl) (by rfl) (by unfold I64; omega)) ?_
          refine WS_det hF (by rfl) (YD_no (y_gtr (by rfl) (by rfl)) dect) ?_
          refine WS_det hF (by rfl) (by first | exact y_pick_t (c := .bool _) (by rfl) (by rfl) | exact y_pick_f (c := .bool _) (by rfl) (by rfl)) ?_
          refine WS_nil ?_
          refine Then_normal ?_
          refine W_cond (by rfl) (fun c15 => ?_) (fun c15 => ?_)
          · cases c15
          ·
            try simp only [Bool.not_eq_true', Bool.not_eq_false', decide_eq_true_eq, decide_eq_false_iff_not, ne_eq, Classical.not_not, Int.not_lt, Int.not_le] at c15
            refine W_skip ?_
            refine Then_normal ?_
            refine W_seq ?_
            refine W_keep [(4, .pointer _), (8, .bool _), (9, .bool _), (12, .int .i64 _), (13, .int .i64 _), (14, .pointer _), (16, .pointer _), (18, .int .i64 _), (19, .pointer _)] (by repeat (first | exact trivial | refine ⟨by rfl, ?_⟩)) (fun e => ?_)
            refine W_draw0 hF Trymixed [21] (by decide +kernel) (fun ds => ?_)
            refine P_det (by rfl) (Over_nil (y_loadN (by rfl) Try.isAgg24 Try.sizeOf24 (Mem.own (us := [.slice _ _ _, .int .i64 _, .int .i64 _]) 3 (by rfl) (by rfl)) (by rfl))) ?_
            refine P_det (by rfl) (Over_nil (y_fieldAddr (by rfl) fa30_0)) ?_
            refine P_det (by rfl) (Over_nil (y_load1 (by rfl) Try.isAgg3 (Mem.own1 0 (by rfl) (by rfl)))) ?_
            refine P_det (by rfl) (Over_nil (y_fieldAddr (by rfl) fa30_1)) ?_
            refine P_det (by rfl) (Over_nil (y_load1 (by rfl) Try.isAgg3 (Mem.own1 0 (by rfl) (by rfl)))) ?_
            refine P_det (by rfl) (Over_nil (y_quo (by rfl) (by rfl) (by omega) (by omega) (by unfold I64; omega))) ?_
            refine P_det (by rfl) (Over_nil (y_callL (by rfl) (by rfl) Try.call13 (fun w hw => Ct_eq (volume_any t _ cap (xn / xd) w hn (hx.st w hw)) hC.v))) ?_
            refine P_det (by rfl) (Over_nil (y_move (c := .tuple _) (by rfl))) ?_
            refine P_det (by rfl) (Over_nil (y_extract (c := .agg _) (by rfl) (by rfl))) ?_
            refine P_det (by rfl) (Over_nil (y_extract (c := .int .i64 _) (by rfl) (by rfl))) ?_
            apply P_newS _ (by rfl) (by rfl) (by rfl) (Over_nil (y_alloc Try.zeroValue30 (by rfl)))
            refine P_st 21 0 (by rfl) (by rfl) (by rfl) (by rfl) (by rfl) (Over_nil (st_new (fun _ => by rfl) Try.sizeOf30 (by rfl) (by rfl) (by first | decide | exact Nat.le_of_ble_eq_true rfl | simp))) ?_
            refine P_det (by rfl) (Over_out (by rfl) (Over_nil (y_assign (c := .int .i64 _) (by rfl)))) ?_
            refine PW_end (by rfl) ?_
            refine OverAll_cons (fun w21 l21 => ?_)
            refine OverAll_nil ?_
            rintro ⟨-, h21⟩
            obtain ⟨b5, rfl, rfl⟩ := h21
            refine Then_normal ?_
            refine W_seq ?_
            refine W_draw0 hF Trymixed [23] (by decide +kernel) (fun ds => ?_)
            refine P_det (by rfl) (Over_nil (y_loadN (by rfl) Try.isAgg24 Try.sizeOf24 (Mem.own (us := [.slice _ _ _, .int .i64 _, .int .i64 _]) 4 (by rfl) (by rfl)) (by rfl))) ?_
            refine P_det (by rfl) (Over_nil (y_fieldAddr (by rfl) fa30_0)) ?_
            refine P_det (by rfl) (Over_nil (y_load1 (by rfl) Try.isAgg3 (Mem.own1 1 (by rfl) (by rfl)))) ?_
            refine P_det (by rfl) (Over_nil (y_fieldAddr (by rfl) fa30_1)) ?_
            refine P_det (by rfl) (Over_nil (y_load1 (by rfl) Try.isAgg3 (Mem.own1 1 (by rfl) (by rfl)))) ?_
            refine P_det (by rfl) (Over_nil (y_add (by rfl) (by rfl) (by unfold I64; omega))) ?_
            refine P_det (by rfl) (Over_nil (y_sub (by rfl) (by rfl) (by unfold I64; omega))) ?_
            refine P_det (by rfl) (Over_nil (y_fieldAddr (by rfl) fa30_1)) ?_
            refine P_det (by rfl) (Over_nil (y_load1 (by rfl) Try.isAgg3 (Mem.own1 1 (by rfl) (by rfl)))) ?_
            refine P_det (by rfl) (Over_nil (y_quo (by rfl) (by rfl) (by omega) (by omega) (by unfold I64; omega))) ?_
            refine P_det (by rfl) (Over_nil (y_callL (by rfl) (by rfl) Try.call13 (fun w hw => Ct_eq (volume_any t _ cap ((xn + xd - 1) / xd) w hn (hx.st w hw)) hD.v))) ?_
            refine P_det (by rfl) (Over_nil (y_move (c := .tuple _) (by rfl))) ?_
            refine P_det (by rfl) (Over_nil (y_extract (c := .agg _) (by rfl) (by rfl))) ?_
            refine P_det (by rfl) (Over_nil (y_extract (c := .int .i64 _) (by rfl) (by rfl))) ?_
            apply P_newS _ (by rfl) (by rfl) (by rfl) (Over_nil (y_alloc Try.zeroValue30 (by rfl)))
            refine P_st 23 0 (by rfl) (by rfl) (by rfl) (by rfl) (by rfl) (Over_nil (st_new (fun _ => by rfl) Try.sizeOf30 (by rfl) (by rfl) (by first | decide | exact Nat.le_of_ble_eq_true rfl | simp))) ?_
            refine P_det (by rfl) (Over_out (by rfl) (Over_nil (y_assign (c := .int .i64 _) (by rfl)))) ?_
            refine PW_end (by rfl) ?_
            refine OverAll_cons (fun w23 l23 => ?_)
            refine OverAll_nil ?_
            rintro ⟨-, h23⟩
            obtain ⟨b6, rfl, rfl⟩ := h23
            refine Then_normal ?_
            refine W_seq ?_
            refine W_seq ?_
            refine W_draw0 hF Trymixed [] (by decide +kernel) (fun ds => ?_)
            refine P_det (by rfl) (Over_nil (y_move (c := .int .i64 _) (by rfl))) ?_
            refine P_det (by rfl) (Over_nil (YD_no (y_neq (by rfl) (by rfl)) dect)) ?_
            refine P_det (by rfl) (Over_nil (y_move (c := .bool _) (by rfl))) ?_
            refine P_det (by rfl) (Over_nil (y_move (c := .int .i64 _) (by rfl))) ?_
            refine P_det (by rfl) (Over_nil (YD_no (y_neq (by rfl) (by rfl)) dect)) ?_
            refine P_det (by rfl) (Over_nil (by first | exact y_pick_t (c := .bool _) (by rfl) (by rfl) | exact y_pick_f (c := .bool _) (by rfl) (by rfl))) ?_
            refine P_det (by rfl) (Over_nil (y_move (c := .bool _) (by rfl))) ?_
            refine P_det (by rfl) (Over_nil (y_fieldAddr (by rfl) fa30_1)) ?_
            refine P_det (by rfl) (Over_nil (y_load1 (by rfl) Try.isAgg3 (Mem.own1 1 (by rfl) (by rfl)))) ?_
            refine P_det (by rfl) (Over_nil (YD_no (y_lss (by rfl) (by rfl)) dect)) ?_
            refine P_det (by rfl) (Over_nil (by first | exact y_pick_t (c := .bool _) (by rfl) (by rfl) | exact y_pick_f (c := .bool _) (by rfl) (by rfl))) ?_
            refine P_det (by rfl) (Over_nil (y_move (c := .bool _) (by rfl))) ?_
            refine P_det (by rfl) (Over_nil (y_fieldAddr (by rfl) fa30_1)) ?_
            refine P_det (by rfl) (Over_nil (y_load1 (by rfl) Try.isAgg3 (Mem.own1 0 (by rfl) (by rfl)))) ?_
            refine P_det (by rfl) (Over_nil (YD_no (y_lss (by rfl) (by rfl)) dect)) ?_
            refine P_det (by rfl) (Over_nil (by first | exact y_pick_t (c := .bool _) (by rfl) (by rfl) | exact y_pick_f (c := .bool _) (by rfl) (by rfl))) ?_
            refine P_det (by rfl) (Over_nil (y_move (c := .bool _) (by rfl))) ?_
            refine P_det (by rfl) (Over_nil (y_fieldAddr (by rfl) fa30_0)) ?_
            refine P_det (by rfl) (Over_nil (y_load1 (by rfl) Try.isAgg3 (Mem.own1 1 (by rfl) (by rfl)))) ?_
            refine P_det (by rfl) (Over_nil (y_move (c := .int .i64 _) (by rfl))) ?_
            refine P_det (by rfl) (Over_nil (y_fieldAddr (by rfl) fa30_1)) ?_
            refine P_det (by rfl) (Over_nil (y_load1 (by rfl) Try.isAgg3 (Mem.own1 1 (by rfl) (by rfl)))) ?_
            refine P_det (by rfl) (Over_nil (y_mul (by rfl) (by rfl) (by unfold I64; omega))) ?_
            refine P_det (by rfl) (Over_nil (YD_no (y_gtr (by rfl) (by rfl)) dect)) ?_
            refine P_det (by rfl) (Over_nil (by first | exact y_pick_t (c := .bool _) (by rfl) (by rfl) | exact y_pick_f (c := .bool _) (by rfl) (by rfl))) ?_
            refine P_det (by rfl) (Over_nil (y_move (c := .bool _) (by rfl))) ?_
            refine P_det (by rfl) (Over_nil (y_fieldAddr (by rfl) fa30_0)) ?_
            refine P_det (by rfl) (Over_nil (y_load1 (by rfl) Try.isAgg3 (Mem.own1 0 (by rfl) (by rfl)))) ?_
            refine P_det (by rfl) (Over_nil (y_move (c := .int .i64 _) (by rfl))) ?_
            refine P_det (by rfl) (Over_nil (y_fieldAddr (by rfl) fa30_1)) ?_
            refine P_det (by rfl) (Over_nil (y_load1 (by rfl) Try.isAgg3 (Mem.own1 0 (by rfl) (by rfl)))) ?_
            refine P_det (by rfl) (Over_nil (y_mul (by rfl) (by rfl) (by unfold I64; omega))) ?_
            refine P_det (by rfl) (Over_nil (YD_no (y_lss (by rfl) (by rfl)) dect)) ?_
            refine P_det (by rfl) (Over_nil (by first | exact y_pick_t (c := .bool _) (by rfl) (by rfl) | exact y_pick_f (c := .bool _) (by rfl) (by rfl))) ?_
            refine P_det (by rfl) (Over_nil (y_move (c := .bool _) (by rfl))) ?_
            refine P_det (by rfl) (Over_nil (y_fieldAddr (by rfl) fa30_1)) ?_
            refine P_det (by rfl) (Over_nil (y_load1 (by rfl) Try.isAgg3 (Mem.own1 2 (by rfl) (by rfl)))) ?_
            refine P_det (by rfl) (Over_nil (y_eql (by rfl) (by rfl))) ?_
            refine P_det (by rfl) (Over_nil (y_move (c := .bool _) (by rfl))) ?_
            refine P_split 269 (by rfl) (fun g19_38 => ?_) (fun g19_38 => ?_)
            ·
              try simp only [Bool.not_eq_true', Bool.not_eq_false', decide_eq_true_eq, decide_eq_false_iff_not, ne_eq, Classical.not_not, Int.not_lt, Int.not_le] at g19_38
              refine P_det (by rfl) (Over_nil (y_loadN (by rfl) Try.isAgg30 Try.sizeOf30 (Mem.own (us := [.int .i64 _, .int .i64 _]) 1 (by rfl) (by rfl)) (by rfl))) ?_
              refine P_det (by rfl) (Over_nil (y_move (c := .int .i64 _) (by rfl))) ?_
              refine P_det (by rfl) (Over_nil (y_callL (by rfl) (by rfl) Try.call57 (fun w hw => lpart_any _ _ w))) ?_
              refine P_det (by rfl) (Over_nil (YD_no (y_neqlA (by rfl) (by rfl) neqA30) (by
                                        obtain ⟨w1, w2⟩ := hone g19_38
                                        rw [w1, w2]
                                        simp [ieq_self]))) ?_
              refine P_det (by rfl) (Over_nil (by first | exact y_pick_t (c := .bool _) (by rfl) (by rfl) | exact y_pick_f (c := .bool _) (by rfl) (by rfl))) ?_
              refine P_det (by rfl) (Over_nil (by first | exact y_pick_t (c := .bool _) (by rfl) (by rfl) | exact y_pick_f (c := .bool _) (by rfl) (by rfl))) ?_
              refine PW_end (by rfl) ?_
              refine OverAll_nil ?_
              rintro -
              refine Then_normal ?_
              refine W_cond (by rfl) (fun c19 => ?_) (fun c19 => ?_)
              · cases c19
              ·
                try simp only [Bool.not_eq_true', Bool.not_eq_false', decide_eq_true_eq, decide_eq_false_iff_not, ne_eq, Classical.not_not, Int.not_lt, Int.not_le] at c19
                refine W_skip ?_
                refine Then_normal ?_
                refine W_J1H (γ := Unit) (fun _ => True) [(4, .pointer _), (8, .bool _), (9, .bool _), (12, .int .i64 _), (13, .int .i64 _), (14, .pointer _), (16, .pointer _)] (fun _ => []) slt ?_ ?_
                ·
                  rintro _ e _
                  refine W_seq ?_
                  refine W_draw0 hF Trymixed [27] (by decide +kernel) (fun ds => ?_)
                  refine P_det (by rfl) (Over_nil (y_loadN (by rfl) Try.isAgg24 Try.sizeOf24 (Mem.own (us := [.slice _ _ _, .int .i64 _, .int .i64 _]) 5 (by rfl) (by rfl)) (by rfl))) ?_
                  refine P_det (by rfl) (Over_nil (y_move (c := .int .i64 _) (by rfl))) ?_
                  refine P_det (by rfl) (Over_nil (y_move (c := .int .i64 _) (by rfl))) ?_
                  refine P_det (by rfl) (Over_nil (y_callL (by rfl) (by rfl) Try.call58 (fun w hw => lspan_any _ _ w))) ?_
                  refine P_det (by rfl) (Over_nil (y_callL (by rfl) (by rfl) Try.call17 (fun w hw => Ct_eq (range_any t _ cap lo hi w hn (hx.st w hw)) hR))) ?_
                  refine P_det (by rfl) (Over_nil (y_move (c := .tuple _) (by rfl))) ?_
                  refine P_det (by rfl) (Over_nil (y_extract (c := .agg _) (by rfl) (by rfl))) ?_
                  refine P_det (by rfl) (Over_nil (y_extract (c := .int .i64 _) (by rfl) (by rfl))) ?_
                  apply P_newS _ (by rfl) (by rfl) (by rfl) (Over_nil (y_alloc Try.zeroValue26 (by rfl)))
                  refine P_st 27 0 (by rfl) (by rfl) (by rfl) (by rfl) (by rfl) (Over_nil (st_new (fun _ => by rfl) Try.sizeOf26 (by rfl) (by rfl) (by first | decide | exact Nat.le_of_ble_eq_true rfl | simp))) ?_
                  refine P_det (by rfl) (Over_out (by rfl) (Over_nil (y_assign (c := .int .i64 _) (by rfl)))) ?_
                  refine PW_end (by rfl) ?_
                  refine OverAll_cons (fun w27 l27 => ?_)
                  refine OverAll_nil ?_
                  rintro ⟨-, h27⟩
                  obtain ⟨b7, rfl, rfl⟩ := h27
                  refine Then_normal ?_
                  refine W_seq ?_
                  refine W_draw0 hF Trymixed [] (by decide +kernel) (fun ds => ?_)
                  refine P_det (by rfl) (Over_nil (y_fieldAddr (by rfl) fa30_0)) ?_
                  refine P_det (by rfl) (Over_nil (y_load1 (by rfl) Try.isAgg3 (Mem.own1 5 (by rfl) (by rfl)))) ?_
                  refine P_det (by rfl) (Over_nil (y_fieldAddr (by rfl) fa30_1)) ?_
                  refine P_det (by rfl) (Over_nil (y_load1 (by rfl) Try.isAgg3 (Mem.own1 5 (by rfl) (by rfl)))) ?_
                  refine P_det (by rfl) (Over_nil (y_add (by rfl) (by rfl) (by unfold I64; omega))) ?_
                  refine P_det (by rfl) (Over_nil (y_sub (by rfl) (by rfl) (by unfold I64; omega))) ?_
                  refine P_det (by rfl) (Over_nil (y_fieldAddr (by rfl) fa30_1)) ?_
                  refine P_det (by rfl) (Over_nil (y_load1 (by rfl) Try.isAgg3 (Mem.own1 5 (by rfl) (by rfl)))) ?_
                  refine P_det (by rfl) (Over_nil (YD_eq (y_quo (by rfl) (by rfl) (by omega) (by omega) (by unfold I64; omega)) (congrArg (Value.int _) hup))) ?_
                  refine P_det (by rfl) (Over_nil (y_fieldAddr (by rfl) fa30_0)) ?_
                  refine P_det (by rfl) (Over_nil (y_load1 (by rfl) Try.isAgg3 (Mem.own1 4 (by rfl) (by rfl)))) ?_
                  refine P_det (by rfl) (Over_nil (y_fieldAddr (by rfl) fa30_1)) ?_
                  refine P_det (by rfl) (Over_nil (y_load1 (by rfl) Try.isAgg3 (Mem.own1 4 (by rfl) (by rfl)))) ?_
                  refine P_det (by rfl) (Over_nil (YD_eq (y_quo (by rfl) (by rfl) (by omega) (by omega) (by unfold I64; omega)) (congrArg (Value.int _) hdn))) ?_
                  refine P_det (by rfl) (Over_nil (y_assign (c := .int .i64 _) (by rfl))) ?_
                  refine P_det (by rfl) (Over_nil (y_assign (c := .int .i64 _) (by rfl))) ?_
                  refine PW_end (by rfl) ?_
                  refine OverAll_nil ?_
                  rintro -
                  refine Then_normal ?_
                  refine W_seq ?_
                  refine W_seq ?_
                  refine W_region_lit (fun ds => ?_)
                  refine WS_det hF (by rfl) (y_move (c := .int .i64 _) (by rfl)) ?_
                  refine WS_det hF (by rfl) (y_move (c := .int .i64 _) (by rfl)) ?_
                  refine WS_det hF (by rfl) (y_gtr (by rfl) (by rfl)) ?_
                  refine WS_nil ?_
                  refine Then_normal ?_
                  refine W_cond (by rfl) (fun c27 => ?_) (fun c27 => ?_)
                  ·
                    try simp only [Bool.not_eq_true', Bool.not_eq_false', decide_eq_true_eq, decide_eq_false_iff_not, ne_eq, Classical.not_not, Int.not_lt, Int.not_le] at c27
                    have hR6 := hR6 c27
                    refine W_seq ?_
                    refine W_region_lit (fun ds => ?_)
                    refine WS_det hF (by rfl) (y_move (c := .bool _) (by rfl)) ?_
                    refine WS_det hF (by rfl) (y_move (c := .bool _) (by rfl)) ?_
                    refine WS_det hF (by rfl) (y_move (c := .int .i64 _) (by rfl)) ?_
                    refine WS_det hF (by rfl) (YD_yes (y_eql (by rfl) (by rfl)) dect) ?_
                    refine WS_det hF (by rfl) (by first | exact y_pick_t (c := .bool _) (by rfl) (by rfl) | exact y_pick_f (c := .bool _) (by rfl) (by rfl)) ?_
                    refine WS_det hF (by rfl) (y_assign (c := .bool _) (by rfl)) ?_
                    refine WS_nil ?_
                    refine Then_normal ?_
                    refine W_ret ?_
                    refine Then_ret ?_
                    refine Fin_ret [.bool _] [] Try.results7 ⟨by rfl, trivial⟩ HSub.nil ?_
                    rfl
                  ·
                    try simp only [Bool.not_eq_true', Bool.not_eq_false', decide_eq_true_eq, decide_eq_false_iff_not, ne_eq, Classical.not_not, Int.not_lt, Int.not_le] at c27
                    obtain ⟨hr1, hr2, hr3⟩ := hR0 c27
                    refine W_skip ?_
                    refine Then_normal ?_
                    refine W_seq ?_
                    refine W_draw0 hF Trymixed [] (by decide +kernel) (fun ds => ?_)
                    refine P_det (by rfl) (Over_nil (y_move (c := .bool _) (by rfl))) ?_
                    refine P_det (by rfl) (Over_nil (y_move (c := .bool _) (by rfl))) ?_
                    refine P_det (by rfl) (Over_nil (y_move (c := .int .i64 _) (by rfl))) ?_
                    refine P_det (by rfl) (Over_nil (YD_yes (y_eql (by rfl) (by rfl)) dect)) ?_
                    refine P_det (by rfl) (Over_nil (by first | exact y_pick_t (c := .bool _) (by rfl) (by rfl) | exact y_pick_f (c := .bool _) (by rfl) (by rfl))) ?_
                    refine P_det (by rfl) (Over_nil (y_move (c := .bool _) (by rfl))) ?_
                    refine P_det (by rfl) (Over_nil (y_loadN (by rfl) Try.isAgg26 Try.sizeOf26 (Mem.own (us := [.int .i64 _, .int .i64 _]) 0 (by rfl) (by rfl)) (by rfl))) ?_
                    refine P_det (by rfl) (Over_nil (y_move (c := .int .i64 _) (by rfl))) ?_
                    refine P_det (by rfl) (Over_nil (y_move (c := .int .i64 _) (by rfl))) ?_
                    refine P_det (by rfl) (Over_nil (y_callL (by rfl) (by rfl) Try.call58 (fun w hw => lspan_any _ _ w))) ?_
                    refine P_det (by rfl) (Over_nil (YD_yes (y_eqlA (by rfl) (by rfl) eqA26) (by
                                        rw [hr1, hr2]
                                        simp [ieq_self]))) ?_
                    refine P_det (by rfl) (Over_nil (by first | exact y_pick_t (c := .bool _) (by rfl) (by rfl) | exact y_pick_f (c := .bool _) (by rfl) (by rfl))) ?_
                    refine P_det (by rfl) (Over_nil (y_assign (c := .bool _) (by rfl))) ?_
                    refine PW_end (by rfl) ?_
                    refine OverAll_nil ?_
                    rintro -
                    refine Then_normal ?_
                    refine W_ret ?_
                    refine Fin_ret [.bool _] [] Try.results7 ⟨by rfl, trivial⟩ HSub.nil ?_
                    rfl
                ·
                  intro J25
                  refine W_seq ?_
                  refine W_seq ?_
                  refine W_keep [(4, .pointer _), (8, .bool _), (9, .bool _), (12, .int .i64 _), (13, .int .i64 _), (14, .pointer _), (16, .pointer _)] (by repeat (first | exact trivial | refine ⟨by rfl, ?_⟩)) (fun e => ?_)
                  refine W_region_lit (fun ds => ?_)
                  refine WS_det hF (by rfl) (y_fieldAddr (by rfl) fa30_1) ?_
                  refine WS_det hF (by rfl) (y_load1 (by rfl) Try.isAgg3 (Mem.own1 4 (by rfl) (by rfl))) ?_
                  refine WS_det hF (by rfl) (y_eql (by rfl) (by rfl)) ?_
                  refine WS_nil ?_
                  refine Then_normal ?_
                  refine W_cond (by rfl) (fun c21 => ?_) (fun c21 => ?_)
                  ·
                    try simp only [Bool.not_eq_true', Bool.not_eq_false', decide_eq_true_eq, decide_eq_false_iff_not, ne_eq, Classical.not_not, Int.not_lt, Int.not_le] at c21
                    obtain ⟨i2, yn, yd, h2, hY, rfl, rfl⟩ := hback c21
                    refine W_seq ?_
                    refine W_region_lit (fun ds => ?_)
                    refine WS_det hF (by rfl) (y_loadN (by rfl) Try.isAgg24 Try.sizeOf24 (Mem.own (us := [.slice _ _ _, .int .i64 _, .int .i64 _]) 5 (by rfl) (by rfl)) (by rfl)) ?_
                    refine WS_det hF (by rfl) (y_fieldAddr (by rfl) fa30_0) ?_
                    refine WS_det hF (by rfl) (y_load1 (by rfl) Try.isAgg3 (Mem.own1 4 (by rfl) (by rfl))) ?_
                    refine WS_det hF (by rfl) (y_callL (by rfl) (by rfl) Try.call15 (fun w hw => Ct_eq (eighth_any t _ cap an i2 w hn (hx.st w hw) h2) hY.v)) ?_
                    refine WS_det hF (by rfl) (y_move (c := .tuple _) (by rfl)) ?_
                    refine WS_det hF (by rfl) (y_extract (c := .agg _) (by rfl) (by rfl)) ?_
                    refine WS_det hF (by rfl) (y_extract (c := .int .i64 _) (by rfl) (by rfl)) ?_
                    refine WS_new hF (by rfl) (y_alloc Try.zeroValue30 (by rfl)) (fun b8 => ?_)
                    refine WS_store hF (us := [.int .i64 _, .int .i64 _]) (i := 0) (by rfl) (by rfl) Try.sizeOf30 (by rfl) (by rfl) (by rfl) (by first | decide | exact Nat.le_of_ble_eq_true rfl | simp) ?_
                    refine WS_det hF (by rfl) (y_assign (c := .int .i64 _) (by rfl)) ?_
                    refine WS_nil ?_
                    refine Then_normal ?_
                    refine W_seq ?_
                    refine W_draw0 hF Trymixed [] (by decide +kernel) (fun ds => ?_)
                    refine P_det (by rfl) (Over_nil (y_move (c := .int .i64 _) (by rfl))) ?_
                    refine P_det (by rfl) (Over_nil (YD_no (y_neq (by rfl) (by rfl)) dect)) ?_
                    refine P_det (by rfl) (Over_nil (y_move (c := .bool _) (by rfl))) ?_
                    refine P_det (by rfl) (Over_nil (y_loadN (by rfl) Try.isAgg30 Try.sizeOf30 (Mem.own (us := [.int .i64 _, .int .i64 _]) 0 (by rfl) (by rfl)) (by rfl))) ?_
                    refine P_det (by rfl) (Over_nil (y_move (c := .int .i64 _) (by rfl))) ?_
                    refine P_det (by rfl) (Over_nil (y_callL (by rfl) (by rfl) Try.call57 (fun w hw => lpart_any _ _ w))) ?_
                    refine P_det (by rfl) (Over_nil (YD_no (y_neqlA (by rfl) (by rfl) neqA30) (by
                                        simp [ieq_self]))) ?_
                    refine P_det (by rfl) (Over_nil (by first | exact y_pick_t (c := .bool _) (by rfl) (by rfl) | exact y_pick_f (c := .bool _) (by rfl) (by rfl))) ?_
                    refine PW_end (by rfl) ?_
                    refine OverAll_nil ?_
                    rintro -
                    refine Then_normal ?_
                    refine W_cond (by rfl) (fun c23 => ?_) (fun c23 => ?_)
                    · cases c23
                    ·
                      try simp only [Bool.not_eq_true', Bool.not_eq_false', decide_eq_true_eq, decide_eq_false_iff_not, ne_eq, Classical.not_not, Int.not_lt, Int.not_le] at c23
                      refine W_skip ?_
                      refine Then_normal ?_
                      exact J25 () _ _  trivial slt slt (HSub.sub sbA)
                  ·
                    try simp only [Bool.not_eq_true', Bool.not_eq_false', decide_eq_true_eq, decide_eq_false_iff_not, ne_eq, Classical.not_not, Int.not_lt, Int.not_le] at c21
                    refine W_skip ?_
                    refine Then_normal ?_
                    exact J25 () _ _  trivial slt slt (HSub.sub sbA)
            ·
              try simp only [Bool.not_eq_true', Bool.not_eq_false', decide_eq_true_eq, decide_eq_false_iff_not, ne_eq, Classical.not_not, Int.not_lt, Int.not_le] at g19_38
              refine P_no (by rfl) ?_
              refine P_no (by rfl) ?_
              refine P_no (by rfl) ?_
              refine P_no (by rfl) ?_
              refine P_det (by rfl) (Over_nil (by first | exact y_pick_t (c := .bool _) (by rfl) (by rfl) | exact y_pick_f (c := .bool _) (by rfl) (by rfl))) ?_
              refine P_det (by rfl) (Over_nil (by first | exact y_pick_t (c := .bool _) (by rfl) (by rfl) | exact y_pick_f (c := .bool _) (by rfl) (by rfl))) ?_
              refine PW_end (by rfl) ?_
              refine OverAll_nil ?_
              rintro -
              refine Then_normal ?_
              refine W_cond (by rfl) (fun c19 => ?_) (fun c19 => ?_)
              · cases c19
              ·
                try simp only [Bool.not_eq_true', Bool.not_eq_false', decide_eq_true_eq, decide_eq_false_iff_not, ne_eq, Classical.not_not, Int.not_lt, Int.not_le] at c19
                refine W_skip ?_
                refine Then_normal ?_
                refine W_J1H (γ := Unit) (fun _ => True) [(4, .pointer _), (8, .bool _), (9, .bool _), (12, .int .i64 _), (13, .int .i64 _), (14, .pointer _), (16, .pointer _)] (fun _ => []) slt ?_ ?_
                ·
                  rintro _ e _
                  refine W_seq ?_
                  refine W_draw0 hF Trymixed [27] (by decide +kernel) (fun ds => ?_)
                  refine P_det (by rfl) (Over_nil (y_loadN (by rfl) Try.isAgg24 Try.sizeOf24 (Mem.own (us := [.slice _ _ _, .int .i64 _, .int .i64 _]) 5 (by rfl) (by rfl)) (by rfl))) ?_
                  refine P_det (by rfl) (Over_nil (y_move (c := .int .i64 _) (by rfl))) ?_
                  refine P_det (by rfl) (Over_nil (y_move (c := .int .i64 _) (by rfl))) ?_
                  refine P_det (by rfl) (Over_nil (y_callL (by rfl) (by rfl) Try.call58 (fun w hw => lspan_any _ _ w))) ?_
                  refine P_det (by rfl) (Over_nil (y_callL (by rfl) (by rfl) Try.call17 (fun w hw => Ct_eq (range_any t _ cap lo hi w hn (hx.st w hw)) hR))) ?_
                  refine P_det (by rfl) (Over_nil (y_move (c := .tuple _) (by rfl))) ?_
                  refine P_det (by rfl) (Over_nil (y_extract (c := .agg _) (by rfl) (by rfl))) ?_
                  refine P_det (by rfl) (Over_nil (y_extract (c := .int .i64 _) (by rfl) (by rfl))) ?_
                  apply P_newS _ (by rfl) (by rfl) (by rfl) (Over_nil (y_alloc Try.zeroValue26 (by rfl)))
                  refine P_st 27 0 (by rfl) (by rfl) (by rfl) (by rfl) (by rfl) (Over_nil (st_new (fun _ => by rfl) Try.sizeOf26 (by rfl) (by rfl) (by first | decide | exact Nat.le_of_ble_eq_true rfl | simp))) ?_
                  refine P_det (by rfl) (Over_out (by rfl) (Over_nil (y_assign (c := .int .i64 _) (by rfl)))) ?_
                  refine PW_end (by rfl) ?_
                  refine OverAll_cons (fun w27 l27 => ?_)
                  refine OverAll_nil ?_
                  rintro ⟨-, h27⟩
                  obtain ⟨b9, rfl, rfl⟩ := h27
                  refine Then_normal ?_
                  refine W_seq ?_
                  refine W_draw0 hF Trymixed [] (by decide +kernel) (fun ds => ?_)
                  refine P_det (by rfl) (Over_nil (y_fieldAddr (by rfl) fa30_0)) ?_
                  refine P_det (by rfl) (Over_nil (y_load1 (by rfl) Try.isAgg3 (Mem.own1 5 (by rfl) (by rfl)))) ?_
                  refine P_det (by rfl) (Over_nil (y_fieldAddr (by rfl) fa30_1)) ?_
                  refine P_det (by rfl) (Over_nil (y_load1 (by rfl) Try.isAgg3 (Mem.own1 5 (by rfl) (by rfl)))) ?_
                  refine P_det (by rfl) (Over_nil (y_add (by rfl) (by rfl) (by unfold I64; omega))) ?_
                  refine P_det (by rfl) (Over_nil (y_sub (by rfl) (by rfl) (by unfold I64; omega))) ?_
                  refine P_det (by rfl) (Over_nil (y_fieldAddr (by rfl) fa30_1)) ?_
                  refine P_det (by rfl) (Over_nil (y_load1 (by rfl) Try.isAgg3 (Mem.own1 5 (by rfl) (by rfl)))) ?_
                  refine P_det (by rfl) (Over_nil (YD_eq (y_quo (by rfl) (by rfl) (by omega) (by omega) (by unfold I64; omega)) (congrArg (Value.int _) hup))) ?_
                  refine P_det (by rfl) (Over_nil (y_fieldAddr (by rfl) fa30_0)) ?_
                  refine P_det (by rfl) (Over_nil (y_load1 (by rfl) Try.isAgg3 (Mem.own1 4 (by rfl) (by rfl)))) ?_
                  refine P_det (by rfl) (Over_nil (y_fieldAddr (by rfl) fa30_1)) ?_
                  refine P_det (by rfl) (Over_nil (y_load1 (by rfl) Try.isAgg3 (Mem.own1 4 (by rfl) (by rfl)))) ?_
                  refine P_det (by rfl) (Over_nil (YD_eq (y_quo (by rfl) (by rfl) (by omega) (by omega) (by unfold I64; omega)) (congrArg (Value.int _) hdn))) ?_
                  refine P_det (by rfl) (Over_nil (y_assign (c := .int .i64 _) (by rfl))) ?_
                  refine P_det (by rfl) (Over_nil (y_assign (c := .int .i64 _) (by rfl))) ?_
                  refine PW_end (by rfl) ?_
                  refine OverAll_nil ?_
                  rintro -
                  refine Then_normal ?_
                  refine W_seq ?_
                  refine W_seq ?_
                  refine W_region_lit (fun ds => ?_)
                  refine WS_det hF (by rfl) (y_move (c := .int .i64 _) (by rfl)) ?_
                  refine WS_det hF (by rfl) (y_move (c := .int .i64 _) (by rfl)) ?_
                  refine WS_det hF (by rfl) (y_gtr (by rfl) (by rfl)) ?_
                  refine WS_nil ?_
                  refine Then_normal ?_
                  refine W_cond (by rfl) (fun c27 => ?_) (fun c27 => ?_)
                  ·
                    try simp only [Bool.not_eq_true', Bool.not_eq_false', decide_eq_true_eq, decide_eq_false_iff_not, ne_eq, Classical.not_not, Int.not_lt, Int.not_le] at c27
                    have hR6 := hR6 c27
                    refine W_seq ?_
                    refine W_region_lit (fun ds => ?_)
                    refine WS_det hF (by rfl) (y_move (c := .bool _) (by rfl)) ?_
                    refine WS_det hF (by rfl) (y_move (c := .bool _) (by rfl)) ?_
                    refine WS_det hF (by rfl) (y_move (c := .int .i64 _) (by rfl)) ?_
                    refine WS_det hF (by rfl) (YD_yes (y_eql (by rfl) (by rfl)) dect) ?_
                    refine WS_det hF (by rfl) (by first | exact y_pick_t (c := .bool _) (by rfl) (by rfl) | exact y_pick_f (c := .bool _) (by rfl) (by rfl)) ?_
                    refine WS_det hF (by rfl) (y_assign (c := .bool _) (by rfl)) ?_
                    refine WS_nil ?_
                    refine Then_normal ?_
                    refine W_ret ?_
                    refine Then_ret ?_
                    refine Fin_ret [.bool _] [] Try.results7 ⟨by rfl, trivial⟩ HSub.nil ?_
                    rfl
                  ·
                    try simp only [Bool.not_eq_true', Bool.not_eq_false', decide_eq_true_eq, decide_eq_false_iff_not, ne_eq, Classical.not_not, Int.not_lt, Int.not_le] at c27
                    obtain ⟨hr1, hr2, hr3⟩ := hR0 c27
                    refine W_skip ?_
                    refine Then_normal ?_
                    refine W_seq ?_
                    refine W_draw0 hF Trymixed [] (by decide +kernel) (fun ds => ?_)
                    refine P_det (by rfl) (Over_nil (y_move (c := .bool _) (by rfl))) ?_
                    refine P_det (by rfl) (Over_nil (y_move (c := .bool _) (by rfl))) ?_
                    refine P_det (by rfl) (Over_nil (y_move (c := .int .i64 _) (by rfl))) ?_
                    refine P_det (by rfl) (Over_nil (YD_yes (y_eql (by rfl) (by rfl)) dect)) ?_
                    refine P_det (by rfl) (Over_nil (by first | exact y_pick_t (c := .bool _) (by rfl) (by rfl) | exact y_pick_f (c := .bool _) (by rfl) (by rfl))) ?_
                    refine P_det (by rfl) (Over_nil (y_move (c := .bool _) (by rfl))) ?_
                    refine P_det (by rfl) (Over_nil (y_loadN (by rfl) Try.isAgg26 Try.sizeOf26 (Mem.own (us := [.int .i64 _, .int .i64 _]) 0 (by rfl) (by rfl)) (by rfl))) ?_
                    refine P_det (by rfl) (Over_nil (y_move (c := .int .i64 _) (by rfl))) ?_
                    refine P_det (by rfl) (Over_nil (y_move (c := .int .i64 _) (by rfl))) ?_
                    refine P_det (by rfl) (Over_nil (y_callL (by rfl) (by rfl) Try.call58 (fun w hw => lspan_any _ _ w))) ?_
                    refine P_det (by rfl) (Over_nil (YD_yes (y_eqlA (by rfl) (by rfl) eqA26) (by
                                        rw [hr1, hr2]
                                        simp [ieq_self]))) ?_
                    refine P_det (by rfl) (Over_nil (by first | exact y_pick_t (c := .bool _) (by rfl) (by rfl) | exact y_pick_f (c := .bool _) (by rfl) (by rfl))) ?_
                    refine P_det (by rfl) (Over_nil (y_assign (c := .bool _) (by rfl))) ?_
                    refine PW_end (by rfl) ?_
                    refine OverAll_nil ?_
                    rintro -
                    refine Then_normal ?_
                    refine W_ret ?_
                    refine Fin_ret [.bool _] [] Try.results7 ⟨by rfl, trivial⟩ HSub.nil ?_
                    rfl
                ·
                  intro J25
                  refine W_seq ?_
                  refine W_seq ?_
                  refine W_keep [(4, .pointer _), (8, .bool _), (9, .bool _), (12, .int .i64 _), (13, .int .i64 _), (14, .pointer _), (16, .pointer _)] (by repeat (first | exact trivial | refine ⟨by rfl, ?_⟩)) (fun e => ?_)
                  refine W_region_lit (fun ds => ?_)
                  refine WS_det hF (by rfl) (y_fieldAddr (by rfl) fa30_1) ?_
                  refine WS_det hF (by rfl) (y_load1 (by rfl) Try.isAgg3 (Mem.own1 4 (by rfl) (by rfl))) ?_
                  refine WS_det hF (by rfl) (y_eql (by rfl) (by rfl)) ?_
                  refine WS_nil ?_
                  refine Then_normal ?_
                  refine W_cond (by rfl) (fun c21 => ?_) (fun c21 => ?_)
                  ·
                    try simp only [Bool.not_eq_true', Bool.not_eq_false', decide_eq_true_eq, decide_eq_false_iff_not, ne_eq, Classical.not_not, Int.not_lt, Int.not_le] at c21
                    obtain ⟨i2, yn, yd, h2, hY, rfl, rfl⟩ := hback c21
                    refine W_seq ?_
                    refine W_region_lit (fun ds => ?_)
                    refine WS_det hF (by rfl) (y_loadN (by rfl) Try.isAgg24 Try.sizeOf24 (Mem.own (us := [.slice _ _ _, .int .i64 _, .int .i64 _]) 5 (by rfl) (by rfl)) (by rfl)) ?_
                    refine WS_det hF (by rfl) (y_fieldAddr (by rfl) fa30_0) ?_
                    refine WS_det hF (by rfl) (y_load1 (by rfl) Try.isAgg3 (Mem.own1 4 (by rfl) (by rfl))) ?_
                    refine WS_det hF (by rfl) (y_callL (by rfl) (by rfl) Try.call15 (fun w hw => Ct_eq (eighth_any t _ cap an i2 w hn (hx.st w hw) h2) hY.v)) ?_
                    refine WS_det hF (by rfl) (y_move (c := .tuple _) (by rfl)) ?_
                    refine WS_det hF (by rfl) (y_extract (c := .agg _) (by rfl) (by rfl)) ?_
                    refine WS_det hF (by rfl) (y_extract (c := .int .i64 _) (by rfl) (by rfl)) ?_
                    refine WS_new hF (by rfl) (y_alloc Try.zeroValue30 (by rfl)) (fun b10 => ?_)
                    refine WS_store hF (us := [.int .i64 _, .int .i64 _]) (i := 0) (by rfl) (by rfl) Try.sizeOf30 (by rfl) (by rfl) (by rfl) (by first | decide | exact Nat.le_of_ble_eq_true rfl | simp) ?_
                    refine WS_det hF (by rfl) (y_assign (c := .int .i64 _) (by rfl)) ?_
                    refine WS_nil ?_
                    refine Then_normal ?_
                    refine W_seq ?_
                    refine W_draw0 hF Trymixed [] (by decide +kernel) (fun ds => ?_)
                    refine P_det (by rfl) (Over_nil (y_move (c := .int .i64 _) (by rfl))) ?_
                    refine P_det (by rfl) (Over_nil (YD_no (y_neq (by rfl) (by rfl)) dect)) ?_
                    refine P_det (by rfl) (Over_nil (y_move (c := .bool _) (by rfl))) ?_
                    refine P_det (by rfl) (Over_nil (y_loadN (by rfl) Try.isAgg30 Try.sizeOf30 (Mem.own (us := [.int .i64 _, .int .i64 _]) 0 (by rfl) (by rfl)) (by rfl))) ?_
                    refine P_det (by rfl) (Over_nil (y_move (c := .int .i64 _) (by rfl))) ?_
                    refine P_det (by rfl) (Over_nil (y_callL (by rfl) (by rfl) Try.call57 (fun w hw => lpart_any _ _ w))) ?_
                    refine P_det (by rfl) (Over_nil (YD_no (y_neqlA (by rfl) (by rfl) neqA30) (by
                                        simp [ieq_self]))) ?_
                    refine P_det (by rfl) (Over_nil (by first | exact y_pick_t (c := .bool _) (by rfl) (by rfl) | exact y_pick_f (c := .bool _) (by rfl) (by rfl))) ?_
                    refine PW_end (by rfl) ?_
                    refine OverAll_nil ?_
                    rintro -
                    refine Then_normal ?_
                    refine W_cond (by rfl) (fun c23 => ?_) (fun c23 => ?_)
                    · cases c23
                    ·
                      try simp only [Bool.not_eq_true', Bool.not_eq_false', decide_eq_true_eq, decide_eq_false_iff_not, ne_eq, Classical.not_not, Int.not_lt, Int.not_le] at c23
                      refine W_skip ?_
                      refine Then_normal ?_
                      exact J25 () _ _  trivial slt slt (HSub.sub sbA)
                  ·
                    try simp only [Bool.not_eq_true', Bool.not_eq_false', decide_eq_true_eq, decide_eq_false_iff_not, ne_eq, Classical.not_not, Int.not_lt, Int.not_le] at c21
                    refine W_skip ?_
                    refine Then_normal ?_
                    exact J25 () _ _  trivial slt slt (HSub.sub sbA)
      ·
        try simp only [Bool.not_eq_true', Bool.not_eq_false', decide_eq_true_eq, decide_eq_false_iff_not, ne_eq, Classical.not_not, Int.not_lt, Int.not_le] at g11_3
        refine P_no (by rfl) ?_
        refine P_no (by rfl) ?_
        refine P_no (by rfl) ?_
        refine P_no (by rfl) ?_
        refine P_no (by rfl) ?_
        refine P_no (by rfl) ?_
        refine P_no (by rfl) ?_
        refine P_no (by rfl) ?_
        refine P_no (by rfl) ?_
        refine P_det (by rfl) (Over_nil (by first | exact y_pick_t (c := .bool _) (by rfl) (by rfl) | exact y_pick_f (c := .bool _) (by rfl) (by rfl))) ?_
        refine PW_end (by rfl) ?_
        refine OverAll_nil ?_
        rintro -
        refine Then_normal ?_
        refine W_cond (by rfl) (fun c11 => ?_) (fun c11 => ?_)
        · cases c11
        ·
          try simp only [Bool.not_eq_true', Bool.not_eq_false', decide_eq_true_eq, decide_eq_false_iff_not, ne_eq, Classical.not_not, Int.not_lt, Int.not_le] at c11
          refine W_skip ?_
          refine Then_normal ?_
          refine W_seq ?_
          refine W_region_lit (fun ds => ?_)
          refine WS_det hF (by rfl) (y_move (c := .int .u16 _) (by rfl)) ?_
          refine WS_det hF (by rfl) (y_conv_iu (by rfl) Try.runUnderlying83 Try.runUnderlying3 (by first | exact IntWalk.i64_in _ (by omega) | exact IntWalk.u64_in _ (by omega))) ?_
          refine WS_det hF (by rfl) (y_move (c := .int .i64 _) (by rfl)) ?_
          refine WS_det hF (by rfl) (y_add (by rfl) (by rfl) (by unfold I64; omega)) ?_
          refine WS_det hF (by rfl) (YD_eq (y_rem (by rfl) (by rfl) (by omega) (by omega)) (congrArg (Value.int _) hP)) ?_
          refine WS_det hF (by rfl) (y_assign (c := .int .i64 _) (by rfl)) ?_
          refine WS_nil ?_
          refine Then_normal ?_
          refine W_seq ?_
          refine W_region_lit (fun ds => ?_)
          refine WS_det hF (by rfl) (y_loadN (by rfl) Try.isAgg24 Try.sizeOf24 (Mem.own (us := [.slice _ _ _, .int .i64 _, .int .i64 _]) 2 (by rfl) (by rfl)) (by rfl)) ?_
          refine WS_det hF (by rfl) (y_move (c := .int .i64 _) (by rfl)) ?_
          refine WS_det hF (by rfl) (y_callL (by rfl) (by rfl) Try.call15 (fun w hw => Ct_eq (eighth_any t _ cap P i w hn (hx.st w hw) hi_) hE.v)) ?_
          refine WS_det hF (by rfl) (y_move (c := .tuple _) (by rfl)) ?_
          refine WS_det hF (by rfl) (y_extract (c := .agg _) (by rfl) (by rfl)) ?_
          refine WS_det hF (by rfl) (y_extract (c := .int .i64 _) (by rfl) (by rfl)) ?_
          refine WS_new hF (by rfl) (y_alloc Try.zeroValue30 (by rfl)) (fun b11 => ?_)
          refine WS_store hF (us := [.int .i64 _, .int .i64 _]) (i := 0) (by rfl) (by rfl) Try.sizeOf30 (by rfl) (by rfl) (by rfl) (by first | decide | exact Nat.le_of_ble_eq_true rfl | simp) ?_
          refine WS_det hF (by rfl) (y_assign (c := .int .i64 _) (by rfl)) ?_
          refine WS_nil ?_
          refine Then_normal ?_
          refine W_seq ?_
          refine W_seq ?_
          refine W_region_lit (fun ds => ?_)
          refine WS_det hF (by rfl) (y_move (c := .int .i64 _) (by rfl)) ?_
          refine WS_det hF (by rfl) (YD_no (y_neq (by rfl) (by rfl)) dect) ?_
          refine WS_det hF (by rfl) (y_move (c := .bool _) (by rfl)) ?_
          refine WS_det hF (by rfl) (y_fieldAddr (by rfl) fa30_1) ?_
          refine WS_det hF (by rfl) (y_load1 (by rfl) Try.isAgg3 (Mem.own1 0 (by rfl) (by rfl))) ?_
          refine WS_det hF (by rfl) (YD_no (y_lss (by rfl) (by rfl)) dect) ?_
          refine WS_det hF (by rfl) (by first | exact y_pick_t (c := .bool _) (by rfl) (by rfl) | exact y_pick_f (c := .bool _) (by rfl) (by rfl)) ?_
          refine WS_det hF (by rfl) (y_move (c := .bool _) (by rfl)) ?_
          refine WS_det hF (by rfl) (y_fieldAddr (by rfl) fa30_1) ?_
          refine WS_det hF (by rfl) (y_load1 (by rfl) Try.isAgg3 (Mem.own1 0 (by rfl) (by rfl))) ?_
          refine WS_det hF (by rfl) (YD_no (y_gtr (by rfl) (by rfl)) dect) ?_
          refine WS_det hF (by rfl) (by first | exact y_pick_t (c := .bool _) (by rfl) (by rfl) | exact y_pick_f (c := .bool _) (by rfl) (by rfl)) ?_
          refine WS_det hF (by rfl) (y_move (c := .bool _) (by rfl)) ?_
          refine WS_det hF (by rfl) (y_fieldAddr (by rfl) fa30_0) ?_
          refine WS_det hF (by rfl) (y_load1 (by rfl) Try.isAgg3 (Mem.own1 0 (by rfl) (by rfl))) ?_
          refine WS_det hF (by rfl) (YD_no (y_lss (by rfl) (by rfl)) dect) ?_
          refine WS_det hF (by rfl) (by first | exact y_pick_t (c := .bool _) (by rfl) (by rfl) | exact y_pick_f (c := .bool _) (by rfl) (by rfl)) ?_
          refine WS_det hF (by rfl) (y_move (c := .bool _) (by rfl)) ?_
          refine WS_det hF (by rfl) (y_fieldAddr (by rfl) fa30_0) ?_
          refine WS_det hF (by rfl) (y_load1 (by rfl) Try.isAgg3 (Mem.own1 0 (by rfl) (by rfl))) ?_
          refine WS_det hF (by rfl) (y_move (c := .int .i64 _) (by rfl)) ?_
          refine WS_det hF (by rfl) (y_fieldAddr (by rfl) fa30_1) ?_
          refine WS_det hF (by rfl) (y_load1 (by rfl) Try.isAgg3 (Mem.own1 0 (by rfl) (by rfl))) ?_
          refine WS_det hF (by rfl) (y_mul (by rfl) (by rfl) (by unfold I64; omega)) ?_
          refine WS_det hF (by rfl) (YD_no (y_gtr (by rfl) (by rfl)) dect) ?_
          refine WS_det hF (by rfl) (by first | exact y_pick_t (c := .bool _) (by rfl) (by rfl) | exact y_pick_f (c := .bool _) (by rfl) (by rfl)) ?_
          refine WS_nil ?_
          refine Then_normal ?_
          refine W_cond (by rfl) (fun c15 => ?_) (fun c15 => ?_)
          · cases c15
          ·
            try simp only [Bool.not_eq_true', Bool.not_eq_false', decide_eq_true_eq, decide_eq_false_iff_not, ne_eq, Classical.not_not, Int.not_lt, Int.not_le] at c15
            refine W_skip ?_
            refine Then_normal ?_
            refine W_seq ?_
            refine W_keep [(4, .pointer _), (8, .bool _), (9, .bool _), (12, .int .i64 _), (13, .int .i64 _), (14, .pointer _), (16, .pointer _), (18, .int .i64 _), (19, .pointer _)] (by repeat (first | exact trivial | refine ⟨by rfl, ?_⟩)) (fun e => ?_)
            refine W_draw0 hF Trymixed [21] (by decide +kernel) (fun ds => ?_)
            refine P_det (by rfl) (Over_nil (y_loadN (by rfl) Try.isAgg24 Try.sizeOf24 (Mem.own (us := [.slice _ _ _, .int .i64 _, .int .i64 _]) 3 (by rfl) (by rfl)) (by rfl))) ?_
            refine P_det (by rfl) (Over_nil (y_fieldAddr (by rfl) fa30_0)) ?_
            refine P_det (by rfl) (Over_nil (y_load1 (by rfl) Try.isAgg3 (Mem.own1 0 (by rfl) (by rfl)))) ?_
            refine P_det (by rfl) (Over_nil (y_fieldAddr (by rfl) fa30_1)) ?_
            refine P_det (by rfl) (Over_nil (y_load1 (by rfl) Try.isAgg3 (Mem.own1 0 (by rfl) (by rfl)))) ?_
            refine P_det (by rfl) (Over_nil (y_quo (by rfl) (by rfl) (by omega) (by omega) (by unfold I64; omega))) ?_
            refine P_det (by rfl) (Over_nil (y_callL (by rfl) (by rfl) Try.call13 (fun w hw => Ct_eq (volume_any t _ cap (xn / xd) w hn (hx.st w hw)) hC.v))) ?_
            refine P_det (by rfl) (Over_nil (y_move (c := .tuple _) (by rfl))) ?_
            refine P_det (by rfl) (Over_nil (y_extract (c := .agg _) (by rfl) (by rfl))) ?_
            refine P_det (by rfl) (Over_nil (y_extract (c := .int .i64 _) (by rfl) (by rfl))) ?_
            apply P_newS _ (by rfl) (by rfl) (by rfl) (Over_nil (y_alloc Try.zeroValue30 (by rfl)))
            refine P_st 21 0 (by rfl) (by rfl) (by rfl) (by rfl) (by rfl) (Over_nil (st_new (fun _ => by rfl) Try.sizeOf30 (by rfl) (by rfl) (by first | decide | exact Nat.le_of_ble_eq_true rfl | simp))) ?_
            refine P_det (by rfl) (Over_out (by rfl) (Over_nil (y_assign (c := .int .i64 _) (by rfl)))) ?_
            refine PW_end (by rfl) ?_
            refine OverAll_cons (fun w21 l21 => ?_)
            refine OverAll_nil ?_
            rintro ⟨-, h21⟩
            obtain ⟨b12, rfl, rfl⟩ := h21
            refine Then_normal ?_
            refine W_seq ?_
            refine W_draw0 hF Trymixed [23] (by decide +kernel) (fun ds => ?_)
            refine P_det (by rfl) (Over_nil (y_loadN (by rfl) Try.isAgg24 Try.sizeOf24 (Mem.own (us := [.slice _ _ _, .int .i64 _, .int .i64 _]) 4 (by rfl) (by rfl)) (by rfl))) ?_
            refine P_det (by rfl) (Over_nil (y_fieldAddr (by rfl) fa30_0)) ?_
            refine P_det (by rfl) (Over_nil (y_load1 (by rfl) Try.isAgg3 (Mem.own1 1 (by rfl) (by rfl)))) ?_
            refine P_det (by rfl) (Over_nil (y_fieldAddr (by rfl) fa30_1)) ?_
            refine P_det (by rfl) (Over_nil (y_load1 (by rfl) Try.isAgg3 (Mem.own1 1 (by rfl) (by rfl)))) ?_
            refine P_det (by rfl) (Over_nil (y_add (by rfl) (by rfl) (by unfold I64; omega))) ?_
            refine P_det (by rfl) (Over_nil (y_sub (by rfl) (by rfl) (by unfold I64; omega))) ?_
            refine P_det (by rfl) (Over_nil (y_fieldAddr (by rfl) fa30_1)) ?_
            refine P_det (by rfl) (Over_nil (y_load1 (by rfl) Try.isAgg3 (Mem.own1 1 (by rfl) (by rfl)))) ?_
            refine P_det (by rfl) (Over_nil (y_quo (by rfl) (by rfl) (by omega) (by omega) (by unfold I64; omega))) ?_
            refine P_det (by rfl) (Over_nil (y_callL (by rfl) (by rfl) Try.call13 (fun w hw => Ct_eq (volume_any t _ cap ((xn + xd - 1) / xd) w hn (hx.st w hw)) hD.v))) ?_
            refine P_det (by rfl) (Over_nil (y_move (c := .tuple _) (by rfl))) ?_
            refine P_det (by rfl) (Over_nil (y_extract (c := .agg _) (by rfl) (by rfl))) ?_
            refine P_det (by rfl) (Over_nil (y_extract (c := .int .i64 _) (by rfl) (by rfl))) ?_
            apply P_newS _ (by rfl) (by rfl) (by rfl) (Over_nil (y_alloc Try.zeroValue30 (by rfl)))
            refine P_st 23 0 (by rfl) (by rfl) (by rfl) (by rfl) (by rfl) (Over_nil (st_new (fun _ => by rfl) Try.sizeOf30 (by rfl) (by rfl) (by first | decide | exact Nat.le_of_ble_eq_true rfl | simp))) ?_
            refine P_det (by rfl) (Over_out (by rfl) (Over_nil (y_assign (c := .int .i64 _) (by rfl)))) ?_
            refine PW_end (by rfl) ?_
            refine OverAll_cons (fun w23 l23 => ?_)
            refine OverAll_nil ?_
            rintro ⟨-, h23⟩
            obtain ⟨b13, rfl, rfl⟩ := h23
            refine Then_normal ?_
            refine W_seq ?_
            refine W_seq ?_
            refine W_draw0 hF Trymixed [] (by decide +kernel) (fun ds => ?_)
            refine P_det (by rfl) (Over_nil (y_move (c := .int .i64 _) (by rfl))) ?_
            refine P_det (by rfl) (Over_nil (YD_no (y_neq (by rfl) (by rfl)) dect)) ?_
            refine P_det (by rfl) (Over_nil (y_move (c := .bool _) (by rfl))) ?_
            refine P_det (by rfl) (Over_nil (y_move (c := .int .i64 _) (by rfl))) ?_
            refine P_det (by rfl) (Over_nil (YD_no (y_neq (by rfl) (by rfl)) dect)) ?_
            refine P_det (by rfl) (Over_nil (by first | exact y_pick_t (c := .bool _) (by rfl) (by rfl) | exact y_pick_f (c := .bool _) (by rfl) (by rfl))) ?_
            refine P_det (by rfl) (Over_nil (y_move (c := .bool _) (by rfl))) ?_
            refine P_det (by rfl) (Over_nil (y_fieldAddr (by rfl) fa30_1)) ?_
            refine P_det (by rfl) (Over_nil (y_load1 (by rfl) Try.isAgg3 (Mem.own1 1 (by rfl) (by rfl)))) ?_
            refine P_det (by rfl) (Over_nil (YD_no (y_lss (by rfl) (by rfl)) dect)) ?_
            refine P_det (by rfl) (Over_nil (by first | exact y_pick_t (c := .bool _) (by rfl) (by rfl) | exact y_pick_f (c := .bool _) (by rfl) (by rfl))) ?_
            refine P_det (by rfl) (Over_nil (y_move (c := .bool _) (by rfl))) ?_
            refine P_det (by rfl) (Over_nil (y_fieldAddr (by rfl) fa30_1)) ?_
            refine P_det (by rfl) (Over_nil (y_load1 (by rfl) Try.isAgg3 (Mem.own1 0 (by rfl) (by rfl)))) ?_
            refine P_det (by rfl) (Over_nil (YD_no (y_lss (by rfl) (by rfl)) dect)) ?_
            refine P_det (by rfl) (Over_nil (by first | exact y_pick_t (c := .bool _) (by rfl) (by rfl) | exact y_pick_f (c := .bool _) (by rfl) (by rfl))) ?_
            refine P_det (by rfl) (Over_nil (y_move (c := .bool _) (by rfl))) ?_
            refine P_det (by rfl) (Over_nil (y_fieldAddr (by rfl) fa30_0)) ?_
            refine P_det (by rfl) (Over_nil (y_load1 (by rfl) Try.isAgg3 (Mem.own1 1 (by rfl) (by rfl)))) ?_
            refine P_det (by rfl) (Over_nil (y_move (c := .int .i64 _) (by rfl))) ?_
            refine P_det (by rfl) (Over_nil (y_fieldAddr (by rfl) fa30_1)) ?_
            refine P_det (by rfl) (Over_nil (y_load1 (by rfl) Try.isAgg3 (Mem.own1 1 (by rfl) (by rfl)))) ?_
            refine P_det (by rfl) (Over_nil (y_mul (by rfl) (by rfl) (by unfold I64; omega))) ?_
            refine P_det (by rfl) (Over_nil (YD_no (y_gtr (by rfl) (by rfl)) dect)) ?_
            refine P_det (by rfl) (Over_nil (by first | exact y_pick_t (c := .bool _) (by rfl) (by rfl) | exact y_pick_f (c := .bool _) (by rfl) (by rfl))) ?_
            refine P_det (by rfl) (Over_nil (y_move (c := .bool _) (by rfl))) ?_
            refine P_det (by rfl) (Over_nil (y_fieldAddr (by rfl) fa30_0)) ?_
            refine P_det (by rfl) (Over_nil (y_load1 (by rfl) Try.isAgg3 (Mem.own1 0 (by rfl) (by rfl)))) ?_
            refine P_det (by rfl) (Over_nil (y_move (c := .int .i64 _) (by rfl))) ?_
            refine P_det (by rfl) (Over_nil (y_fieldAddr (by rfl) fa30_1)) ?_
            refine P_det (by rfl) (Over_nil (y_load1 (by rfl) Try.isAgg3 (Mem.own1 0 (by rfl) (by rfl)))) ?_
            refine P_det (by rfl) (Over_nil (y_mul (by rfl) (by rfl) (by unfold I64; omega))) ?_
            refine P_det (by rfl) (Over_nil (YD_no (y_lss (by rfl) (by rfl)) dect)) ?_
            refine P_det (by rfl) (Over_nil (by first | exact y_pick_t (c := .bool _) (by rfl) (by rfl) | exact y_pick_f (c := .bool _) (by rfl) (by rfl))) ?_
            refine P_det (by rfl) (Over_nil (y_move (c := .bool _) (by rfl))) ?_
            refine P_det (by rfl) (Over_nil (y_fieldAddr (by rfl) fa30_1)) ?_
            refine P_det (by rfl) (Over_nil (y_load1 (by rfl) Try.isAgg3 (Mem.own1 2 (by rfl) (by rfl)))) ?_
            refine P_det (by rfl) (Over_nil (y_eql (by rfl) (by rfl))) ?_
            refine P_det (by rfl) (Over_nil (y_move (c := .bool _) (by rfl))) ?_
            refine P_split 269 (by rfl) (fun g19_38 => ?_) (fun g19_38 => ?_)
            ·
              try simp only [Bool.not_eq_true', Bool.not_eq_false', decide_eq_true_eq, decide_eq_false_iff_not, ne_eq, Classical.not_not, Int.not_lt, Int.not_le] at g19_38
              refine P_det (by rfl) (Over_nil (y_loadN (by rfl) Try.isAgg30 Try.sizeOf30 (Mem.own (us := [.int .i64 _, .int .i64 _]) 1 (by rfl) (by rfl)) (by rfl))) ?_
              refine P_det (by rfl) (Over_nil (y_move (c := .int .i64 _) (by rfl))) ?_
              refine P_det (by rfl) (Over_nil (y_callL (by rfl) (by rfl) Try.call57 (fun w hw => lpart_any _ _ w))) ?_
              refine P_det (by rfl) (Over_nil (YD_no (y_neqlA (by rfl) (by rfl) neqA30) (by
                                        obtain ⟨w1, w2⟩ := hone g19_38
                                        rw [w1, w2]
                                        simp [ieq_self]))) ?_
              refine P_det (by rfl) (Over_nil (by first | exact y_pick_t (c := .bool _) (by rfl) (by rfl) | exact y_pick_f (c := .bool _) (by rfl) (by rfl))) ?_
              refine P_det (by rfl) (Over_nil (by first | exact y_pick_t (c := .bool _) (by rfl) (by rfl) | exact y_pick_f (c := .bool _) (by rfl) (by rfl))) ?_
              refine PW_end (by rfl) ?_
              refine OverAll_nil ?_
              rintro -
              refine Then_normal ?_
              refine W_cond (by rfl) (fun c19 => ?_) (fun c19 => ?_)
              · cases c19
              ·
                try simp only [Bool.not_eq_true', Bool.not_eq_false', decide_eq_true_eq, decide_eq_false_iff_not, ne_eq, Classical.not_not, Int.not_lt, Int.not_le] at c19
                refine W_skip ?_
                refine Then_normal ?_
                refine W_J1H (γ := Unit) (fun _ => True) [(4, .pointer _), (8, .bool _), (9, .bool _), (12, .int .i64 _), (13, .int .i64 _), (14, .pointer _), (16, .pointer _)] (fun _ => []) slt ?_ ?_
                ·
                  rintro _ e _
                  refine W_seq ?_
                  refine W_draw0 hF Trymixed [27] (by decide +kernel) (fun ds => ?_)
                  refine P_det (by rfl) (Over_nil (y_loadN (by rfl) Try.isAgg24 Try.sizeOf24 (Mem.own (us := [.slice _ _ _, .int .i64 _, .int .i64 _]) 5 (by rfl) (by rfl)) (by rfl))) ?_
                  refine P_det (by rfl) (Over_nil (y_move (c := .int .i64 _) (by rfl))) ?_
                  refine P_det (by rfl) (Over_nil (y_move (c := .int .i64 _) (by rfl))) ?_
                  refine P_det (by rfl) (Over_nil (y_callL (by rfl) (by rfl) Try.call58 (fun w hw => lspan_any _ _ w))) ?_
                  refine P_det (by rfl) (Over_nil (y_callL (by rfl) (by rfl) Try.call17 (fun w hw => Ct_eq (range_any t _ cap lo hi w hn (hx.st w hw)) hR))) ?_
                  refine P_det (by rfl) (Over_nil (y_move (c := .tuple _) (by rfl))) ?_
                  refine P_det (by rfl) (Over_nil (y_extract (c := .agg _) (by rfl) (by rfl))) ?_
                  refine P_det (by rfl) (Over_nil (y_extract (c := .int .i64 _) (by rfl) (by rfl))) ?_
                  apply P_newS _ (by rfl) (by rfl) (by rfl) (Over_nil (y_alloc Try.zeroValue26 (by rfl)))
                  refine P_st 27 0 (by rfl) (by rfl) (by rfl) (by rfl) (by rfl) (Over_nil (st_new (fun _ => by rfl) Try.sizeOf26 (by rfl) (by rfl) (by first | decide | exact Nat.le_of_ble_eq_true rfl | simp))) ?_
                  refine P_det (by rfl) (Over_out (by rfl) (Over_nil (y_assign (c := .int .i64 _) (by rfl)))) ?_
                  refine PW_end (by rfl) ?_
                  refine OverAll_cons (fun w27 l27 => ?_)
                  refine OverAll_nil ?_
                  rintro ⟨-, h27⟩
                  obtain ⟨b14, rfl, rfl⟩ := h27
                  refine Then_normal ?_
                  refine W_seq ?_
                  refine W_draw0 hF Trymixed [] (by decide +kernel) (fun ds => ?_)
                  refine P_det (by rfl) (Over_nil (y_fieldAddr (by rfl) fa30_0)) ?_
                  refine P_det (by rfl) (Over_nil (y_load1 (by rfl) Try.isAgg3 (Mem.own1 5 (by rfl) (by rfl)))) ?_
                  refine P_det (by rfl) (Over_nil (y_fieldAddr (by rfl) fa30_1)) ?_
                  refine P_det (by rfl) (Over_nil (y_load1 (by rfl) Try.isAgg3 (Mem.own1 5 (by rfl) (by rfl)))) ?_
                  refine P_det (by rfl) (Over_nil (y_add (by rfl) (by rfl) (by unfold I64; omega))) ?_
                  refine P_det (by rfl) (Over_nil (y_sub (by rfl) (by rfl) (by unfold I64; omega))) ?_
                  refine P_det (by rfl) (Over_nil (y_fieldAddr (by rfl) fa30_1)) ?_
                  refine P_det (by rfl) (Over_nil (y_load1 (by rfl) Try.isAgg3 (Mem.own1 5 (by rfl) (by rfl)))) ?_
                  refine P_det (by rfl) (Over_nil (YD_eq (y_quo (by rfl) (by rfl) (by omega) (by omega) (by unfold I64; omega)) (congrArg (Value.int _) hup))) ?_
                  refine P_det (by rfl) (Over_nil (y_fieldAddr (by rfl) fa30_0)) ?_
                  refine P_det (by rfl) (Over_nil (y_load1 (by rfl) Try.isAgg3 (Mem.own1 4 (by rfl) (by rfl)))) ?_
                  refine P_det (by rfl) (Over_nil (y_fieldAddr (by rfl) fa30_1)) ?_
                  refine P_det (by rfl) (Over_nil (y_load1 (by rfl) Try.isAgg3 (Mem.own1 4 (by rfl) (by rfl)))) ?_
                  refine P_det (by rfl) (Over_nil (YD_eq (y_quo (by rfl) (by rfl) (by omega) (by omega) (by unfold I64; omega)) (congrArg (Value.int _) hdn))) ?_
                  refine P_det (by rfl) (Over_nil (y_assign (c := .int .i64 _) (by rfl))) ?_
                  refine P_det (by rfl) (Over_nil (y_assign (c := .int .i64 _) (by rfl))) ?_
                  refine PW_end (by rfl) ?_
                  refine OverAll_nil ?_
                  rintro -
                  refine Then_normal ?_
                  refine W_seq ?_
                  refine W_seq ?_
                  refine W_region_lit (fun ds => ?_)
                  refine WS_det hF (by rfl) (y_move (c := .int .i64 _) (by rfl)) ?_
                  refine WS_det hF (by rfl) (y_move (c := .int .i64 _) (by rfl)) ?_
                  refine WS_det hF (by rfl) (y_gtr (by rfl) (by rfl)) ?_
                  refine WS_nil ?_
                  refine Then_normal ?_
                  refine W_cond (by rfl) (fun c27 => ?_) (fun c27 => ?_)
                  ·
                    try simp only [Bool.not_eq_true', Bool.not_eq_false', decide_eq_true_eq, decide_eq_false_iff_not, ne_eq, Classical.not_not, Int.not_lt, Int.not_le] at c27
                    have hR6 := hR6 c27
                    refine W_seq ?_
                    refine W_region_lit (fun ds => ?_)
                    refine WS_det hF (by rfl) (y_move (c := .bool _) (by rfl)) ?_
                    refine WS_det hF (by rfl) (y_move (c := .bool _) (by rfl)) ?_
                    refine WS_det hF (by rfl) (y_move (c := .int .i64 _) (by rfl)) ?_
                    refine WS_det hF (by rfl) (YD_yes (y_eql (by rfl) (by rfl)) dect) ?_
                    refine WS_det hF (by rfl) (by first | exact y_pick_t (c := .bool _) (by rfl) (by rfl) | exact y_pick_f (c := .bool _) (by rfl) (by rfl)) ?_
                    refine WS_det hF (by rfl) (y_assign (c := .bool _) (by rfl)) ?_
                    refine WS_nil ?_
                    refine Then_normal ?_
                    refine W_ret ?_
                    refine Then_ret ?_
                    refine Fin_ret [.bool _] [] Try.results7 ⟨by rfl, trivial⟩ HSub.nil ?_
                    rfl
                  ·
                    try simp only [Bool.not_eq_true', Bool.not_eq_false', decide_eq_true_eq, decide_eq_false_iff_not, ne_eq, Classical.not_not, Int.not_lt, Int.not_le] at c27
                    obtain ⟨hr1, hr2, hr3⟩ := hR0 c27
                    refine W_skip ?_
                    refine Then_normal ?_
                    refine W_seq ?_
                    refine W_draw0 hF Trymixed [] (by decide +kernel) (fun ds => ?_)
                    refine P_det (by rfl) (Over_nil (y_move (c := .bool _) (by rfl))) ?_
                    refine P_det (by rfl) (Over_nil (y_move (c := .bool _) (by rfl))) ?_
                    refine P_det (by rfl) (Over_nil (y_move (c := .int .i64 _) (by rfl))) ?_
                    refine P_det (by rfl) (Over_nil (YD_yes (y_eql (by rfl) (by rfl)) dect)) ?_
                    refine P_det (by rfl) (Over_nil (by first | exact y_pick_t (c := .bool _) (by rfl) (by rfl) | exact y_pick_f (c := .bool _) (by rfl) (by rfl))) ?_
                    refine P_det (by rfl) (Over_nil (y_move (c := .bool _) (by rfl))) ?_
                    refine P_det (by rfl) (Over_nil (y_loadN (by rfl) Try.isAgg26 Try.sizeOf26 (Mem.own (us := [.int .i64 _, .int .i64 _]) 0 (by rfl) (by rfl)) (by rfl))) ?_
                    refine P_det (by rfl) (Over_nil (y_move (c := .int .i64 _) (by rfl))) ?_
                    refine P_det (by rfl) (Over_nil (y_move (c := .int .i64 _) (by rfl))) ?_
                    refine P_det (by rfl) (Over_nil (y_callL (by rfl) (by rfl) Try.call58 (fun w hw => lspan_any _ _ w))) ?_
                    refine P_det (by rfl) (Over_nil (YD_yes (y_eqlA (by rfl) (by rfl) eqA26) (by
                                        rw [hr1, hr2]
                                        simp [ieq_self]))) ?_
                    refine P_det (by rfl) (Over_nil (by first | exact y_pick_t (c := .bool _) (by rfl) (by rfl) | exact y_pick_f (c := .bool _) (by rfl) (by rfl))) ?_
                    refine P_det (by rfl) (Over_nil (y_assign (c := .bool _) (by rfl))) ?_
                    refine PW_end (by rfl) ?_
                    refine OverAll_nil ?_
                    rintro -
                    refine Then_normal ?_
                    refine W_ret ?_
                    refine Fin_ret [.bool _] [] Try.results7 ⟨by rfl, trivial⟩ HSub.nil ?_
                    rfl
                ·
                  intro J25
                  refine W_seq ?_
                  refine W_seq ?_
                  refine W_keep [(4, .pointer _), (8, .bool _), (9, .bool _), (12, .int .i64 _), (13, .int .i64 _), (14, .pointer _), (16, .pointer _)] (by repeat (first | exact trivial | refine ⟨by rfl, ?_⟩)) (fun e => ?_)
                  refine W_region_lit (fun ds => ?_)
                  refine WS_det hF (by rfl) (y_fieldAddr (by rfl) fa30_1) ?_
                  refine WS_det hF (by rfl) (y_load1 (by rfl) Try.isAgg3 (Mem.own1 4 (by rfl) (by rfl))) ?_
                  refine WS_det hF (by rfl) (y_eql (by rfl) (by rfl)) ?_
                  refine WS_nil ?_
                  refine Then_normal ?_
                  refine W_cond (by rfl) (fun c21 => ?_) (fun c21 => ?_)
                  ·
                    try simp only [Bool.not_eq_true', Bool.not_eq_false', decide_eq_true_eq, decide_eq_false_iff_not, ne_eq, Classical.not_not, Int.not_lt, Int.not_le] at c21
                    obtain ⟨i2, yn, yd, h2, hY, rfl, rfl⟩ := hback c21
                    refine W_seq ?_
                    refine W_region_lit (fun ds => ?_)
                    refine WS_det hF (by rfl) (y_loadN (by rfl) Try.isAgg24 Try.sizeOf24 (Mem.own (us := [.slice _ _ _, .int .i64 _, .int .i64 _]) 5 (by rfl) (by rfl)) (by rfl)) ?_
                    refine WS_det hF (by rfl) (y_fieldAddr (by rfl) fa30_0) ?_
                    refine WS_det hF (by rfl) (y_load1 (by rfl) Try.isAgg3 (Mem.own1 4 (by rfl) (by rfl))) ?_
                    refine WS_det hF (by rfl) (y_callL (by rfl) (by rfl) Try.call15 (fun w hw => Ct_eq (eighth_any t _ cap an i2 w hn (hx.st w hw) h2) hY.v)) ?_
                    refine WS_det hF (by rfl) (y_move (c := .tuple _) (by rfl)) ?_
                    refine WS_det hF (by rfl) (y_extract (c := .agg _) (by rfl) (by rfl)) ?_
                    refine WS_det hF (by rfl) (y_extract (c := .int .i64 _) (by rfl) (by rfl)) ?_
                    refine WS_new hF (by rfl) (y_alloc Try.zeroValue30 (by rfl)) (fun b15 => ?_)
                    refine WS_store hF (us := [.int .i64 _, .int .i64 _]) (i := 0) (by rfl) (by rfl) Try.sizeOf30 (by rfl) (by rfl) (by rfl) (by first | decide | exact Nat.le_of_ble_eq_true rfl | simp) ?_
                    refine WS_det hF (by rfl) (y_assign (c := .int .i64 _) (by rfl)) ?_
                    refine WS_nil ?_
                    refine Then_normal ?_
                    refine W_seq ?_
                    refine W_draw0 hF Trymixed [] (by decide +kernel) (fun ds => ?_)
                    refine P_det (by rfl) (Over_nil (y_move (c := .int .i64 _) (by rfl))) ?_
                    refine P_det (by rfl) (Over_nil (YD_no (y_neq (by rfl) (by rfl)) dect)) ?_
                    refine P_det (by rfl) (Over_nil (y_move (c := .bool _) (by rfl))) ?_
                    refine P_det (by rfl) (Over_nil (y_loadN (by rfl) Try.isAgg30 Try.sizeOf30 (Mem.own (us := [.int .i64 _, .int .i64 _]) 0 (by rfl) (by rfl)) (by rfl))) ?_
                    refine P_det (by rfl) (Over_nil (y_move (c := .int .i64 _) (by rfl))) ?_
                    refine P_det (by rfl) (Over_nil (y_callL (by rfl) (by rfl) Try.call57 (fun w hw => lpart_any _ _ w))) ?_
                    refine P_det (by rfl) (Over_nil (YD_no (y_neqlA (by rfl) (by rfl) neqA30) (by
                                        simp [ieq_self]))) ?_
                    refine P_det (by rfl) (Over_nil (by first | exact y_pick_t (c := .bool _) (by rfl) (by rfl) | exact y_pick_f (c := .bool _) (by rfl) (by rfl))) ?_
                    refine PW_end (by rfl) ?_
                    refine OverAll_nil ?_
                    rintro -
                    refine Then_normal ?_
                    refine W_cond (by rfl) (fun c23 => ?_) (fun c23 => ?_)
                    · cases c23
                    ·
                      try simp only [Bool.not_eq_true', Bool.not_eq_false', decide_eq_true_eq, decide_eq_false_iff_not, ne_eq, Classical.not_not, Int.not_lt, Int.not_le] at c23
                      refine W_skip ?_
                      refine Then_normal ?_
                      exact J25 () _ _  trivial slt slt (HSub.sub sbA)
                  ·
                    try simp only [Bool.not_eq_true', Bool.not_eq_false', decide_eq_true_eq, decide_eq_false_iff_not, ne_eq, Classical.not_not, Int.not_lt, Int.not_le] at c21
                    refine W_skip ?_
                    refine Then_normal ?_
                    exact J25 () _ _  trivial slt slt (HSub.sub sbA)
            ·
              try simp only [Bool.not_eq_true', Bool.not_eq_false', decide_eq_true_eq, decide_eq_false_iff_not, ne_eq, Classical.not_not, Int.not_lt, Int.not_le] at g19_38
              refine P_no (by rfl) ?_
              refine P_no (by rfl) ?_
              refine P_no (by rfl) ?_
              refine P_no (by rfl) ?_
              refine P_det (by rfl) (Over_nil (by first | exact y_pick_t (c := .bool _) (by rfl) (by rfl) | exact y_pick_f (c := .bool _) (by rfl) (by rfl))) ?_
              refine P_det (by rfl) (Over_nil (by first | exact y_pick_t (c := .bool _) (by rfl) (by rfl) | exact y_pick_f (c := .bool _) (by rfl) (by rfl))) ?_
              refine PW_end (by rfl) ?_
              refine OverAll_nil ?_
              rintro -
              refine Then_normal ?_
              refine W_cond (by rfl) (fun c19 => ?_) (fun c19 => ?_)
              · cases c19
              ·
                try simp only [Bool.not_eq_true', Bool.not_eq_false', decide_eq_true_eq, decide_eq_false_iff_not, ne_eq, Classical.not_not, Int.not_lt, Int.not_le] at c19
                refine W_skip ?_
                refine Then_normal ?_
                refine W_J1H (γ := Unit) (fun _ => True) [(4, .pointer _), (8, .bool _), (9, .bool _), (12, .int .i64 _), (13, .int .i64 _), (14, .pointer _), (16, .pointer _)] (fun _ => []) slt ?_ ?_
                ·
                  rintro _ e _
                  refine W_seq ?_
                  refine W_draw0 hF Trymixed [27] (by decide +kernel) (fun ds => ?_)
                  refine P_det (by rfl) (Over_nil (y_loadN (by rfl) Try.isAgg24 Try.sizeOf24 (Mem.own (us := [.slice _ _ _, .int .i64 _, .int .i64 _]) 5 (by rfl) (by rfl)) (by rfl))) ?_
                  refine P_det (by rfl) (Over_nil (y_move (c := .int .i64 _) (by rfl))) ?_
                  refine P_det (by rfl) (Over_nil (y_move (c := .int .i64 _) (by rfl))) ?_
                  refine P_det (by rfl) (Over_nil (y_callL (by rfl) (by rfl) Try.call58 (fun w hw => lspan_any _ _ w))) ?_
                  refine P_det (by rfl) (Over_nil (y_callL (by rfl) (by rfl) Try.call17 (fun w hw => Ct_eq (range_any t _ cap lo hi w hn (hx.st w hw)) hR))) ?_
                  refine P_det (by rfl) (Over_nil (y_move (c := .tuple _) (by rfl))) ?_
                  refine P_det (by rfl) (Over_nil (y_extract (c := .agg _) (by rfl) (by rfl))) ?_
                  refine P_det (by rfl) (Over_nil (y_extract (c := .int .i64 _) (by rfl) (by rfl))) ?_
                  apply P_newS _ (by rfl) (by rfl) (by rfl) (Over_nil (y_alloc Try.zeroValue26 (by rfl)))
                  refine P_st 27 0 (by rfl) (by rfl) (by rfl) (by rfl) (by rfl) (Over_nil (st_new (fun _ => by rfl) Try.sizeOf26 (by rfl) (by rfl) (by first | decide | exact Nat.le_of_ble_eq_true rfl | simp))) ?_
                  refine P_det (by rfl) (Over_out (by rfl) (Over_nil (y_assign (c := .int .i64 _) (by rfl)))) ?_
                  refine PW_end (by rfl) ?_
                  refine OverAll_cons (fun w27 l27 => ?_)
                  refine OverAll_nil ?_
                  rintro ⟨-, h27⟩
                  obtain ⟨b16, rfl, rfl⟩ := h27
                  refine Then_normal ?_
                  refine W_seq ?_
                  refine W_draw0 hF Trymixed [] (by decide +kernel) (fun ds => ?_)
                  refine P_det (by rfl) (Over_nil (y_fieldAddr (by rfl) fa30_0)) ?_
                  refine P_det (by rfl) (Over_nil (y_load1 (by rfl) Try.isAgg3 (Mem.own1 5 (by rfl) (by rfl)))) ?_
                  refine P_det (by rfl) (Over_nil (y_fieldAddr (by rfl) fa30_1)) ?_
                  refine P_det (by rfl) (Over_nil (y_load1 (by rfl) Try.isAgg3 (Mem.own1 5 (by rfl) (by rfl)))) ?_
                  refine P_det (by rfl) (Over_nil (y_add (by rfl) (by rfl) (by unfold I64; omega))) ?_
                  refine P_det (by rfl) (Over_nil (y_sub (by rfl) (by rfl) (by unfold I64; omega))) ?_
                  refine P_det (by rfl) (Over_nil (y_fieldAddr (by rfl) fa30_1)) ?_
                  refine P_det (by rfl) (Over_nil (y_load1 (by rfl) Try.isAgg3 (Mem.own1 5 (by rfl) (by rfl)))) ?_
                  refine P_det (by rfl) (Over_nil (YD_eq (y_quo (by rfl) (by rfl) (by omega) (by omega) (by unfold I64; omega)) (congrArg (Value.int _) hup))) ?_
                  refine P_det (by rfl) (Over_nil (y_fieldAddr (by rfl) fa30_0)) ?_
                  refine P_det (by rfl) (Over_nil (y_load1 (by rfl) Try.isAgg3 (Mem.own1 4 (by rfl) (by rfl)))) ?_
                  refine P_det (by rfl) (Over_nil (y_fieldAddr (by rfl) fa30_1)) ?_
                  refine P_det (by rfl) (Over_nil (y_load1 (by rfl) Try.isAgg3 (Mem.own1 4 (by rfl) (by rfl)))) ?_
                  refine P_det (by rfl) (Over_nil (YD_eq (y_quo (by rfl) (by rfl) (by omega) (by omega) (by unfold I64; omega)) (congrArg (Value.int _) hdn))) ?_
                  refine P_det (by rfl) (Over_nil (y_assign (c := .int .i64 _) (by rfl))) ?_
                  refine P_det (by rfl) (Over_nil (y_assign (c := .int .i64 _) (by rfl))) ?_
                  refine PW_end (by rfl) ?_
                  refine OverAll_nil ?_
                  rintro -
                  refine Then_normal ?_
                  refine W_seq ?_
                  refine W_seq ?_
                  refine W_region_lit (fun ds => ?_)
                  refine WS_det hF (by rfl) (y_move (c := .int .i64 _) (by rfl)) ?_
                  refine WS_det hF (by rfl) (y_move (c := .int .i64 _) (by rfl)) ?_
                  refine WS_det hF (by rfl) (y_gtr (by rfl) (by rfl)) ?_
                  refine WS_nil ?_
                  refine Then_normal ?_
                  refine W_cond (by rfl) (fun c27 => ?_) (fun c27 => ?_)
                  ·
                    try simp only [Bool.not_eq_true', Bool.not_eq_false', decide_eq_true_eq, decide_eq_false_iff_not, ne_eq, Classical.not_not, Int.not_lt, Int.not_le] at c27
                    have hR6 := hR6 c27
                    refine W_seq ?_
                    refine W_region_lit (fun ds => ?_)
                    refine WS_det hF (by rfl) (y_move (c := .bool _) (by rfl)) ?_
                    refine WS_det hF (by rfl) (y_move (c := .bool _) (by rfl)) ?_
                    refine WS_det hF (by rfl) (y_move (c := .int .i64 _) (by rfl)) ?_
                    refine WS_det hF (by rfl) (YD_yes (y_eql (by rfl) (by rfl)) dect) ?_
                    refine WS_det hF (by rfl) (by first | exact y_pick_t (c := .bool _) (by rfl) (by rfl) | exact y_pick_f (c := .bool _) (by rfl) (by rfl)) ?_
                    refine WS_det hF (by rfl) (y_assign (c := .bool _) (by rfl)) ?_
                    refine WS_nil ?_
                    refine Then_normal ?_
                    refine W_ret ?_
                    refine Then_ret ?_
                    refine Fin_ret [.bool _] [] Try.results7 ⟨by rfl, trivial⟩ HSub.nil ?_
                    rfl
                  ·
                    try simp only [Bool.not_eq_true', Bool.not_eq_false', decide_eq_true_eq, decide_eq_false_iff_not, ne_eq, Classical.not_not, Int.not_lt, Int.not_le] at c27
                    obtain ⟨hr1, hr2, hr3⟩ := hR0 c27
                    refine W_skip ?_
                    refine Then_normal ?_
                    refine W_seq ?_
                    refine W_draw0 hF Trymixed [] (by decide +kernel) (fun ds => ?_)
                    refine P_det (by rfl) (Over_nil (y_move (c := .bool _) (by rfl))) ?_
                    refine P_det (by rfl) (Over_nil (y_move (c := .bool _) (by rfl))) ?_
                    refine P_det (by rfl) (Over_nil (y_move (c := .int .i64 _) (by rfl))) ?_
                    refine P_det (by rfl) (Over_nil (YD_yes (y_eql (by rfl) (by rfl)) dect)) ?_
                    refine P_det (by rfl) (Over_nil (by first | exact y_pick_t (c := .bool _) (by rfl) (by rfl) | exact y_pick_f (c := .bool _) (by rfl) (by rfl))) ?_
                    refine P_det (by rfl) (Over_nil (y_move (c := .bool _) (by rfl))) ?_
                    refine P_det (by rfl) (Over_nil (y_loadN (by rfl) Try.isAgg26 Try.sizeOf26 (Mem.own (us := [.int .i64 _, .int .i64 _]) 0 (by rfl) (by rfl)) (by rfl))) ?_
                    refine P_det (by rfl) (Over_nil (y_move (c := .int .i64 _) (by rfl))) ?_
                    refine P_det (by rfl) (Over_nil (y_move (c := .int .i64 _) (by rfl))) ?_
                    refine P_det (by rfl) (Over_nil (y_callL (by rfl) (by rfl) Try.call58 (fun w hw => lspan_any _ _ w))) ?_
                    refine P_det (by rfl) (Over_nil (YD_yes (y_eqlA (by rfl) (by rfl) eqA26) (by
                                        rw [hr1, hr2]
                                        simp [ieq_self]))) ?_
                    refine P_det (by rfl) (Over_nil (by first | exact y_pick_t (c := .bool _) (by rfl) (by rfl) | exact y_pick_f (c := .bool _) (by rfl) (by rfl))) ?_
                    refine P_det (by rfl) (Over_nil (y_assign (c := .bool _) (by rfl))) ?_
                    refine PW_end (by rfl) ?_
                    refine OverAll_nil ?_
                    rintro -
                    refine Then_normal ?_
                    refine W_ret ?_
                    refine Fin_ret [.bool _] [] Try.results7 ⟨by rfl, trivial⟩ HSub.nil ?_
                    rfl
                ·
                  intro J25
                  refine W_seq ?_
                  refine W_seq ?_
                  refine W_keep [(4, .pointer _), (8, .bool _), (9, .bool _), (12, .int .i64 _), (13, .int .i64 _), (14, .pointer _), (16, .pointer _)] (by repeat (first | exact trivial | refine ⟨by rfl, ?_⟩)) (fun e => ?_)
                  refine W_region_lit (fun ds => ?_)
                  refine WS_det hF (by rfl) (y_fieldAddr (by rfl) fa30_1) ?_
                  refine WS_det hF (by rfl) (y_load1 (by rfl) Try.isAgg3 (Mem.own1 4 (by rfl) (by rfl))) ?_
                  refine WS_det hF (by rfl) (y_eql (by rfl) (by rfl)) ?_
                  refine WS_nil ?_
                  refine Then_normal ?_
                  refine W_cond (by rfl) (fun c21 => ?_) (fun c21 => ?_)
                  ·
                    try simp only [Bool.not_eq_true', Bool.not_eq_false', decide_eq_true_eq, decide_eq_false_iff_not, ne_eq, Classical.not_not, Int.not_lt, Int.not_le] at c21
                    obtain ⟨i2, yn, yd, h2, hY, rfl, rfl⟩ := hback c21
                    refine W_seq ?_
                    refine W_region_lit (fun ds => ?_)
                    refine WS_det hF (by rfl) (y_loadN (by rfl) Try.isAgg24 Try.sizeOf24 (Mem.own (us := [.slice _ _ _, .int .i64 _, .int .i64 _]) 5 (by rfl) (by rfl)) (by rfl)) ?_
                    refine WS_det hF (by rfl) (y_fieldAddr (by rfl) fa30_0) ?_
                    refine WS_det hF (by rfl) (y_load1 (by rfl) Try.isAgg3 (Mem.own1 4 (by rfl) (by rfl))) ?_
                    refine WS_det hF (by rfl) (y_callL (by rfl) (by rfl) Try.call15 (fun w hw => Ct_eq (eighth_any t _ cap an i2 w hn (hx.st w hw) h2) hY.v)) ?_
                    refine WS_det hF (by rfl) (y_move (c := .tuple _) (by rfl)) ?_
                    refine WS_det hF (by rfl) (y_extract (c := .agg _) (by rfl) (by rfl)) ?_
                    refine WS_det hF (by rfl) (y_extract (c := .int .i64 _) (by rfl) (by rfl)) ?_
                    refine WS_new hF (by rfl) (y_alloc Try.zeroValue30 (by rfl)) (fun b17 => ?_)
                    refine WS_store hF (us := [.int .i64 _, .int .i64 _]) (i := 0) (by rfl) (by rfl) Try.sizeOf30 (by rfl) (by rfl) (by rfl) (by first | decide | exact Nat.le_of_ble_eq_true rfl | simp) ?_
                    refine WS_det hF (by rfl) (y_assign (c := .int .i64 _) (by rfl)) ?_
                    refine WS_nil ?_
                    refine Then_normal ?_
                    refine W_seq ?_
                    refine W_draw0 hF Trymixed [] (by decide +kernel) (fun ds => ?_)
                    refine P_det (by rfl) (Over_nil (y_move (c := .int .i64 _) (by rfl))) ?_
                    refine P_det (by rfl) (Over_nil (YD_no (y_neq (by rfl) (by rfl)) dect)) ?_
                    refine P_det (by rfl) (Over_nil (y_move (c := .bool _) (by rfl))) ?_
                    refine P_det (by rfl) (Over_nil (y_loadN (by rfl) Try.isAgg30 Try.sizeOf30 (Mem.own (us := [.int .i64 _, .int .i64 _]) 0 (by rfl) (by rfl)) (by rfl))) ?_
                    refine P_det (by rfl) (Over_nil (y_move (c := .int .i64 _) (by rfl))) ?_
                    refine P_det (by rfl) (Over_nil (y_callL (by rfl) (by rfl) Try.call57 (fun w hw => lpart_any _ _ w))) ?_
                    refine P_det (by rfl) (Over_nil (YD_no (y_neqlA (by rfl) (by rfl) neqA30) (by
                                        simp [ieq_self]))) ?_
                    refine P_det (by rfl) (Over_nil (by first | exact y_pick_t (c := .bool _) (by rfl) (by rfl) | exact y_pick_f (c := .bool _) (by rfl) (by rfl))) ?_
                    refine PW_end (by rfl) ?_
                    refine OverAll_nil ?_
                    rintro -
                    refine Then_normal ?_
                    refine W_cond (by rfl) (fun c23 => ?_) (fun c23 => ?_)
                    · cases c23
                    ·
                      try simp only [Bool.not_eq_true', Bool.not_eq_false', decide_eq_true_eq, decide_eq_false_iff_not, ne_eq, Classical.not_not, Int.not_lt, Int.not_le] at c23
                      refine W_skip ?_
                      refine Then_normal ?_
                      exact J25 () _ _  trivial slt slt (HSub.sub sbA)
                  ·
                    try simp only [Bool.not_eq_true', Bool.not_eq_false', decide_eq_true_eq, decide_eq_false_iff_not, ne_eq, Classical.not_not, Int.not_lt, Int.not_le] at c21
                    refine W_skip ?_
                    refine Then_normal ?_
                    exact J25 () _ _  trivial slt slt (HSub.sub sbA)
theorem tankTable_any (t : Tk) (a : Option Addr) (cap : Nat) (p1 p2 p3 : Int) (w : World) (hx : Ints w a t.n cap t.pints) (h1 : 0 ≤ p1) (h1' : p1 ≤ 255) (h2 : 0 ≤ p2) (h2' : p2 ≤ 255) (h3 : 0 ≤ p3) (h3' : p3 ≤ 65535) :
    Ct Try.prog 7 #[.agg #[.slice a t.n cap, .int .i64 t.leak, .int .i64 t.foot], .int .u8 p1, .int .u8 p2, .int .u16 p3] w fun v _ => v = .bool true := by
  by_cases hg : t.n > 40
  · exact tankTable_great t a cap p1 p2 p3 w hx hg
  · cases hb : t.okB with
    | false => exact tankTable_no t a cap p1 p2 p3 w hx (by omega) hb
    | true => exact tankTable_ok t a cap p1 p2 p3 w hx (by omega) hb ⟨h1, h1'⟩ ⟨h2, h2'⟩ ⟨h3, h3'⟩
end Go.Proofs.Ythkimgfgpphgnaa.T

namespace Go.Proofs.Ythkimgfgpphgnaa
open Go.RowKit Go.Proofs Go.Eng Go.ChangeShapes Go.WideShapes Go.ChangeAt Go.Joins T
set_option maxRecDepth 100000
set_option linter.unusedVariables false

theorem walkTankTable (v0 v1 v2 v3 : Value) (W : World) (h0 : ∃ (t0 : Tk) (a0 : Option Addr) (cap0 : Nat), v0 = .agg #[.slice a0 t0.n cap0, .int .i64 t0.leak, .int .i64 t0.foot] ∧ Ints W a0 t0.n cap0 t0.pints) (h1 : ∃ n1 : Int, v1 = .int .u8 n1 ∧ 0 ≤ n1 ∧ n1 ≤ 255) (h2 : ∃ n2 : Int, v2 = .int .u8 n2 ∧ 0 ≤ n2 ∧ n2 ≤ 255) (h3 : ∃ n3 : Int, v3 = .int .u16 n3 ∧ 0 ≤ n3 ∧ n3 ≤ 65535) :
    Calls Try.prog 7 #[v0, v1, v2, v3] W fun e W' => e = .returned (.bool true) ∧ Below W.heap.size W W' := by
  obtain ⟨t0, a0, cap0, rfl, hx0⟩ := h0
  obtain ⟨n1, rfl, hn1, hm1⟩ := h1
  obtain ⟨n2, rfl, hn2, hm2⟩ := h2
  obtain ⟨n3, rfl, hn3, hm3⟩ := h3
  refine Calls.mono (tankTable_any t0 a0 cap0 n1 n2 n3 W hx0 hn1 hm1 hn2 hm2 hn3 hm3) ?_
  rintro e W' ⟨v, rfl, Hn, hb, _, rfl⟩
  exact ⟨rfl, hb⟩

theorem liftTankTable (os : Os) (started : os.Started) (H : Type) (enc : TypeId × Value → H) :
    ReturnsInHanded {} Try.checked os 7 .any (Rows.tankTableSpec.pre6 enc Try.prog Try.f7 Rows.tankTableRow.domain false) (Rows.tankTableSpec.post enc Try.prog Try.f7 false true false false) := by
  refine returnsInHanded_of_change (C := Try.checked) own started (by kernel_rfl) Try.func7
    (ChangeSpec.witness6 (enc := enc) (C := Try.checked) false ⟨#[], #[.agg #[.slice none 0 0, .int .i64 0, .int .i64 0], .int .u8 0, .int .u8 0, .int .u16 0], []⟩ 8 (by kernel_rfl) (by kernel_rfl) (by kernel_rfl) (by kernel_rfl)) ?_
  intro W base args ds gs before hval0 hW hcnd _
  have hval : ∀ (j : Nat) t v, Try.f7.params[j]? = some t → args[j]? = some v → Value.okWide Try.prog W .any base t v := hval0
  have hW' := hW
  obtain ⟨p, q, hA0, hV, rfl, hfz, hnd⟩ := hW
  have hA : DataW.TrodAll enc Try.prog W 0 (fun _ => true) true Try.f7.params.toList args.toList ds p := hA0
  rw [Try.params7] at hA hval
  obtain ⟨v0, vs0, d0, ds0, p0, q0, hargs, rfl, rfl, h0, r0⟩ := trodAll_cons hA
  obtain ⟨v1, vs1, d1, ds1, p1, q1, rfl, rfl, rfl, h1, r1⟩ := trodAll_cons r0
  obtain ⟨v2, vs2, d2, ds2, p2, q2, rfl, rfl, rfl, h2, r2⟩ := trodAll_cons r1
  obtain ⟨v3, vs3, d3, ds3, p3, q3, rfl, rfl, rfl, h3, r3⟩ := trodAll_cons r2
  obtain ⟨rfl, rfl, rfl⟩ := trodAll_nil r3
  obtain rfl : args = #[v0, v1, v2, v3] := by cases args; simp_all
  obtain ⟨rfl, rfl⟩ := trodVars_none hV
  have lt0 : ∀ x ∈ p0, x.block < W.heap.size := by obtain ⟨m, hm⟩ := h0; exact DataW.trod_lt m _ _ _ hm
  have lt1 : ∀ x ∈ p1, x.block < W.heap.size := by obtain ⟨m, hm⟩ := h1; exact DataW.trod_lt m _ _ _ hm
  have lt2 : ∀ x ∈ p2, x.block < W.heap.size := by obtain ⟨m, hm⟩ := h2; exact DataW.trod_lt m _ _ _ hm
  have lt3 : ∀ x ∈ p3, x.block < W.heap.size := by obtain ⟨m, hm⟩ := h3; exact DataW.trod_lt m _ _ _ hm
  have o0 : ∃ (t0 : Tk) (a0 : Option Addr) (cap0 : Nat), v0 = .agg #[.slice a0 t0.n cap0, .int .i64 t0.leak, .int .i64 t0.foot] ∧ Ints W a0 t0.n cap0 t0.pints := open_tank (hval 0 _ v0 rfl rfl) h0 (fun _ => rfl)
  have o1 : ∃ n1 : Int, v1 = .int .u8 n1 ∧ 0 ≤ n1 ∧ n1 ≤ 255 := open_u8 Try.underlying5 (hval 1 _ v1 rfl rfl) h1
  have o2 : ∃ n2 : Int, v2 = .int .u8 n2 ∧ 0 ≤ n2 ∧ n2 ≤ 255 := open_u8 Try.underlying5 (hval 2 _ v2 rfl rfl) h2
  have o3 : ∃ n3 : Int, v3 = .int .u16 n3 ∧ 0 ≤ n3 ∧ n3 ≤ 65535 := open_u16 Try.underlying83 (hval 3 _ v3 rfl rfl) h3
  clear hA0 hval0
  refine (walkTankTable v0 v1 v2 v3 W o0 o1 o2 o3).mono fun e W' ⟨he, bel⟩ => ?_
  subst he
  exact ⟨_, rfl, _, _, _, [], _, [], hW', trodAll_mk1 (shut_bool Try.underlying4 _),
    (trodAll_cons_mk (Below.trod laidOut (by kernel_rfl) (of_decide_eq_true (by kernel_rfl)) h0 bel lt0) (trodAll_cons_mk (Below.trod laidOut (by kernel_rfl) (of_decide_eq_true (by kernel_rfl)) h1 bel lt1) (trodAll_cons_mk (Below.trod laidOut (by kernel_rfl) (of_decide_eq_true (by kernel_rfl)) h2 bel lt2) (trodAll_cons_mk (Below.trod laidOut (by kernel_rfl) (of_decide_eq_true (by kernel_rfl)) h3 bel lt3) trodAll_mk0)))), rfl, bel.frame _, fun h => by cases h⟩

theorem tankTable : Rows.TankTableSaid :=
  OpenClaim.holds_of_wide 7 Try.f7 rfl rfl rfl rfl rfl rfl rfl ⟨rfl, rfl, rfl, rfl, rfl⟩ rfl rfl rfl rfl rfl (by kernel_rfl) Try.func7 (by kernel_rfl)
    (of_decide_eq_true (by kernel_rfl)) (by unfold Func.isWrapper; first | (rw [if_pos (by decide +kernel)]; kernel_rfl) | (rw [if_neg (by decide +kernel)]; exact ⟨rfl, rfl⟩))
    (fun os started H enc _ => liftTankTable os started H enc)
end Go.Proofs.Ythkimgfgpphgnaa
