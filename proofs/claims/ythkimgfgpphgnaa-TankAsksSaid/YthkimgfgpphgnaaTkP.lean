/- Pure facts about tanks. -/
import Derived.Test.YthkimgfgpphgnaaEng8
namespace Go.Proofs.Ythkimgfgpphgnaa.T
open Go.RowKit Go.Eng

/-- A slice of ints that reads as a list. -/
structure Ints (w : World) (a : Option Addr) (n cap : Nat) (xs : List Int) : Prop where
  len : xs.length = n
  le : n ≤ cap
  cell : ∀ k, k < n → ∃ b o, a = some ⟨b, o, none⟩ ∧ At w b (o + k * 1) [.int .i64 (xs.getD k 0)]

theorem Ints.below {w w' : World} {a : Option Addr} {n cap : Nat} {xs : List Int} (h : Ints w a n cap xs) (hb : Below w.heap.size w w') : Ints w' a n cap xs :=
  ⟨h.len, h.le, fun k hk => by obtain ⟨b, o, h1, h2⟩ := h.cell k hk; exact ⟨b, o, h1, At.old hb h2⟩⟩
theorem Ints.st {C : Ctx} {H : List Blk} {a : Option Addr} {n cap : Nat} {xs : List Int} (h : Ints C.w0 a n cap xs) (w : World) (hw : St C H w) : Ints w a n cap xs := h.below hw.1
theorem Ints.at {w : World} {b o n cap : Nat} {xs : List Int} (h : Ints w (some ⟨b, o, none⟩) n cap xs) {k : Nat} (hk : k < n) : At w b (o + k * 1) [.int .i64 (xs.getD k 0)] := by
  obtain ⟨b', o', h1, h2⟩ := h.cell k hk
  simp only [Option.some.injEq, Addr.mk.injEq] at h1
  obtain ⟨rfl, rfl, _⟩ := h1
  exact h2
theorem Ints.adr {w : World} {a : Option Addr} {n cap : Nat} {xs : List Int} (h : Ints w a n cap xs) (hn : 0 < n) : ∃ b o, a = some ⟨b, o, none⟩ := by
  obtain ⟨b, o, h1, _⟩ := h.cell 0 hn
  exact ⟨b, o, h1⟩
theorem Ints.mem {C : Ctx} {H : List Blk} {b n cap T : Nat} {xs : List Int} {rest : List Value} (i : Nat) (hi : H[i]? = some (b, CB (xs.map (Value.int .i64) ++ rest) T)) (hn : xs.length = n) (hc : n ≤ cap) (w : World) (hw : St C H w) :
    Ints w (some ⟨b, 0, none⟩) n cap xs := by
  refine ⟨hn, hc, fun k hk => ⟨b, 0, rfl, ?_⟩⟩
  have hb := hw.get hi
  refine at_block (rest := (xs.map (Value.int .i64) ++ rest).drop (k + 1)) hb ?_
  have hlt : k < (xs.map (Value.int .i64) ++ rest).length := by simp; omega
  rw [show 0 + k * 1 = k by omega, List.drop_eq_getElem_cons hlt]
  simp [hn, hk, List.getD_eq_getElem?_getD]
theorem Ints.one {C : Ctx} {H : List Blk} {b T : Nat} {x : Int} (i : Nat) (hi : H[i]? = some (b, CB [.int .i64 x] T)) (w : World) (hw : St C H w) : Ints w (some ⟨b, 0, none⟩) 1 1 [x] := Ints.mem (xs := [x]) (rest := []) i hi rfl (Nat.le_refl _) w hw
theorem Ints.two {C : Ctx} {H : List Blk} {b T : Nat} {x y : Int} (i : Nat) (hi : H[i]? = some (b, CB [.int .i64 x, .int .i64 y] T)) (w : World) (hw : St C H w) : Ints w (some ⟨b, 0, none⟩) 2 2 [x, y] := Ints.mem (xs := [x, y]) (rest := []) i hi rfl (Nat.le_refl _) w hw
theorem Ints.nil (w : World) (a : Option Addr) (cap : Nat) : Ints w a 0 cap [] := ⟨rfl, Nat.zero_le _, fun k hk => by omega⟩
theorem Ints.drop {w : World} {a : Option Addr} {n cap l : Nat} {xs : List Int} (h : Ints w a n cap xs) (hl : l < n) : Ints w (shiftA a l 1 cap) (n - l) (cap - l) (xs.drop l) := by
  have hle := h.le
  have hlen := h.len
  refine ⟨by simp [h.len], by omega, fun k hk => ?_⟩
  obtain ⟨b, o, rfl⟩ := h.adr (by omega)
  have h2 := h.at (k := l + k) (by omega)
  have h3 : (⟨b, o, none⟩ : Addr).add (l * 1) = ⟨b, o + l, none⟩ := by unfold Addr.add; split <;> simp_all
  refine ⟨b, o + l, by unfold shiftA; rw [if_neg (by omega)]; simp only [Option.map_some, h3], ?_⟩
  rw [show o + l + k * 1 = o + (l + k) * 1 by omega]
  rw [show (xs.drop l).getD k 0 = xs.getD (l + k) 0 by simp [List.getD_eq_getElem?_getD]]
  exact h2

def outB (lo hi n : Int) : Bool := decide (n < lo) || decide (hi < n)
def inB (lo hi : Int) (xs : List Int) : Bool := xs.all fun n => !outB lo hi n
def firstOut (lo hi : Int) : List Int → Nat → Int
  | [], _ => -1
  | x :: l, k => if outB lo hi x then (k : Int) else firstOut lo hi l (k + 1)
theorem firstOut_step {lo hi : Int} {xs : List Int} {k : Nat} (h : k < xs.length) :
    firstOut lo hi (xs.drop k) k = if outB lo hi (xs.getD k 0) then (k : Int) else firstOut lo hi (xs.drop (k + 1)) (k + 1) := by
  rw [List.drop_eq_getElem_cons h]; simp [firstOut, h, List.getD_eq_getElem?_getD]
theorem firstOut_lt {lo hi : Int} : ∀ {xs : List Int} {k : Nat}, decide (0 ≤ firstOut lo hi xs k) = xs.any (outB lo hi)
  | [], _ => by simp [firstOut]
  | x :: l, k => by
    have ih := firstOut_lt (lo := lo) (hi := hi) (xs := l) (k := k + 1)
    unfold firstOut
    cases hx : outB lo hi x
    · simp only [Bool.false_eq_true, if_false, List.any_cons, hx, Bool.false_or, ih]
    · simp [hx]
theorem inB_any {lo hi : Int} {xs : List Int} : inB lo hi xs = !xs.any (outB lo hi) := by
  unfold inB; induction xs with
  | nil => rfl
  | cons x l ih => simp only [List.all_cons, List.any_cons, ih, Bool.not_or]
theorem outB_iff {lo hi n : Int} : outB lo hi n = false ↔ lo ≤ n ∧ n ≤ hi := by unfold outB; simp
theorem inB1 {lo hi n : Int} : inB lo hi [n] = true ↔ lo ≤ n ∧ n ≤ hi := by unfold inB; simp [outB_iff]
theorem inB2 {lo hi m n : Int} : inB lo hi [m, n] = true ↔ (lo ≤ m ∧ m ≤ hi) ∧ lo ≤ n ∧ n ≤ hi := by unfold inB; simp [outB_iff]
theorem inB1f {lo hi n : Int} : inB lo hi [n] = false ↔ ¬ (lo ≤ n ∧ n ≤ hi) := by rw [← inB1]; simp

/-! ### Tanks -/
structure Tk where
  pints : List Int
  leak : Int
  foot : Int
def Tk.n (t : Tk) : Nat := t.pints.length
def Tk.p (t : Tk) (k : Nat) : Int := t.pints.getD k 0
def Tk.full (t : Tk) : Int := t.p (t.n - 1)
def Tk.height (t : Tk) : Int := 8 * ((t.n : Int) - 1)
def Tk.incB (t : Tk) (m : Nat) : Bool := (List.range m).all fun k => inB (t.p k + 1) 600 [t.p (k + 1)]
def Tk.okB (t : Tk) : Bool := inB 2 21 [(t.n : Int)] && decide (t.p 0 = 0) && inB 0 50 [t.leak] && t.incB (t.n - 1) && inB 0 t.height [t.foot]
theorem Tk.incB_succ (t : Tk) (m : Nat) : t.incB (m + 1) = (t.incB m && inB (t.p m + 1) 600 [t.p (m + 1)]) := by
  unfold Tk.incB; rw [List.range_succ, List.all_append]; simp
theorem Tk.incB_false {t : Tk} {k m : Nat} (h : k < m) (hk : inB (t.p k + 1) 600 [t.p (k + 1)] = false) : t.incB m = false := by
  unfold Tk.incB
  refine List.all_eq_false.2 ⟨k, List.mem_range.2 h, by simp [hk]⟩
structure Tk.Ok (t : Tk) : Prop where
  n2 : 2 ≤ t.n
  n21 : t.n ≤ 21
  p0 : t.p 0 = 0
  leak0 : 0 ≤ t.leak
  leak1 : t.leak ≤ 50
  inc : ∀ k, k + 1 < t.n → t.p k + 1 ≤ t.p (k + 1) ∧ t.p (k + 1) ≤ 600
  foot0 : 0 ≤ t.foot
  foot1 : t.foot ≤ t.height
theorem Tk.ok_iff {t : Tk} : t.okB = true ↔ t.Ok := by
  unfold Tk.okB Tk.incB
  simp only [Bool.and_eq_true, inB1, decide_eq_true_eq, List.all_eq_true, List.mem_range]
  constructor
  · rintro ⟨⟨⟨⟨⟨h1, h2⟩, h3⟩, h4, h5⟩, h6⟩, h7, h8⟩
    exact ⟨by omega, by omega, h3, h4, h5, fun k hk => h6 k (by omega), h7, h8⟩
  · intro h
    have := h.n2
    have := h.n21
    exact ⟨⟨⟨⟨⟨by omega, by omega⟩, h.p0⟩, h.leak0, h.leak1⟩, fun k hk => h.inc k (by omega)⟩, h.foot0, h.foot1⟩
theorem Tk.Ok.bd {t : Tk} (h : t.Ok) : ∀ k, k < t.n → 0 ≤ t.p k ∧ t.p k ≤ 600
  | 0, _ => by rw [h.p0]; omega
  | k + 1, hk => by
    have := h.inc k hk
    have := Tk.Ok.bd h k (by omega)
    omega
theorem Tk.Ok.mono {t : Tk} (h : t.Ok) {j : Nat} : ∀ {k : Nat}, j < k → k < t.n → t.p j < t.p k
  | 0, hj, _ => by omega
  | k + 1, hj, hk => by
    have h1 := h.inc k hk
    by_cases hjk : j = k
    · subst hjk; omega
    · have := Tk.Ok.mono h (j := j) (k := k) (by omega) (by omega); omega
theorem Tk.Ok.le_full {t : Tk} (h : t.Ok) {k : Nat} (hk : k < t.n) : t.p k ≤ t.full := by
  unfold Tk.full
  by_cases hkn : k = t.n - 1
  · rw [hkn]; omega
  · have := h.mono (j := k) (k := t.n - 1) (by omega) (by omega); omega

/-- Eight times what it holds at an eighth. -/
def Tk.seg (t : Tk) (x : Int) : Nat := (min (x / 8) ((t.n : Int) - 2)).toNat
def Tk.eight (t : Tk) (x : Int) : Int := 8 * t.p (t.seg x) + (x - 8 * (t.seg x : Int)) * (t.p (t.seg x + 1) - t.p (t.seg x))
def Tk.up (t : Tk) (x : Int) : Int := (t.eight x + 7) / 8
def Tk.down (t : Tk) (x : Int) : Int := t.eight x / 8
theorem mul_bd {a b A B : Int} (h0 : 0 ≤ a) (h1 : a ≤ A) (h2 : 0 ≤ b) (h3 : b ≤ B) : 0 ≤ a * b ∧ a * b ≤ A * B :=
  ⟨Int.mul_nonneg h0 h2, Int.mul_le_mul h1 h3 h2 (by omega)⟩
theorem Tk.Ok.seg {t : Tk} (h : t.Ok) {x : Int} (h0 : 0 ≤ x) (h1 : x ≤ t.height) : min (x / 8) ((t.n : Int) - 2) = (t.seg x : Int) ∧ t.seg x + 1 < t.n ∧ 0 ≤ x - 8 * (t.seg x : Int) ∧ x - 8 * (t.seg x : Int) ≤ 8 := by
  have := h.n2
  unfold Tk.height at h1
  unfold Tk.seg
  omega
theorem Tk.Ok.eight_bd {t : Tk} (h : t.Ok) {x : Int} (h0 : 0 ≤ x) (h1 : x ≤ t.height) : 0 ≤ t.eight x ∧ t.eight x ≤ 8 * t.full := by
  obtain ⟨_, h3, h4, h5⟩ := h.seg h0 h1
  have h6 := h.inc _ h3
  have h7 := h.bd (t.seg x) (by omega)
  have h8 := h.le_full h3
  unfold Tk.eight
  generalize t.seg x = k at *
  generalize ht : t.p (k + 1) - t.p k = dd at *
  have hb := mul_bd h4 h5 (show 0 ≤ dd by omega) (Int.le_refl dd)
  omega
theorem Tk.Ok.full_bd {t : Tk} (h : t.Ok) : 0 ≤ t.full ∧ t.full ≤ 600 := by
  have := h.n2
  exact h.bd (t.n - 1) (by omega)
end Go.Proofs.Ythkimgfgpphgnaa.T
