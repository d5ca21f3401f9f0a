/- Sorting numbers, and striking those that follow an equal one: the library's contracts over this program. -/
import Derived.Test.YtjekjehgmljbgaaDoorMb3
import Derived.Lib.SlicesCompact
import Derived.Shelf.SortG.Plain
import Derived.Shelf.SlicesG.CompactI
set_option linter.unusedVariables false
set_option linter.unusedSimpArgs false
/- What is wanted, and the fewest pourings for it; pure. -/
namespace Go.Proofs.YtjekjehgmljbgaaDoor.T
open Go.RowKit Go.Proofs Go.Eng
set_option linter.unusedVariables false

/-- What is wanted: of some can, of all cans together, or of each one. -/
def Cn.someP (c : Cn) (n : Int) (x : Co) : Bool := decide (n ∈ (c.of x).inn)
def totP (n : Int) (x : Co) : Bool := decide (x.b + x.c + x.d = n)
def Cn.bothP (c : Cn) (want : List Int) (x : Co) : Bool := (List.range want.length).all fun k => decide (want.getD k 0 < 0 ∨ (c.of x).i k = want.getD k 0)
/-- The fewest pourings. -/
def Cn.IsFew (c : Cn) (p : Co → Bool) (w : Wy) : Prop := (∃ k, p k = true ∧ c.Best w k) ∧ ∀ k v, p k = true → c.Best v k → v.lt w = false
open Classical in
noncomputable def Cn.few (c : Cn) (p : Co → Bool) : Option Wy := if h : ∃ w, c.IsFew p w then some h.choose else none
theorem Cn.IsFew.uniq {c : Cn} {p : Co → Bool} {w v : Wy} (h : c.IsFew p w) (h' : c.IsFew p v) : w = v := by
  obtain ⟨⟨k, h1, h2⟩, h3⟩ := h
  obtain ⟨⟨k', h1', h2'⟩, h3'⟩ := h'
  exact Wy.tot (h3' k w h1 h2) (h3 k' v h1' h2')
theorem Cn.few_some {c : Cn} {p : Co → Bool} {w : Wy} (h : c.IsFew p w) : c.few p = some w := by
  unfold Cn.few
  have hx : ∃ w, c.IsFew p w := ⟨w, h⟩
  rw [dif_pos hx, hx.choose_spec.uniq h]
theorem Cn.few_none {c : Cn} {p : Co → Bool} (h : ∀ k v, p k = true → ¬ c.Best v k) : c.few p = none := by
  unfold Cn.few
  rw [dif_neg]
  rintro ⟨w, ⟨k, h1, h2⟩, _⟩
  exact h k w h1 h2
def fewL (o : Option Wy) : List Po := match o with | some w => w.l | none => []
def fewB (o : Option Wy) : Int := match o with | some w => w.back | none => 0
def fewE (o : Option Wy) : Int := match o with | some _ => 0 | none => 6
theorem FewV.yes' {c : Cn} {p : Co → Bool} {HX : List Blk} {x : Wl} {b : Bool} (h : FewV c p HX x b) (hb : b = true) : c.few p = some x.w := Cn.few_some (h.yes hb)
/-- A list of pourings in new memory. -/
def TwinP (l : List Po) (v : Value) (Hn : List Blk) : Prop := ∃ a k, v = .slice a l.length k ∧ ∀ (C : Ctx) (H : List Blk) (w : World), Hn.Sublist H → St C H w → Pos w a l.length k l
theorem TwinP.nil (Hn : List Blk) : TwinP [] (.slice none 0 0) Hn := ⟨none, 0, rfl, fun C H w _ _ => Rws.nil _ _ _⟩
def AimV (o : Option Wy) (v : Value) (Hn : List Blk) : Prop := ∃ v0, v = .tuple #[v0, .int .i64 (fewB o), .int .i64 (fewE o)] ∧ TwinP (fewL o) v0 Hn
/-- The reference's search, part way. -/
def FewK (p : Co → Bool) (xs : List (Co × Wy)) (k : Nat) (b : Bool) (i : Nat) : Prop :=
  if b then i < k ∧ (∃ z : Co × Wy, xs[i]? = some z ∧ p z.1 = true ∧ ∀ (j : Nat) (y : Co × Wy), j < k → xs[j]? = some y → p y.1 = true → y.2.lt z.2 = false)
  else ∀ (j : Nat) (y : Co × Wy), j < k → xs[j]? = some y → p y.1 = false
theorem FewK.zero (p : Co → Bool) (xs : List (Co × Wy)) : FewK p xs 0 false 0 := fun j y h => absurd h (Nat.not_lt_zero _)
theorem FewK.skip {p : Co → Bool} {xs : List (Co × Wy)} {k i : Nat} {b : Bool} {z : Co × Wy} (h : FewK p xs k b i) (hz : xs[k]? = some z) (hp : p z.1 = false) : FewK p xs (k + 1) b i := by
  unfold FewK at h ⊢
  cases b
  · intro j y hj hy
    by_cases he : j = k
    · subst he; rw [hz] at hy; cases hy; exact hp
    · exact h j y (by omega) hy
  · obtain ⟨h1, z', h2, h3, h4⟩ := h
    refine ⟨by omega, z', h2, h3, fun j y hj hy hpy => ?_⟩
    by_cases he : j = k
    · subst he; rw [hz] at hy; cases hy; rw [hp] at hpy; cases hpy
    · exact h4 j y (by omega) hy hpy
theorem FewK.fst {p : Co → Bool} {xs : List (Co × Wy)} {k i : Nat} {z : Co × Wy} (h : FewK p xs k false i) (hz : xs[k]? = some z) (hp : p z.1 = true) : FewK p xs (k + 1) true k := by
  refine ⟨Nat.lt_succ_self _, z, hz, hp, fun j y hj hy hpy => ?_⟩
  by_cases he : j = k
  · subst he; rw [hz] at hy; cases hy; exact Wy.lt_irrefl _
  · have := h j y (by omega) hy
    rw [hpy] at this; cases this
theorem FewK.take {p : Co → Bool} {xs : List (Co × Wy)} {k i : Nat} {z u : Co × Wy} (h : FewK p xs k true i) (hi : xs[i]? = some u) (hz : xs[k]? = some z) (hp : p z.1 = true) (hl : z.2.lt u.2 = true) : FewK p xs (k + 1) true k := by
  obtain ⟨h1, z', h2, h3, h4⟩ := h
  rw [hi] at h2
  cases h2
  refine ⟨Nat.lt_succ_self _, z, hz, hp, fun j y hj hy hpy => ?_⟩
  by_cases he : j = k
  · subst he; rw [hz] at hy; cases hy; exact Wy.lt_irrefl _
  · cases hlt : y.2.lt z.2 with
    | false => rfl
    | true => have := h4 j y (by omega) hy hpy; rw [Wy.lt_trans hlt hl] at this; exact this
theorem FewK.keep {p : Co → Bool} {xs : List (Co × Wy)} {k i : Nat} {z u : Co × Wy} (h : FewK p xs k true i) (hi : xs[i]? = some u) (hz : xs[k]? = some z) (hl : z.2.lt u.2 = false) : FewK p xs (k + 1) true i := by
  obtain ⟨h1, z', h2, h3, h4⟩ := h
  rw [hi] at h2
  cases h2
  refine ⟨by omega, u, hi, h3, fun j y hj hy hpy => ?_⟩
  by_cases he : j = k
  · subst he; rw [hz] at hy; cases hy; exact hl
  · exact h4 j y (by omega) hy hpy
theorem FewK.end_yes {c : Cn} {p : Co → Bool} {xs : List (Co × Wy)} {i : Nat} {u : Co × Wy} (hR : c.Rcd xs) (h : FewK p xs xs.length true i) (hi : xs[i]? = some u) : c.few p = some u.2 := by
  obtain ⟨h1, z', h2, h3, h4⟩ := h
  rw [hi] at h2
  cases h2
  refine Cn.few_some ⟨⟨u.1, h3, hR.best u (List.mem_of_getElem? hi)⟩, fun k v hk hv => ?_⟩
  obtain ⟨j, hj⟩ := List.getElem?_of_mem (hR.all k v hv)
  exact h4 j _ (List.getElem?_eq_some_iff.1 hj).1 hj hk
theorem FewK.end_no {c : Cn} {p : Co → Bool} {xs : List (Co × Wy)} {i : Nat} (hR : c.Rcd xs) (h : FewK p xs xs.length false i) : c.few p = none := by
  refine Cn.few_none fun k v hk hv => ?_
  obtain ⟨j, hj⟩ := List.getElem?_of_mem (hR.all k v hv)
  have := h j _ (List.getElem?_eq_some_iff.1 hj).1 hj
  rw [hk] at this
  cases this
/-- The reference's comparison of two ways. -/
def wbetB (a b : Wy) : Bool := decide (a.back < b.back) || (decide (a.back = b.back) && plt a.l b.l)
theorem wbetB_lt {a b : Wy} (h : a.l.length = b.l.length) : wbetB a b = a.lt b := by
  unfold wbetB Wy.lt
  simp [h]
theorem Wy.ge_lt {a b : Wy} (h : b.l.length ≤ a.l.length) (hn : ¬ (a.l.length = b.l.length ∧ wbetB a b = true)) : a.lt b = false := by
  cases hl : a.lt b with
  | false => rfl
  | true =>
    by_cases he : a.l.length = b.l.length
    · exact absurd ⟨he, by rw [wbetB_lt he]; exact hl⟩ hn
    · rw [Wy.lt_iff] at hl
      omega
theorem Cn.Rcd.mono {c : Cn} {xs : List (Co × Wy)} (hR : c.Rcd xs) {i k : Nat} {a b : Co × Wy} (hik : i < k) (hi : xs[i]? = some a) (hk : xs[k]? = some b) : a.2.l.length ≤ b.2.l.length := by
  obtain ⟨h1, e1⟩ := List.getElem?_eq_some_iff.1 hi
  obtain ⟨h2, e2⟩ := List.getElem?_eq_some_iff.1 hk
  have := List.pairwise_iff_getElem.1 hR.srt i k h1 h2 hik
  rw [e1, e2] at this
  exact this
/-- Comparing lists step by step. -/
theorem plt_step {l m : List Po} {k : Nat} (h : k < l.length) (h' : k < m.length) : plt (l.drop k) (m.drop k) = ((l.getD k Po.z).lt (m.getD k Po.z) || (decide (l.getD k Po.z = m.getD k Po.z) && plt (l.drop (k + 1)) (m.drop (k + 1)))) := by
  rw [List.drop_eq_getElem_cons h, List.drop_eq_getElem_cons h']
  simp [plt, h, h', List.getD_eq_getElem?_getD]
theorem plt_end {l m : List Po} {k : Nat} (h : l.length ≤ k) : plt (l.drop k) (m.drop k) = false := by
  rw [List.drop_eq_nil_of_le h]; rfl
theorem Po.eq_of2 {p q : Po} (h1 : p.f = q.f) (h2 : p.t = q.t) : p = q := by
  obtain ⟨a, b⟩ := p
  obtain ⟨a', b'⟩ := q
  simp only at h1 h2
  rw [h1, h2]
def sumL : List Int → Int
  | [] => 0
  | x :: l => x + sumL l
def sumTo (xs : List Int) (k : Nat) : Int := sumL (xs.take k)
theorem sumL_app (l m : List Int) : sumL (l ++ m) = sumL l + sumL m := by
  induction l with
  | nil => simp [sumL]
  | cons x l ih => simp only [List.cons_append, sumL, ih]; omega
theorem sumTo_succ {xs : List Int} {k : Nat} (h : k < xs.length) : sumTo xs (k + 1) = sumTo xs k + xs.getD k 0 := by
  unfold sumTo
  rw [List.take_add_one, sumL_app]
  simp [h, sumL, List.getD_eq_getElem?_getD]
theorem Cn.sum_of {c : Cn} (hok : c.Ok) {x : Co} (hx : c.In x) : sumL (c.of x).inn = x.b + x.c + x.d := by
  have h1 := hok.n1
  have h3 := hok.n3
  have z2 : c.n < 2 → x.c = 0 := fun hn => hx.z 2 hn (by decide)
  have z3 : c.n < 3 → x.d = 0 := fun hn => hx.z 3 hn (by decide)
  unfold Cn.of
  simp only
  obtain h | h | h : c.n = 1 ∨ c.n = 2 ∨ c.n = 3 := by omega
  · have := z2 (by omega); have := z3 (by omega)
    rw [h]; simp [sumL]; omega
  · have := z3 (by omega)
    rw [h]; simp [sumL]; omega
  · rw [h]; simp [sumL]; omega
end Go.Proofs.YtjekjehgmljbgaaDoor.T

/- The reference's numbers of contents, and its comparisons of ways, walked. -/
namespace Go.Proofs.YtjekjehgmljbgaaDoor.T
open Go.RowKit Go.Proofs Go.Eng
set_option maxRecDepth 100000
set_option maxHeartbeats 1000000
set_option linter.unusedVariables false
set_option linter.unusedSimpArgs false

theorem fa128_1 : ∀ b o w, (Instr.fieldAt 128 (.pointer (some ⟨b, o, none⟩)) 1).run Tryd.prog w = .ok (.pointer (some ⟨b, o + 3, none⟩)) w := fun b o w => by kernel_rfl
theorem fa128_2 : ∀ b o w, (Instr.fieldAt 128 (.pointer (some ⟨b, o, none⟩)) 2).run Tryd.prog w = .ok (.pointer (some ⟨b, o + 4, none⟩)) w := fun b o w => by kernel_rfl

/-- The number so far. -/
def kyT (xs : List Int) (k : Nat) : Int := kyL 0 (xs.take k)
theorem kyL_app (l : List Int) (x : Int) : ∀ n, kyL n (l ++ [x]) = 21 * kyL n l + x := by
  induction l with
  | nil => intro n; rfl
  | cons y l ih => intro n; exact ih _
theorem kyT_succ {xs : List Int} {k : Nat} (h : k < xs.length) : kyT xs (k + 1) = 21 * kyT xs k + xs.getD k 0 := by
  unfold kyT
  rw [List.take_add_one, List.getElem?_eq_getElem h]
  simp only [Option.toList_some]
  rw [kyL_app]
  simp [h, List.getD_eq_getElem?_getD]
theorem kyT_bd {xs : List Int} (h : ∀ k, k < xs.length → 0 ≤ xs.getD k 0 ∧ xs.getD k 0 ≤ 20) : ∀ k, k ≤ xs.length → 0 ≤ kyT xs k ∧ kyT xs k ≤ 21 ^ k - 1
  | 0, _ => by unfold kyT; simp [kyL]
  | k + 1, hk => by
    have ih := kyT_bd h k (by omega)
    have hx := h k (by omega)
    rw [kyT_succ (by omega), Int.pow_succ]
    omega
theorem kyT_bd3 {xs : List Int} (h : ∀ k, k < xs.length → 0 ≤ xs.getD k 0 ∧ xs.getD k 0 ≤ 20) (h3 : xs.length ≤ 3) {k : Nat} (hk : k ≤ xs.length) : 0 ≤ kyT xs k ∧ kyT xs k ≤ 9260 := by
  have h1 := kyT_bd h k hk
  obtain rfl | rfl | rfl | rfl : k = 0 ∨ k = 1 ∨ k = 2 ∨ k = 3 := by omega
  all_goals omega
theorem rkey_any (c : Cn) (a1 : Option Addr) (p1 : Nat) (a2 : Option Addr) (p2 : Nat) (w : World) (hn : c.n ≤ 1000000) (hl3 : c.inn.length ≤ 3) (hbd : ∀ k, k < c.inn.length → 0 ≤ c.inn.getD k 0 ∧ c.inn.getD k 0 ≤ 20) (h2 : Ints w a2 c.inn.length p2 c.inn) :
    Ct Tryd.prog 108 #[.agg #[.slice a1 c.n p1, .slice a2 c.inn.length p2, .int .i64 c.st]] w fun v _ => v = .int .i64 (kyL 0 c.inn) := by
  have hF := wide_wide
  refine Ct_start (args := [_]) Tryd.func108 (by rfl) Tryd.ntmps108 (by rfl) ?_
  refine W_seq ?_
  refine W_region_lit (fun ds => ?_)
  refine WS_new hF (by rfl) (y_box (by rfl)) (fun b1 => ?_)
  refine WS_det hF (by rfl) (y_assign (c := .int .i64 _) (by rfl)) ?_
  refine WS_nil ?_
  refine Then_normal ?_
  refine W_seq ?_
  refine W_region_lit (fun ds => ?_)
  refine WS_det hF (by rfl) (y_assign (c := .int .i64 _) (by rfl)) ?_
  refine WS_nil ?_
  refine Then_normal ?_
  refine W_seq ?_
  refine W_seq ?_
  refine W_region_lit (fun ds => ?_)
  refine WS_det hF (by rfl) (y_fieldAddr (by rfl) fa24_1) ?_
  refine WS_det hF (by rfl) (y_load1 (by rfl) Tryd.isAgg22 (Mem.own1 0 (by rfl) (by rfl))) ?_
  refine WS_det hF (by rfl) (y_len (by rfl) Tryd.runUnderlying22) ?_
  refine WS_det hF (by rfl) (y_move (c := .int .i64 _) (by rfl)) ?_
  refine WS_nil ?_
  refine Then_normal ?_
  refine W_block ?_
  refine W_loop (γ := Nat) (fun k => k ≤ c.inn.length) (fun k => [(3, .int .i64 (kyT c.inn k)), (7, .slice a2 c.inn.length p2), (8, .int .i64 (c.inn.length : Int)), (9, .int .i64 (k : Int))]) (fun _ => _) (fun k => c.inn.length - k) (0) (Nat.zero_le _) (by repeat (first | exact trivial | refine ⟨by rfl, ?_⟩)) (List.Sublist.refl _) ?_
  intro k e hk
  refine W_seq ?_
  refine W_region_lit (fun ds => ?_)
  refine WS_det hF (by rfl) (y_lss (by rfl) (by rfl)) ?_
  refine WS_nil ?_
  refine Then_normal ?_
  refine W_seq ?_
  refine W_cond (by rfl) (fun c3 => ?_) (fun c3 => ?_)
  ·
    try simp only [Bool.not_eq_true', Bool.not_eq_false', decide_eq_true_eq, decide_eq_false_iff_not, ne_eq, Classical.not_not, Int.not_lt, Int.not_le] at c3
    obtain ⟨b, o, rfl, hc⟩ := h2.cell k (by omega)
    have hb := kyT_bd3 hbd hl3 hk
    have hx := hbd k (by omega)
    have hsc := kyT_succ (xs := c.inn) (k := k) (by omega)
    refine W_skip ?_
    refine Then_normal ?_
    refine W_seq ?_
    refine W_block ?_
    refine W_seq ?_
    refine W_region_lit (fun ds => ?_)
    refine WS_det hF (by rfl) (y_index (k := k) (by rfl) (by rfl) (by first | rfl | omega) (by first | decide | omega) Tryd.runUnderlying22 Tryd.sizeOf3) ?_
    refine WS_det hF (by rfl) (y_load1 (by rfl) Tryd.isAgg3 (by first | exact Mem.old1 (by assumption) | exact Mem.oldAt1 (by assumption) (by rfl) | exact Mem.old (by assumption) | exact Mem.oldAtL1 (by assumption) (by rfl) (by rfl))) ?_
    refine WS_det hF (by rfl) (y_assign (c := .int .i64 _) (by rfl)) ?_
    refine WS_nil ?_
    refine Then_normal ?_
    refine W_region_lit (fun ds => ?_)
    refine WS_det hF (by rfl) (y_move (c := .int .i64 _) (by rfl)) ?_
    refine WS_det hF (by rfl) (y_mul (by rfl) (by rfl) (by unfold I64; omega)) ?_
    refine WS_det hF (by rfl) (y_move (c := .int .i64 _) (by rfl)) ?_
    refine WS_det hF (by rfl) (y_add (by rfl) (by rfl) (by unfold I64; omega)) ?_
    refine WS_det hF (by rfl) (y_assign (c := .int .i64 _) (by rfl)) ?_
    refine WS_nil ?_
    refine InB_normal ?_
    refine Then_normal ?_
    rw [← hsc]
    refine W_region_lit (fun ds => ?_)
    refine WS_det hF (by rfl) (y_add (by rfl) (by rfl) (by unfold I64; omega)) ?_
    refine WS_det hF (by rfl) (y_move (c := .int .i64 _) (by rfl)) ?_
    refine WS_nil ?_
    exact Loop_next (k + 1) (by omega) (by repeat (first | exact trivial | refine ⟨by rfl, ?_⟩)) (by repeat (first | exact List.Sublist.refl _ | exact List.nil_sublist _ | apply List.Sublist.cons_cons | apply List.Sublist.cons)) (by omega)
  ·
    try simp only [Bool.not_eq_true', Bool.not_eq_false', decide_eq_true_eq, decide_eq_false_iff_not, ne_eq, Classical.not_not, Int.not_lt, Int.not_le] at c3
    refine W_exit ?_
    refine Then_exit ?_
    refine Loop_exit ?_
    refine InB_same ?_
    refine Then_normal ?_
    refine W_seq ?_
    refine W_region_lit (fun ds => ?_)
    refine WS_det hF (by rfl) (y_move (c := .int .i64 _) (by rfl)) ?_
    refine WS_det hF (by rfl) (y_assign (c := .int .i64 _) (by rfl)) ?_
    refine WS_nil ?_
    refine Then_normal ?_
    refine W_ret ?_
    refine Fin_ret [.int .i64 _] [] Tryd.results108 ⟨by rfl, trivial⟩ HSub.nil ?_
    have : k = c.inn.length := by omega
    subst this
    unfold kyT
    rw [List.take_length]
    rfl
def pcmp : List Po → List Po → Nat → Prop := fun l m k => plt (l.drop k) (m.drop k) = plt l m
theorem rsooner_any (l m : List Po) (la : Option Addr) (lcap : Nat) (ma : Option Addr) (mcap : Nat) (w : World) (hlm : l.length = m.length) (hl : l.length ≤ 1000000) (hp : Pos w la l.length lcap l) (hq : Pos w ma m.length mcap m) :
    Ct Tryd.prog 134 #[.slice la l.length lcap, .slice ma m.length mcap] w fun v _ => v = .bool (plt l m) := by
  have hF := wide_wide
  refine Ct_start (args := [_, _]) Tryd.func134 (by rfl) Tryd.ntmps134 (by rfl) ?_
  refine W_seq ?_
  refine W_region_lit (fun ds => ?_)
  refine WS_det hF (by rfl) (y_assign (c := .bool _) (by rfl)) ?_
  refine WS_nil ?_
  refine Then_normal ?_
  refine W_seq ?_
  refine W_seq ?_
  refine W_region_lit (fun ds => ?_)
  refine WS_det hF (by rfl) (y_assign (c := .int .i64 _) (by rfl)) ?_
  refine WS_nil ?_
  refine Then_normal ?_
  refine W_block ?_
  refine W_loop (γ := Nat) (fun k => k ≤ l.length ∧ plt (l.drop k) (m.drop k) = plt l m) (fun k => [(0, .slice la l.length lcap), (1, .slice ma m.length mcap), (5, .int .i64 (k : Int))]) (fun _ => _) (fun k => l.length - k) (0) ⟨Nat.zero_le _, by simp⟩ (by repeat (first | exact trivial | refine ⟨by rfl, ?_⟩)) (List.Sublist.refl _) ?_
  intro k e hk
  refine W_seq ?_
  refine W_seq ?_
  refine W_region_lit (fun ds => ?_)
  refine WS_det hF (by rfl) (y_move (c := .int .i64 _) (by rfl)) ?_
  refine WS_det hF (by rfl) (y_move (c := .slice _ _ _) (by rfl)) ?_
  refine WS_det hF (by rfl) (y_len (by rfl) Tryd.runUnderlying27) ?_
  refine WS_det hF (by rfl) (y_lss (by rfl) (by rfl)) ?_
  refine WS_nil ?_
  refine Then_normal ?_
  refine W_cond (by rfl) (fun c2 => ?_) (fun c2 => ?_)
  ·
    try simp only [Bool.not_eq_true', Bool.not_eq_false', decide_eq_true_eq, decide_eq_false_iff_not, ne_eq, Classical.not_not, Int.not_lt, Int.not_le] at c2
    obtain ⟨b, o, rfl, hc⟩ := hp.cell k (by omega)
    change At w b _ (l.getD k Po.z).cells at hc
    obtain ⟨b', o', rfl, hc'⟩ := hq.cell k (by omega)
    change At w b' _ (m.getD k Po.z).cells at hc'
    have hst := plt_step (l := l) (m := m) (k := k) (by omega) (by omega)
    refine W_skip ?_
    refine Then_normal ?_
    refine W_seq ?_
    refine W_block ?_
    refine W_seq ?_
    refine W_seq ?_
    refine W_draw0 hF Trydmixed [] (by decide +kernel) (fun ds => ?_)
    refine P_det (by rfl) (Over_nil (y_move (c := .slice _ _ _) (by rfl))) ?_
    refine P_det (by rfl) (Over_nil (y_move (c := .int .i64 _) (by rfl))) ?_
    refine P_det (by rfl) (Over_nil (y_index (k := k) (by rfl) (by rfl) (by first | rfl | omega) (by first | decide | omega) Tryd.runUnderlying27 Tryd.sizeOf26)) ?_
    refine P_det (by rfl) (Over_nil (y_fieldAddr (by rfl) fa26_0)) ?_
    refine P_det (by rfl) (Over_nil (y_load1 (by rfl) Tryd.isAgg3 (by first | exact Mem.old1 (by assumption) | exact Mem.oldAt1 (by assumption) (by rfl) | exact Mem.old (by assumption) | exact Mem.oldAtL1 (by assumption) (by rfl) (by rfl)))) ?_
    refine P_det (by rfl) (Over_nil (y_move (c := .slice _ _ _) (by rfl))) ?_
    refine P_det (by rfl) (Over_nil (y_move (c := .int .i64 _) (by rfl))) ?_
    refine P_det (by rfl) (Over_nil (y_index (k := k) (by rfl) (by rfl) (by first | rfl | omega) (by first | decide | omega) Tryd.runUnderlying27 Tryd.sizeOf26)) ?_
    refine P_det (by rfl) (Over_nil (y_fieldAddr (by rfl) fa26_0)) ?_
    refine P_det (by rfl) (Over_nil (y_load1 (by rfl) Tryd.isAgg3 (by first | exact Mem.old1 (by assumption) | exact Mem.oldAt1 (by assumption) (by rfl) | exact Mem.old (by assumption) | exact Mem.oldAtL1 (by assumption) (by rfl) (by rfl)))) ?_
    refine P_det (by rfl) (Over_nil (y_neq (by rfl) (by rfl))) ?_
    refine PW_end (by rfl) ?_
    refine OverAll_nil ?_
    rintro -
    refine Then_normal ?_
    refine W_cond (by rfl) (fun c4 => ?_) (fun c4 => ?_)
    ·
      try simp only [Bool.not_eq_true', Bool.not_eq_false', decide_eq_true_eq, decide_eq_false_iff_not, ne_eq, Classical.not_not, Int.not_lt, Int.not_le] at c4
      refine W_seq ?_
      refine W_draw0 hF Trydmixed [] (by decide +kernel) (fun ds => ?_)
      refine P_det (by rfl) (Over_nil (y_move (c := .slice _ _ _) (by rfl))) ?_
      refine P_det (by rfl) (Over_nil (y_move (c := .int .i64 _) (by rfl))) ?_
      refine P_det (by rfl) (Over_nil (y_index (k := k) (by rfl) (by rfl) (by first | rfl | omega) (by first | decide | omega) Tryd.runUnderlying27 Tryd.sizeOf26)) ?_
      refine P_det (by rfl) (Over_nil (y_fieldAddr (by rfl) fa26_0)) ?_
      refine P_det (by rfl) (Over_nil (y_load1 (by rfl) Tryd.isAgg3 (by first | exact Mem.old1 (by assumption) | exact Mem.oldAt1 (by assumption) (by rfl) | exact Mem.old (by assumption) | exact Mem.oldAtL1 (by assumption) (by rfl) (by rfl)))) ?_
      refine P_det (by rfl) (Over_nil (y_move (c := .slice _ _ _) (by rfl))) ?_
      refine P_det (by rfl) (Over_nil (y_move (c := .int .i64 _) (by rfl))) ?_
      refine P_det (by rfl) (Over_nil (y_index (k := k) (by rfl) (by rfl) (by first | rfl | omega) (by first | decide | omega) Tryd.runUnderlying27 Tryd.sizeOf26)) ?_
      refine P_det (by rfl) (Over_nil (y_fieldAddr (by rfl) fa26_0)) ?_
      refine P_det (by rfl) (Over_nil (y_load1 (by rfl) Tryd.isAgg3 (by first | exact Mem.old1 (by assumption) | exact Mem.oldAt1 (by assumption) (by rfl) | exact Mem.old (by assumption) | exact Mem.oldAtL1 (by assumption) (by rfl) (by rfl)))) ?_
      refine P_det (by rfl) (Over_nil (y_lss (by rfl) (by rfl))) ?_
      refine P_det (by rfl) (Over_nil (y_assign (c := .bool _) (by rfl))) ?_
      refine PW_end (by rfl) ?_
      refine OverAll_nil ?_
      rintro -
      refine Then_normal ?_
      refine W_ret ?_
      refine Then_ret ?_
      refine InB_ret ?_
      refine Then_ret ?_
      refine Loop_ret ?_
      refine InB_ret ?_
      refine Then_ret ?_
      refine Fin_ret [.bool _] [] Tryd.results134 ⟨by rfl, trivial⟩ HSub.nil ?_
      rw [← hk.2, hst]
      show Value.bool _ = _
      congr 1
      rw [Bool.eq_iff_iff]
      simp only [Bool.or_eq_true, Bool.and_eq_true, decide_eq_true_eq, Po.lt_iff]
      constructor
      · intro h; exact .inl (.inl h)
      · rintro ((h | ⟨h, _⟩) | ⟨h, _⟩)
        · exact h
        · exact absurd h c4
        · exact absurd (by rw [h]) c4
    ·
      try simp only [Bool.not_eq_true', Bool.not_eq_false', decide_eq_true_eq, decide_eq_false_iff_not, ne_eq, Classical.not_not, Int.not_lt, Int.not_le] at c4
      refine W_skip ?_
      refine Then_normal ?_
      refine W_seq ?_
      refine W_draw0 hF Trydmixed [] (by decide +kernel) (fun ds => ?_)
      refine P_det (by rfl) (Over_nil (y_move (c := .slice _ _ _) (by rfl))) ?_
      refine P_det (by rfl) (Over_nil (y_move (c := .int .i64 _) (by rfl))) ?_
      refine P_det (by rfl) (Over_nil (y_index (k := k) (by rfl) (by rfl) (by first | rfl | omega) (by first | decide | omega) Tryd.runUnderlying27 Tryd.sizeOf26)) ?_
      refine P_det (by rfl) (Over_nil (y_fieldAddr (by rfl) fa26_1)) ?_
      refine P_det (by rfl) (Over_nil (y_load1 (by rfl) Tryd.isAgg3 (by first | exact Mem.old1 (by assumption) | exact Mem.oldAt1 (by assumption) (by rfl) | exact Mem.old (by assumption) | exact Mem.oldAtL1 (by assumption) (by rfl) (by rfl)))) ?_
      refine P_det (by rfl) (Over_nil (y_move (c := .slice _ _ _) (by rfl))) ?_
      refine P_det (by rfl) (Over_nil (y_move (c := .int .i64 _) (by rfl))) ?_
      refine P_det (by rfl) (Over_nil (y_index (k := k) (by rfl) (by rfl) (by first | rfl | omega) (by first | decide | omega) Tryd.runUnderlying27 Tryd.sizeOf26)) ?_
      refine P_det (by rfl) (Over_nil (y_fieldAddr (by rfl) fa26_1)) ?_
      refine P_det (by rfl) (Over_nil (y_load1 (by rfl) Tryd.isAgg3 (by first | exact Mem.old1 (by assumption) | exact Mem.oldAt1 (by assumption) (by rfl) | exact Mem.old (by assumption) | exact Mem.oldAtL1 (by assumption) (by rfl) (by rfl)))) ?_
      refine P_det (by rfl) (Over_nil (y_neq (by rfl) (by rfl))) ?_
      refine PW_end (by rfl) ?_
      refine OverAll_nil ?_
      rintro -
      refine Then_normal ?_
      refine W_cond (by rfl) (fun c6 => ?_) (fun c6 => ?_)
      ·
        try simp only [Bool.not_eq_true', Bool.not_eq_false', decide_eq_true_eq, decide_eq_false_iff_not, ne_eq, Classical.not_not, Int.not_lt, Int.not_le] at c6
        refine W_seq ?_
        refine W_draw0 hF Trydmixed [] (by decide +kernel) (fun ds => ?_)
        refine P_det (by rfl) (Over_nil (y_move (c := .slice _ _ _) (by rfl))) ?_
        refine P_det (by rfl) (Over_nil (y_move (c := .int .i64 _) (by rfl))) ?_
        refine P_det (by rfl) (Over_nil (y_index (k := k) (by rfl) (by rfl) (by first | rfl | omega) (by first | decide | omega) Tryd.runUnderlying27 Tryd.sizeOf26)) ?_
        refine P_det (by rfl) (Over_nil (y_fieldAddr (by rfl) fa26_1)) ?_
        refine P_det (by rfl) (Over_nil (y_load1 (by rfl) Tryd.isAgg3 (by first | exact Mem.old1 (by assumption) | exact Mem.oldAt1 (by assumption) (by rfl) | exact Mem.old (by assumption) | exact Mem.oldAtL1 (by assumption) (by rfl) (by rfl)))) ?_
        refine P_det (by rfl) (Over_nil (y_move (c := .slice _ _ _) (by rfl))) ?_
        refine P_det (by rfl) (Over_nil (y_move (c := .int .i64 _) (by rfl))) ?_
        refine P_det (by rfl) (Over_nil (y_index (k := k) (by rfl) (by rfl) (by first | rfl | omega) (by first | decide | omega) Tryd.runUnderlying27 Tryd.sizeOf26)) ?_
        refine P_det (by rfl) (Over_nil (y_fieldAddr (by rfl) fa26_1)) ?_
        refine P_det (by rfl) (Over_nil (y_load1 (by rfl) Tryd.isAgg3 (by first | exact Mem.old1 (by assumption) | exact Mem.oldAt1 (by assumption) (by rfl) | exact Mem.old (by assumption) | exact Mem.oldAtL1 (by assumption) (by rfl) (by rfl)))) ?_
        refine P_det (by rfl) (Over_nil (y_lss (by rfl) (by rfl))) ?_
        refine P_det (by rfl) (Over_nil (y_assign (c := .bool _) (by rfl))) ?_
        refine PW_end (by rfl) ?_
        refine OverAll_nil ?_
        rintro -
        refine Then_normal ?_
        refine W_ret ?_
        refine InB_ret ?_
        refine Then_ret ?_
        refine Loop_ret ?_
        refine InB_ret ?_
        refine Then_ret ?_
        refine Fin_ret [.bool _] [] Tryd.results134 ⟨by rfl, trivial⟩ HSub.nil ?_
        rw [← hk.2, hst]
        show Value.bool _ = _
        congr 1
        rw [Bool.eq_iff_iff]
        simp only [Bool.or_eq_true, Bool.and_eq_true, decide_eq_true_eq, Po.lt_iff]
        constructor
        · intro h; exact .inl (.inr ⟨c4, h⟩)
        · rintro ((h | ⟨_, h⟩) | ⟨h, _⟩)
          · omega
          · exact h
          · exact absurd (by rw [h]) c6
      ·
        try simp only [Bool.not_eq_true', Bool.not_eq_false', decide_eq_true_eq, decide_eq_false_iff_not, ne_eq, Classical.not_not, Int.not_lt, Int.not_le] at c6
        refine W_skip ?_
        refine InB_normal ?_
        refine Then_normal ?_
        refine W_region_lit (fun ds => ?_)
        refine WS_det hF (by rfl) (y_move (c := .int .i64 _) (by rfl)) ?_
        refine WS_det hF (by rfl) (y_add (by rfl) (by rfl) (by unfold I64; omega)) ?_
        refine WS_det hF (by rfl) (y_assign (c := .int .i64 _) (by rfl)) ?_
        refine WS_nil ?_
        exact Loop_next (k + 1) ⟨by omega, by rw [← hk.2, hst, Po.eq_of2 c4 c6]; simp [Po.lt_iff]⟩ (by repeat (first | exact trivial | refine ⟨by rfl, ?_⟩)) (by repeat (first | exact List.Sublist.refl _ | exact List.nil_sublist _ | apply List.Sublist.cons_cons | apply List.Sublist.cons)) (by omega)
  ·
    try simp only [Bool.not_eq_true', Bool.not_eq_false', decide_eq_true_eq, decide_eq_false_iff_not, ne_eq, Classical.not_not, Int.not_lt, Int.not_le] at c2
    refine W_exit ?_
    refine Then_exit ?_
    refine Loop_exit ?_
    refine InB_same ?_
    refine Then_normal ?_
    refine W_seq ?_
    refine W_region_lit (fun ds => ?_)
    refine WS_det hF (by rfl) (y_assign (c := .bool _) (by rfl)) ?_
    refine WS_nil ?_
    refine Then_normal ?_
    refine W_ret ?_
    refine Fin_ret [.bool _] [] Tryd.results134 ⟨by rfl, trivial⟩ HSub.nil ?_
    rw [← hk.2, plt_end (by omega)]
    rfl
theorem rbetter_any (x y : Wy) (la : Option Addr) (lcap : Nat) (ma : Option Addr) (mcap : Nat) (w : World) (hlm : x.l.length = y.l.length) (hl : x.l.length ≤ 1000000) (a1 a2 a3 a4 : Option Addr) (n1 n2 n3 n4 k1 k2 k3 k4 : Nat) (s1 s2 : Int) (hp : Pos w la x.l.length lcap x.l) (hq : Pos w ma y.l.length mcap y.l) :
    Ct Tryd.prog 107 #[.agg #[.slice a1 n1 k1, .slice a2 n2 k2, .int .i64 s1, .slice la x.l.length lcap, .int .i64 x.back], .agg #[.slice a3 n3 k3, .slice a4 n4 k4, .int .i64 s2, .slice ma y.l.length mcap, .int .i64 y.back]] w fun v _ => v = .bool (wbetB x y) := by
  have hF := wide_wide
  refine Ct_start (args := [_, _]) Tryd.func107 (by rfl) Tryd.ntmps107 (by rfl) ?_
  refine W_seq ?_
  refine W_region_lit (fun ds => ?_)
  refine WS_new hF (by rfl) (y_box (by rfl)) (fun b1 => ?_)
  refine WS_new hF (by rfl) (y_box (by rfl)) (fun b2 => ?_)
  refine WS_det hF (by rfl) (y_assign (c := .bool _) (by rfl)) ?_
  refine WS_nil ?_
  refine Then_normal ?_
  refine W_seq ?_
  refine W_seq ?_
  refine W_region_lit (fun ds => ?_)
  refine WS_det hF (by rfl) (y_fieldAddr (by rfl) fa128_2) ?_
  refine WS_det hF (by rfl) (y_load1 (by rfl) Tryd.isAgg3 (Mem.own1 1 (by rfl) (by rfl))) ?_
  refine WS_det hF (by rfl) (y_fieldAddr (by rfl) fa128_2) ?_
  refine WS_det hF (by rfl) (y_load1 (by rfl) Tryd.isAgg3 (Mem.own1 0 (by rfl) (by rfl))) ?_
  refine WS_det hF (by rfl) (y_neq (by rfl) (by rfl)) ?_
  refine WS_nil ?_
  refine Then_normal ?_
  refine W_cond (by rfl) (fun c1 => ?_) (fun c1 => ?_)
  ·
    try simp only [Bool.not_eq_true', Bool.not_eq_false', decide_eq_true_eq, decide_eq_false_iff_not, ne_eq, Classical.not_not, Int.not_lt, Int.not_le] at c1
    refine W_seq ?_
    refine W_region_lit (fun ds => ?_)
    refine WS_det hF (by rfl) (y_fieldAddr (by rfl) fa128_2) ?_
    refine WS_det hF (by rfl) (y_load1 (by rfl) Tryd.isAgg3 (Mem.own1 1 (by rfl) (by rfl))) ?_
    refine WS_det hF (by rfl) (y_fieldAddr (by rfl) fa128_2) ?_
    refine WS_det hF (by rfl) (y_load1 (by rfl) Tryd.isAgg3 (Mem.own1 0 (by rfl) (by rfl))) ?_
    refine WS_det hF (by rfl) (y_lss (by rfl) (by rfl)) ?_
    refine WS_det hF (by rfl) (y_assign (c := .bool _) (by rfl)) ?_
    refine WS_nil ?_
    refine Then_normal ?_
    refine W_ret ?_
    refine Then_ret ?_
    refine Fin_ret [.bool _] [] Tryd.results107 ⟨by rfl, trivial⟩ HSub.nil ?_
    unfold wbetB
    show Value.bool _ = _
    congr 1
    rw [Bool.eq_iff_iff]
    simp only [Bool.or_eq_true, Bool.and_eq_true, decide_eq_true_eq]
    constructor
    · intro h; exact .inl h
    · rintro (h | ⟨h, _⟩)
      · exact h
      · exact absurd h c1
  ·
    try simp only [Bool.not_eq_true', Bool.not_eq_false', decide_eq_true_eq, decide_eq_false_iff_not, ne_eq, Classical.not_not, Int.not_lt, Int.not_le] at c1
    refine W_skip ?_
    refine Then_normal ?_
    refine W_seq ?_
    refine W_region_lit (fun ds => ?_)
    refine WS_det hF (by rfl) (y_fieldAddr (by rfl) fa128_1) ?_
    refine WS_det hF (by rfl) (y_load1 (by rfl) Tryd.isAgg27 (Mem.own1 1 (by rfl) (by rfl))) ?_
    refine WS_det hF (by rfl) (y_fieldAddr (by rfl) fa128_1) ?_
    refine WS_det hF (by rfl) (y_load1 (by rfl) Tryd.isAgg27 (Mem.own1 0 (by rfl) (by rfl))) ?_
    refine WS_det hF (by rfl) (y_callL (by rfl) (by rfl) Tryd.call134 (fun w hw => rsooner_any x.l y.l la lcap ma mcap w hlm hl (hp.st w hw) (hq.st w hw))) ?_
    refine WS_det hF (by rfl) (y_assign (c := .bool _) (by rfl)) ?_
    refine WS_nil ?_
    refine Then_normal ?_
    refine W_ret ?_
    refine Fin_ret [.bool _] [] Tryd.results107 ⟨by rfl, trivial⟩ HSub.nil ?_
    unfold wbetB
    show Value.bool _ = _
    congr 1
    rw [Bool.eq_iff_iff]
    simp only [Bool.or_eq_true, Bool.and_eq_true, decide_eq_true_eq]
    constructor
    · intro h; exact .inr ⟨c1, h⟩
    · rintro (h | ⟨_, h⟩)
      · omega
      · exact h
end Go.Proofs.YtjekjehgmljbgaaDoor.T

/- What the reference has reached, and where it lies. -/
namespace Go.Proofs.YtjekjehgmljbgaaDoor.T
open Go.RowKit Go.Proofs Go.Eng
set_option maxRecDepth 100000
set_option maxHeartbeats 1000000
set_option linter.unusedVariables false
set_option linter.unusedSimpArgs false



/-- A content that is reached, its way, and where all lies. -/
structure Rl where
  x : Co
  w : Wy
  s : Option Addr
  ks : Nat
  i : Option Addr
  ki : Nat
  l : Option Addr
  kl : Nat
def Rl.z : Rl := ⟨Co.z, ⟨[], 0⟩, none, 0, none, 0, none, 0⟩
def Rl.cells (c : Cn) (r : Rl) : List Value := [.slice r.s c.n r.ks, .slice r.i (c.of r.x).inn.length r.ki, .int .i64 r.x.a, .slice r.l r.w.l.length r.kl, .int .i64 r.w.back]
theorem rl_len (c : Cn) : ∀ r, (Rl.cells c r).length = 5 := fun _ => rfl
def Rl.zz (r : Rl) : Co × Wy := (r.x, r.w)
structure Rl.RdH (c : Cn) (HH : List Blk) (r : Rl) : Prop where
  s : ∀ (C : Ctx) (H : List Blk) (w : World), HH.Sublist H → St C H w → Ints w r.s c.n r.ks c.sz
  i : ∀ (C : Ctx) (H : List Blk) (w : World), HH.Sublist H → St C H w → Ints w r.i (c.of r.x).inn.length r.ki (c.of r.x).inn
  p : ∀ (C : Ctx) (H : List Blk) (w : World), HH.Sublist H → St C H w → Pos w r.l r.w.l.length r.kl r.w.l
theorem Rl.RdH.mono {c : Cn} {HH HH' : List Blk} {r : Rl} (h : r.RdH c HH) (hs : HH.Sublist HH') : r.RdH c HH' :=
  ⟨fun C H w h2 hw => h.s C H w (hs.trans h2) hw, fun C H w h2 hw => h.i C H w (hs.trans h2) hw, fun C H w h2 hw => h.p C H w (hs.trans h2) hw⟩
theorem Rl.RdH.new {c : Cn} {HH H1 H2 H3 : List Blk} {r : Rl} (h1 : NewRow 3 1 c.n (iv c.sz) (.slice r.s c.n r.ks) H1) (h2 : NewRow 3 1 (c.of r.x).inn.length (iv (c.of r.x).inn) (.slice r.i (c.of r.x).inn.length r.ki) H2)
    (h3 : NewRow 26 2 r.w.l.length (rowOf Po.cells (fun k => r.w.l.getD k Po.z) r.w.l.length) (.slice r.l r.w.l.length r.kl) H3) (s1 : H1.Sublist HH) (s2 : H2.Sublist HH) (s3 : H3.Sublist HH) : r.RdH c HH :=
  ⟨fun C H w h hw => NewRow.ints h1 rfl (s1.trans h) w hw, fun C H w h hw => NewRow.ints h2 rfl (s2.trans h) w hw, fun C H w h hw => NewRow.rws po_len h3 rfl (s3.trans h) w hw⟩
def rRow (c : Cn) (rs : List Rl) : List Value := rowOf (Rl.cells c) (fun k => rs.getD k Rl.z) rs.length
theorem rRow_snoc (c : Cn) (rs : List Rl) (y : Rl) : rRow c (rs ++ [y]) = rRow c rs ++ y.cells c := by
  unfold rRow
  rw [List.length_append, List.length_singleton, rowOf_succ]
  congr 1
  · exact rowOf_congr _ fun k hk => by simp [List.getD_eq_getElem?_getD, List.getElem?_append_left hk]
  · simp [List.getD_eq_getElem?_getD]
theorem rRow_len (c : Cn) (rs : List Rl) : (rRow c rs).length = rs.length * 5 := rowOf_len (rl_len c) _ _
theorem rRow_splice {c : Cn} {rs : List Rl} {junk : List Value} {j : Nat} (h : j < rs.length) (y : Rl) : splice (rRow c rs ++ junk) (0 + j * 5) (y.cells c) = rRow c (rs.set j y) ++ junk := by
  have h1 := rowOf_splice (rl_len c) (f := fun k => rs.getD k Rl.z) (g := fun k => (rs.set j y).getD k Rl.z) (k := j) (n := rs.length) h (us := y.cells c) (by simp [List.getD_eq_getElem?_getD, h]) fun k hk hkj => by
    simp only [List.getD_eq_getElem?_getD]
    rw [List.getElem?_set_ne (Ne.symm hkj)]
  have h2 : rRow c (rs.set j y) = rowOf (Rl.cells c) (fun k => (rs.set j y).getD k Rl.z) rs.length := by unfold rRow; rw [List.length_set]
  rw [h2, ← h1, Nat.zero_add]
  have hl := rRow_len c rs
  have h5 : (y.cells c).length = 5 := rfl
  unfold splice
  rw [List.take_append_of_le_length (by omega), List.drop_append_of_le_length (by omega)]
  simp only [rRow, List.append_assoc]
theorem Mem.rl {C : Ctx} {H : List Blk} {b k o : Nat} {T : TypeId} {c : Cn} {rs : List Rl} {junk us rest : List Value} {r : Rl} (j : Nat) (i : Nat) (hi : H[i]? = some (b, CB (rRow c rs ++ junk) T)) (hr : rs[k]? = some r) (hj : (r.cells c).drop j = us ++ rest) (hj5 : j ≤ 5) (ho : o = k * 5 + j) : Mem C H b o us := by
  subst ho
  obtain ⟨hk, he⟩ := List.getElem?_eq_some_iff.1 hr
  obtain ⟨t, ht⟩ := rowOf_drop (rl_len c) (fun k => rs.getD k Rl.z) hk
  have hrd : rs.getD k Rl.z = r := by rw [List.getD_eq_getElem?_getD, hr]; rfl
  simp only [hrd] at ht
  refine Mem.own (rest := rest ++ (t ++ junk)) i hi ?_
  have hl := rRow_len c rs
  rw [← List.drop_drop, List.drop_append_of_le_length (by omega), show List.drop (k * 5) (rRow c rs) = r.cells c ++ t from ht, List.append_assoc, List.drop_append_of_le_length (by rw [rl_len]; exact hj5), hj, List.append_assoc]
/-- Where the walk of the reference stands. -/
structure RcG where
  k : Nat
  P : Co → Wy → Prop
  look : Co → Option Wy
  rs : List Rl
  ks : List Int
  bo : Nat
  cap : Nat
  junk : List Value
  HX : List Blk
structure RcS (c : Cn) (n fr en i : Nat) (q : RcG) : Prop where
  rc : c.RcI n fr en q.P q.look (q.rs.map Rl.zz) q.ks
  rd : ∀ r ∈ q.rs, r.RdH c q.HX
  len : (rRow c q.rs ++ q.junk).length = q.cap * 5
  cap : q.rs.length ≤ q.cap
  dn : ∀ (j : Nat) (z : Co × Wy), fr ≤ j → j < i → (q.rs.map Rl.zz)[j]? = some z → c.Dn n q.P z.1 z.2 (c.ps z.1).length
structure RcR (c : Cn) (n fr en i : Nat) (r : Rl) (J : Nat) (q : RcG) : Prop where
  s : RcS c n fr en i q
  e : q.rs[i]? = some r
  fi : fr ≤ i
  ie : i < en
  d : c.Dn n q.P r.x r.w (c.psJ r.x J).length
theorem zz_at {rs : List Rl} {i : Nat} {r : Rl} (h : rs[i]? = some r) : (rs.map Rl.zz)[i]? = some (r.x, r.w) := by rw [List.getElem?_map, h]; rfl
theorem zz_of {rs : List Rl} {i : Nat} {z : Co × Wy} (h : (rs.map Rl.zz)[i]? = some z) : ∃ r, rs[i]? = some r ∧ r.x = z.1 ∧ r.w = z.2 := by
  rw [List.getElem?_map] at h
  obtain ⟨r, h1, rfl⟩ := Option.map_eq_some_iff.1 h
  exact ⟨r, h1, rfl, rfl⟩
theorem RcS.bd {c : Cn} (hok : c.Ok) {n fr en i : Nat} {q : RcG} (h : RcS c n fr en i q) : q.rs.length ≤ 9261 := by
  have := h.rc.tb.bd hok
  rwa [List.length_map] at this
theorem RcS.ent {c : Cn} {n fr en i : Nat} {q : RcG} (h : RcS c n fr en i q) (hi : i < en) (hf : fr ≤ i) : ∃ r, q.rs[i]? = some r ∧ RcR c n fr en i r 0 q := by
  have he := h.rc.enl
  rw [List.length_map] at he
  exact ⟨_, List.getElem?_eq_getElem (by omega), h, List.getElem?_eq_getElem (by omega), hf, hi, fun j hj => absurd hj (by simp [Cn.psJ])⟩
theorem RcR.rk {c : Cn} {n fr en i J : Nat} {r : Rl} {q : RcG} (h : RcR c n fr en i r J q) (k : Nat) : RcR c n fr en i r J { q with k := k } := ⟨⟨h.s.rc, h.s.rd, h.s.len, h.s.cap, h.s.dn⟩, h.e, h.fi, h.ie, h.d⟩
theorem RcS.rk {c : Cn} {n fr en i : Nat} {q : RcG} (h : RcS c n fr en i q) (k : Nat) : RcS c n fr en i { q with k := k } := ⟨h.rc, h.rd, h.len, h.cap, h.dn⟩
theorem RcR.lv {c : Cn} {n fr en i J : Nat} {r : Rl} {q : RcG} (h : RcR c n fr en i r J q) : c.Lv n r.w r.x := by
  obtain ⟨h1, _, h3⟩ := h.s.rc.best i _ h.ie (zz_at h.e)
  exact ⟨h1, h3 h.fi⟩
theorem RcR.rdr {c : Cn} {n fr en i J : Nat} {r : Rl} {q : RcG} (h : RcR c n fr en i r J q) : r.RdH c q.HX := h.s.rd r (List.mem_of_getElem? h.e)
theorem RcR.fin {c : Cn} {n fr en i : Nat} {r : Rl} {q : RcG} (h : RcR c n fr en i r ((c.n + 1) * (c.n + 1)) q) (k : Nat) : RcS c n fr en (i + 1) { q with k := k } := by
  refine ⟨h.s.rc, h.s.rd, h.s.len, h.s.cap, fun j z h1 h2 h3 => ?_⟩
  by_cases hj : j = i
  · subst hj
    have := zz_at h.e
    change (List.map Rl.zz q.rs)[j]? = some z at h3
    rw [this] at h3
    cases h3
    exact h.d
  · exact h.s.dn j z h1 (by omega) h3
theorem RcR.skip {c : Cn} {n fr en i J : Nat} {r : Rl} {q : RcG} (h : RcR c n fr en i r J q) (k : Nat) (hp : ¬ c.pE r.x (pA c.n J) = 0) : RcR c n fr en i r (J + 1) { q with k := k } :=
  ⟨⟨h.s.rc, h.s.rd, h.s.len, h.s.cap, h.s.dn⟩, h.e, h.fi, h.ie, by rw [Cn.psJ_no hp]; exact h.d⟩
theorem RcR.knw {c : Cn} {n fr en i J : Nat} {r : Rl} {q : RcG} (h : RcR c n fr en i r J q) (k : Nat) {p : Po} (hpA : pA c.n J = p) (hJ : J < (c.n + 1) * (c.n + 1)) (hp : c.pE r.x (p) = 0) (hk : c.Kn n (c.stp r.x (p))) : RcR c n fr en i r (J + 1) { q with k := k } := by
  subst hpA
  obtain ⟨_, h2⟩ := Cn.ps_at hJ hp
  refine ⟨⟨h.s.rc, h.s.rd, h.s.len, h.s.cap, h.s.dn⟩, h.e, h.fi, h.ie, ?_⟩
  rw [Cn.psJ_yes hp, List.length_append, List.length_singleton]
  exact h.d.step (fun _ _ h => h) fun hn => absurd (by rw [h2]; exact hk) hn
theorem RcR.nxt {c : Cn} {n fr en i J : Nat} {r : Rl} {q : RcG} (h : RcR c n fr en i r J q) (hJ : J < (c.n + 1) * (c.n + 1)) (hp : c.pE r.x (pA c.n J) = 0) (q' : RcG) (hP : q'.P = addP q.P (c.stp r.x (pA c.n J)) (c.nx r.w r.x (pA c.n J)))
    (hrc : c.RcI n fr en q'.P q'.look (q'.rs.map Rl.zz) q'.ks) (hrd : ∀ r ∈ q'.rs, r.RdH c q'.HX) (hlen : (rRow c q'.rs ++ q'.junk).length = q'.cap * 5) (hcap : q'.rs.length ≤ q'.cap) (hsame : ∀ j, j < en → q'.rs[j]? = q.rs[j]?) : RcR c n fr en i r (J + 1) q' := by
  obtain ⟨_, h2⟩ := Cn.ps_at hJ hp
  have hm : ∀ y v, q.P y v → q'.P y v := fun y v h => by rw [hP]; exact .inl h
  refine ⟨⟨hrc, hrd, hlen, hcap, fun j z h1 h2 h3 => ?_⟩, by rw [hsame i h.ie]; exact h.e, h.fi, h.ie, ?_⟩
  · rw [List.getElem?_map, hsame j (by have := h.ie; omega), ← List.getElem?_map] at h3
    have := h.s.dn j z h1 h2 h3
    exact fun t ht hn => hm _ _ (this t ht hn)
  · rw [Cn.psJ_yes hp, List.length_append, List.length_singleton]
    exact h.d.step hm fun hn => by rw [hP, h2]; exact .inr ⟨rfl, rfl⟩
theorem RcR.push {c : Cn} (hok : c.Ok) {n fr en i J : Nat} {r y : Rl} {q : RcG} (h : RcR c n fr en i r J q) {p : Po} (hpA : pA c.n J = p) (hJ : J < (c.n + 1) * (c.n + 1)) (hp : c.pE r.x (p) = 0) (hk : q.ks.getD (c.ky (c.stp r.x (p))).toNat 0 = 0)
    (hyx : y.x = c.stp r.x (p)) (hyw : y.w = c.nx r.w r.x (p)) {HX : List Blk} (hs : q.HX.Sublist HX) (hy : y.RdH c HX) (k bo : Nat) {cap : Nat} {junk : List Value} (hlen : (rRow c (q.rs ++ [y]) ++ junk).length = cap * 5) (hcap : q.rs.length + 1 ≤ cap) :
    RcR c n fr en i r (J + 1) ⟨k, addP q.P (c.stp r.x (p)) (c.nx r.w r.x (p)), addL q.look (c.stp r.x (p)) (c.nx r.w r.x (p)), q.rs ++ [y], q.ks.set (c.ky (c.stp r.x (p))).toNat ((q.rs.length : Int) + 1), bo, cap, junk, HX⟩ := by
  subst hpA
  refine h.nxt hJ hp _ rfl ?_ (fun z hz => ?_) hlen (by simpa using hcap) fun j hj => ?_
  · have := h.s.rc.push hok h.lv hp hk
    rw [List.length_map] at this
    simp only [List.map_append, List.map_cons, List.map_nil]
    rw [show y.zz = (c.stp r.x (pA c.n J), c.nx r.w r.x (pA c.n J)) by unfold Rl.zz; rw [hyx, hyw]]
    exact this
  · rcases List.mem_append.1 hz with hz | hz
    · exact (h.s.rd z hz).mono hs
    · simp only [List.mem_singleton] at hz; subst hz; exact hy
  · have he := h.s.rc.enl
    rw [List.length_map] at he
    exact List.getElem?_append_left (by omega)
theorem set_same {α : Type} {l : List α} {j : Nat} {a : α} (h : l[j]? = some a) : l.set j a = l := by
  obtain ⟨hj, rfl⟩ := List.getElem?_eq_some_iff.1 h
  exact List.set_getElem_self hj
theorem RcR.keep {c : Cn} {n fr en i J j : Nat} {r : Rl} {u : Wy} {q : RcG} (h : RcR c n fr en i r J q) {p : Po} (hpA : pA c.n J = p) (hJ : J < (c.n + 1) * (c.n + 1)) (hp : c.pE r.x (p) = 0) (hj : (q.rs.map Rl.zz)[j]? = some (c.stp r.x (p), u)) (hje : en ≤ j) (hl : q.look (c.stp r.x (p)) = some u) (hkn : ¬ c.Kn n (c.stp r.x (p)))
    (hlt : (c.nx r.w r.x (p)).lt u = false) (k : Nat) :
    RcR c n fr en i r (J + 1) ⟨k, addP q.P (c.stp r.x (p)) (c.nx r.w r.x (p)), addL q.look (c.stp r.x (p)) (c.nx r.w r.x (p)), q.rs, q.ks, q.bo, q.cap, q.junk, q.HX⟩ := by
  subst hpA
  refine h.nxt hJ hp _ rfl ?_ h.s.rd h.s.len h.s.cap fun _ _ => rfl
  have := h.s.rc.upd h.lv hp hj hje hl hkn
  rw [show pickW (some u) (c.nx r.w r.x (pA c.n J)) = u by unfold pickW; simp [hlt], set_same hj] at this
  exact this
theorem RcR.upd {c : Cn} {n fr en i J j : Nat} {r y : Rl} {u : Wy} {q : RcG} (h : RcR c n fr en i r J q) {p : Po} (hpA : pA c.n J = p) (hJ : J < (c.n + 1) * (c.n + 1)) (hp : c.pE r.x (p) = 0) (hj : (q.rs.map Rl.zz)[j]? = some (c.stp r.x (p), u)) (hje : en ≤ j) (hl : q.look (c.stp r.x (p)) = some u) (hkn : ¬ c.Kn n (c.stp r.x (p)))
    (hlt : (c.nx r.w r.x (p)).lt u = true) (hyx : y.x = c.stp r.x (p)) (hyw : y.w = c.nx r.w r.x (p)) {HX : List Blk} (hs : q.HX.Sublist HX) (hy : y.RdH c HX) (k : Nat) :
    RcR c n fr en i r (J + 1) ⟨k, addP q.P (c.stp r.x (p)) (c.nx r.w r.x (p)), addL q.look (c.stp r.x (p)) (c.nx r.w r.x (p)), q.rs.set j y, q.ks, q.bo, q.cap, q.junk, HX⟩ := by
  subst hpA
  refine h.nxt hJ hp _ rfl ?_ (fun z hz => ?_) ?_ (by rw [List.length_set]; exact h.s.cap) fun t ht => ?_
  · have := h.s.rc.upd h.lv hp hj hje hl hkn
    rw [show pickW (some u) (c.nx r.w r.x (pA c.n J)) = c.nx r.w r.x (pA c.n J) by unfold pickW; simp [hlt]] at this
    simp only [List.map_set]
    rw [show y.zz = (c.stp r.x (pA c.n J), c.nx r.w r.x (pA c.n J)) by unfold Rl.zz; rw [hyx, hyw]]
    exact this
  · rcases List.mem_or_eq_of_mem_set hz with hz | rfl
    · exact (h.s.rd z hz).mono hs
    · exact hy
  · have := h.s.len
    rw [List.length_append, rRow_len] at this ⊢
    rw [List.length_set]; exact this
  · exact List.getElem?_set_ne (by omega)
/-- What the reference's Pour tells of an entry. -/
theorem rpourE_any (c : Cn) (x : Co) (p : Po) (s : Option Addr) (ks : Nat) (i : Option Addr) (ki : Nat) (w : World) (hok : c.Ok) (hin : c.In x) (h1 : Ints w s c.n ks c.sz) (h2 : Ints w i (c.of x).inn.length ki (c.of x).inn) :
    Ct Tryd.prog 12 #[.agg #[.slice s c.n ks, .slice i (c.of x).inn.length ki, .int .i64 x.a], .agg p.cells.toArray] w fun v Hn => ∃ q x1 t1 x2 t2 J1 J2, v = .tuple #[.agg #[.slice x1 q.n t1, .slice x2 q.inn.length t2, .int .i64 q.st], .int .i64 (c.pE x p)] ∧ (c.pE x p = 0 → q = c.of (c.stp x p)) ∧ NewRow 3 1 q.n (iv q.sz) (.slice x1 q.n t1) J1 ∧ NewRow 3 1 q.inn.length (iv q.inn) (.slice x2 q.inn.length t2) J2 ∧ J1.Sublist Hn ∧ J2.Sublist Hn := by
  have hokx := hok.of hin
  have hco := hok.of_co hin
  have h3 := hokx.n3
  have hpe : (c.of x).poE p = c.pE x p := by unfold Cn.poE; rw [if_pos (Cn.ok_iff.2 hokx), Cn.of_pE hco]
  have hpc : c.pE x p = 0 → (c.of x).poC p = c.of (c.stp x p) := fun h => by
    unfold Cn.poC
    rw [if_pos (Cn.ok_iff.2 hokx), if_pos (by rw [Cn.of_pE hco]; exact h), hco]; rfl
  refine (rpour_any (c.of x) s ks i ki p w (by omega) (by rw [hokx.len]; omega) h1 h2).mono fun v Hn => ?_
  rintro ⟨_, rfl, x1, t1, x2, t2, J1, J2, rfl, g1, g2, rfl⟩
  exact ⟨(c.of x).poC p, x1, t1, x2, t2, J1, J2, by rw [hpe], hpc, g1, g2, List.sublist_append_left _ _, List.sublist_append_right _ _⟩
end Go.Proofs.YtjekjehgmljbgaaDoor.T

/- What the reference has reached: its walk. -/
namespace Go.Proofs.YtjekjehgmljbgaaDoor.T
open Go.RowKit Go.Proofs Go.Eng
set_option maxRecDepth 100000
set_option maxHeartbeats 1000000
set_option linter.unusedVariables false
set_option linter.unusedSimpArgs false

theorem bd128_0 {x0_0a : Option Addr} {x0_0l x0_0c : Nat} {x0_1a : Option Addr} {x0_1l x0_1c : Nat} {x0_2 : Int} : ∀ w, (Instr.build 128 #[(0, .agg #[.slice x0_0a x0_0l x0_0c, .slice x0_1a x0_1l x0_1c, .int .i64 x0_2])]).run Tryd.prog w = .ok (.agg #[.slice x0_0a x0_0l x0_0c, .slice x0_1a x0_1l x0_1c, .int .i64 x0_2, .slice none 0 0, .int .i64 0]) w := fun w => by kernel_rfl
theorem bd128_0_1_2 {x0_0a : Option Addr} {x0_0l x0_0c : Nat} {x0_1a : Option Addr} {x0_1l x0_1c : Nat} {x0_2 : Int} {x1a : Option Addr} {x1l x1c : Nat} {x2 : Int} : ∀ w, (Instr.build 128 #[(0, .agg #[.slice x0_0a x0_0l x0_0c, .slice x0_1a x0_1l x0_1c, .int .i64 x0_2]), (1, .slice x1a x1l x1c), (2, .int .i64 x2)]).run Tryd.prog w = .ok (.agg #[.slice x0_0a x0_0l x0_0c, .slice x0_1a x0_1l x0_1c, .int .i64 x0_2, .slice x1a x1l x1c, .int .i64 x2]) w := fun w => by kernel_rfl
theorem bs131_1_0 {x0_0a : Option Addr} {x0_0l x0_0c : Nat} {x0_1a : Option Addr} {x0_1l x0_1c : Nat} {x0_2 : Int} {x0_3a : Option Addr} {x0_3l x0_3c : Nat} {x0_4 : Int} : ∀ w, (Instr.buildSlice 131 1 #[(0, .agg #[.slice x0_0a x0_0l x0_0c, .slice x0_1a x0_1l x0_1c, .int .i64 x0_2, .slice x0_3a x0_3l x0_3c, .int .i64 x0_4])]).run Tryd.prog w = .ok (.slice (some ⟨w.heap.size, 0, none⟩) 1 1) (w.alloc (CB [.slice x0_0a x0_0l x0_0c, .slice x0_1a x0_1l x0_1c, .int .i64 x0_2, .slice x0_3a x0_3l x0_3c, .int .i64 x0_4] 128)) := fun w => by kernel_rfl
theorem fa128_0 : ∀ b o w, (Instr.fieldAt 128 (.pointer (some ⟨b, o, none⟩)) 0).run Tryd.prog w = .ok (.pointer (some ⟨b, o + 0, none⟩)) w := fun b o w => by kernel_rfl

/-- All that is reached, in memory. -/
def RchV (c : Cn) (v : Value) (Hn : List Blk) : Prop := ∃ rs bo cap junk HX, v = .slice (some ⟨bo, 0, none⟩) rs.length cap ∧ Hn = (bo, CB (rRow c rs ++ junk) 128) :: HX ∧ c.Rcd (rs.map Rl.zz) ∧ (∀ r ∈ rs, r.RdH c HX) ∧ rs.length ≤ cap
theorem zeros_rep (n : Nat) : ((List.range n).flatMap fun _ => [Value.int .i64 0]) = iv (List.replicate n 0) := by
  unfold iv
  induction n with
  | zero => rfl
  | succ n ih => rw [List.range_succ, List.flatMap_append, ih, List.replicate_succ']; simp
def Cn.key (c : Cn) (y : Co) : Nat := (c.ky y).toNat
theorem Cn.key_eq {c : Cn} (hok : c.Ok) {y : Co} (hy : c.In y) : c.ky y = (c.key y : Int) ∧ c.key y < 9261 := by
  have := Cn.ky_bd hok hy
  unfold Cn.key
  omega
theorem Cn.of_bd {c : Cn} (hok : c.Ok) {y : Co} (hy : c.In y) : ∀ k, k < (c.of y).inn.length → 0 ≤ (c.of y).inn.getD k 0 ∧ (c.of y).inn.getD k 0 ≤ 20 := fun k hk => by
  have hoky := hok.of hy
  rw [hoky.len] at hk
  have h1 := hoky.i k hk
  have h2 := hoky.s k hk
  change 0 ≤ (c.of y).i k ∧ (c.of y).i k ≤ 20
  omega
theorem Src_pos {C : Ctx} {H : List Blk} {l : List Po} {a : Option Addr} {k : Nat} (hp : ∀ w, St C H w → Pos w a l.length k l) {w : World} (hw : St C H w) : Src C H a l.length (rowOf Po.cells (fun k => l.getD k Po.z) l.length) := by
  by_cases h0 : l.length = 0
  · exact .inl ⟨h0, by rw [h0]; rfl⟩
  · obtain ⟨b, o, rfl, _⟩ := (hp w hw).cell 0 (by omega)
    exact .inr ⟨b, o, rfl, fun w' hw' => Rws.row po_len (hp w' hw') _ (Nat.le_refl _)⟩
theorem infWy : (Tryd.prog.info? 128).map (fun i => (i.zero, i.size, i.bytes)) = some (some (.agg #[.slice none 0 0, .slice none 0 0, .int .i64 0, .slice none 0 0, .int .i64 0]), 5, 88) := by kernel_rfl
theorem reached_any (c : Cn) (a1 : Option Addr) (p1 : Nat) (a2 : Option Addr) (p2 : Nat) (w : World) (hok : c.Ok) (hn : c.n ≤ 1000000) (hm : c.inn.length ≤ 1000000) (h1 : Ints w a1 c.n p1 c.sz) (h2 : Ints w a2 c.inn.length p2 c.inn) : Ct Tryd.prog 67 #[.agg #[.slice a1 c.n p1, .slice a2 c.inn.length p2, .int .i64 c.st]] w (RchV c) := by
  have hn1 := hok.n1
  have hn3 := hok.n3
  have hco := hok.co_of
  have hk0 := Cn.key_eq hok hok.co_in
  obtain ⟨N, hN⟩ : ∃ N : Nat, N = 9261 := ⟨_, rfl⟩
  obtain ⟨K0, hK0⟩ : ∃ K0, K0 = List.replicate N (0 : Int) := ⟨_, rfl⟩
  have hKl : K0.length = N := by rw [hK0]; exact List.length_replicate
  have hR0 := Cn.Rc0.first hok
  rw [← hN, ← hK0] at hR0
  have hF := wide_wide
  refine Ct_start (args := [_]) Tryd.func67 (by rfl) Tryd.ntmps67 (by rfl) ?_
  refine W_seq ?_
  refine W_region_lit (fun ds => ?_)
  refine WS_new hF (by rfl) (y_box (by rfl)) (fun b1 => ?_)
  refine WS_det hF (by rfl) (y_assign (c := .slice _ _ _) (by rfl)) ?_
  refine WS_nil ?_
  refine Then_normal ?_
  refine W_seq ?_
  refine W_region_lit (fun ds => ?_)
  generalize hZ : (9261 : Int) = Z
  refine WS_gen hF (by rfl) (y_makeRow (n := N) (by rfl) (by rfl) (by omega) (by omega) Tryd.underlying22 infInt (by rfl) (by rfl) (by omega) (by omega) (show ((List.range N).flatMap fun _ => [Value.int .i64 0]) = iv K0 by rw [hK0]; exact zeros_rep N)) ?_
  rintro _ Hk hrk0
  obtain ⟨ka, kcap, rfl, hrk⟩ := NewRow.sl hrk0
  obtain ⟨bk, jk, rfl, rfl, hkl, hkc⟩ := NewRow.head hrk (by omega)
  refine WS_det hF (by rfl) (y_assign (c := .slice _ _ _) (by rfl)) ?_
  refine WS_nil ?_
  refine Then_normal ?_
  refine W_seq ?_
  refine W_region_lit (fun ds => ?_)
  refine WS_det hF (by rfl) (y_loadN (by rfl) Tryd.isAgg24 Tryd.sizeOf24 (Mem.own (us := [.slice _ _ _, .slice _ _ _, .int .i64 _]) 1 (by rfl) (by rfl)) (by rfl)) ?_
  refine WS_gen hF (by rfl) (y_callL (by rfl) (by rfl) Tryd.call10 (fun w hw => rctwin_any c a1 p1 a2 p2 w hn hm (h1.st w hw) (h2.st w hw))) ?_
  rintro _ _ ⟨z1, q1, z2, q2, H1, H2, rfl, hr1, hr2, rfl⟩
  refine WS_back ?_
  refine WS_det hF (by rfl) (y_buildL bd128_0 (by rfl)) ?_
  refine WS_newS hF (by rfl) (y_buildSliceL bs131_1_0 (by rfl)) (fun b2 => ?_)
  refine WS_det hF (by rfl) (y_assign (c := .slice _ _ _) (by rfl)) ?_
  refine WS_nil ?_
  refine Then_normal ?_
  refine W_seq ?_
  refine W_region_lit (fun ds => ?_)
  refine WS_det hF (by rfl) (y_move (c := .slice _ _ _) (by rfl)) ?_
  refine WS_det hF (by rfl) (y_loadN (by rfl) Tryd.isAgg24 Tryd.sizeOf24 (Mem.own (us := [.slice _ _ _, .slice _ _ _, .int .i64 _]) 2 (by rfl) (by rfl)) (by rfl)) ?_
  refine WS_det hF (by rfl) (y_callL (by rfl) (by rfl) Tryd.call108 (fun w hw => Ct_eq (rkey_any c a1 p1 a2 p2 w hn (by rw [hok.len]; omega) (by have := Cn.of_bd hok hok.co_in; rw [hco] at this; exact this) (h2.st w hw)) (show Value.int .i64 (kyL 0 c.inn) = .int .i64 (c.key c.co : Int) by rw [← hk0.1]; unfold Cn.ky; rw [hco]))) ?_
  refine WS_det hF (by rfl) (y_index (k := c.key c.co) (by rfl) (by rfl) (by first | rfl | omega) (by first | decide | omega) Tryd.runUnderlying22 Tryd.sizeOf3) ?_
  refine WS_store hF (us := [.int .i64 _]) (i := 1) (by rfl) (by rfl) Tryd.sizeOf3 (by rfl) (by rfl) (by rfl) (fit_iv (by omega)) ?_
  refine WS_nil ?_
  refine Then_normal ?_
  refine W_seq ?_
  refine W_seq ?_
  rw [splice_iv _ _ _ _ (by omega)]
  have hrd0 : ∀ r ∈ [(⟨c.co, ⟨[], 0⟩, z1, q1, z2, q2, none, 0⟩ : Rl)], r.RdH c (H1 ++ H2) := fun r hr => by
    simp only [List.mem_singleton] at hr
    subst hr
    exact ⟨fun C H w h hw => NewRow.ints hr1 rfl ((List.sublist_append_left _ _).trans h) w hw, fun C H w h hw => by
      have := NewRow.ints hr2 rfl ((List.sublist_append_right _ _).trans h) w hw
      simp only [hco]; exact this, fun C H w _ _ => Rws.nil _ _ _⟩
  rw [show CB [.slice z1 c.n q1, .slice z2 c.inn.length q2, .int .i64 c.st, .slice none 0 0, .int .i64 0] 128 = CB (rRow c [⟨c.co, ⟨[], 0⟩, z1, q1, z2, q2, none, 0⟩] ++ []) 128 by rw [← show (c.of c.co).inn.length = c.inn.length by rw [hco]]; rfl]
  refine W_region_lit (fun ds => ?_)
  refine WS_det hF (by rfl) (y_assign (c := .int .i64 _) (by rfl)) ?_
  refine WS_nil ?_
  refine Then_normal ?_
  refine W_block ?_
  refine W_loop (γ := Nat × Nat × RcG) (fun q => q.1 ≤ 9261 ∧ c.Rc0 q.1 q.2.1 (q.2.2.rs.map Rl.zz) q.2.2.ks ∧ (∀ r ∈ q.2.2.rs, r.RdH c q.2.2.HX) ∧ (rRow c q.2.2.rs ++ q.2.2.junk).length = q.2.2.cap * 5 ∧ q.2.2.rs.length ≤ q.2.2.cap) (fun q => [(1, .pointer (some ⟨b1, 0, none⟩)), (3, .slice (some ⟨bk, 0, none⟩) N kcap), (4, .slice (some ⟨q.2.2.bo, 0, none⟩) q.2.2.rs.length q.2.2.cap), (5, .int .i64 (q.2.1 : Int))]) (fun q => (q.2.2.bo, CB (rRow c q.2.2.rs ++ q.2.2.junk) 128) :: (bk, CB (iv q.2.2.ks ++ jk) 3) :: (b1, CB [.slice a1 c.n p1, .slice a2 c.inn.length p2, .int .i64 c.st] 24) :: q.2.2.HX) (fun q => 9262 - q.1) ((0, 0, RcG.mk 0 (fun _ _ => False) (fun _ => none) [⟨c.co, ⟨[], 0⟩, z1, q1, z2, q2, none, 0⟩] (K0.set (c.key c.co) 1) b2 1 [] (H1 ++ H2))) ⟨Nat.zero_le _, hR0, hrd0, rfl, Nat.le_refl _⟩ (by repeat (first | exact trivial | refine ⟨by rfl, ?_⟩)) (sbA) ?_
  rintro ⟨n, fr, ⟨k, P, lookM, rs, ks, bo, cap, junk, HX⟩⟩ e ⟨(hn9 : n ≤ 9261), (hR : c.Rc0 n fr (rs.map Rl.zz) ks), (hrd : ∀ r ∈ rs, r.RdH c HX), (hlen : (rRow c rs ++ junk).length = cap * 5), (hcap : rs.length ≤ cap)⟩
  refine W_seq ?_
  refine W_seq ?_
  refine W_region_lit (fun ds => ?_)
  refine WS_det hF (by rfl) (y_move (c := .int .i64 _) (by rfl)) ?_
  refine WS_det hF (by rfl) (y_move (c := .slice _ _ _) (by rfl)) ?_
  refine WS_det hF (by rfl) (y_len (by rfl) Tryd.runUnderlying131) ?_
  refine WS_det hF (by rfl) (y_lss (by rfl) (by rfl)) ?_
  refine WS_nil ?_
  refine Then_normal ?_
  refine W_cond (by rfl) (fun c5 => ?_) (fun c5 => ?_)
  ·
    try simp only [Bool.not_eq_true', Bool.not_eq_false', decide_eq_true_eq, decide_eq_false_iff_not, ne_eq, Classical.not_not, Int.not_lt, Int.not_le] at c5
    have hfr : fr < rs.length := by omega
    have hn8 : n ≤ 9260 := hR.n_bd hok (by rw [List.length_map]; exact hfr)
    have hS0 : RcS c n fr rs.length fr ⟨fr, fun _ _ => False, fun _ => none, rs, ks, bo, cap, junk, HX⟩ := ⟨by have := hR.start; rw [List.length_map] at this; exact this, hrd, hlen, hcap, fun j z h1 h2 => by omega⟩
    have hbd0 : rs.length ≤ 9261 := hS0.bd hok
    refine W_skip ?_
    refine Then_normal ?_
    refine W_block ?_
    refine W_seq ?_
    refine W_region_lit (fun ds => ?_)
    refine WS_det hF (by rfl) (y_move (c := .slice _ _ _) (by rfl)) ?_
    refine WS_det hF (by rfl) (y_len (by rfl) Tryd.runUnderlying131) ?_
    refine WS_det hF (by rfl) (y_assign (c := .int .i64 _) (by rfl)) ?_
    refine WS_nil ?_
    refine Then_normal ?_
    refine W_seq ?_
    refine W_seq ?_
    refine W_region_lit (fun ds => ?_)
    refine WS_det hF (by rfl) (y_move (c := .int .i64 _) (by rfl)) ?_
    refine WS_det hF (by rfl) (y_assign (c := .int .i64 _) (by rfl)) ?_
    refine WS_nil ?_
    refine Then_normal ?_
    refine W_block ?_
    refine W_loop (γ := RcG) (fun q => fr ≤ q.k ∧ q.k ≤ rs.length ∧ RcS c n fr rs.length q.k q) (fun q => [(1, .pointer (some ⟨b1, 0, none⟩)), (3, .slice (some ⟨bk, 0, none⟩) N kcap), (4, .slice (some ⟨q.bo, 0, none⟩) q.rs.length q.cap), (6, .int .i64 (rs.length : Int)), (7, .int .i64 (q.k : Int))]) (fun q => (q.bo, CB (rRow c q.rs ++ q.junk) 128) :: (bk, CB (iv q.ks ++ jk) 3) :: (b1, CB [.slice a1 c.n p1, .slice a2 c.inn.length p2, .int .i64 c.st] 24) :: q.HX) (fun q => rs.length - q.k) ((RcG.mk fr (fun _ _ => False) (fun _ => none) rs ks bo cap junk HX)) ⟨Nat.le_refl _, Nat.le_of_lt hfr, hS0⟩ (by repeat (first | exact trivial | refine ⟨by rfl, ?_⟩)) (sbA) ?_
    rintro ⟨i, P1, look1, rs1, ks1, bo1, cap1, junk1, HX1⟩ e ⟨(hfi : fr ≤ i), (hie : i ≤ rs.length), hS1⟩
    refine W_seq ?_
    refine W_seq ?_
    refine W_region_lit (fun ds => ?_)
    refine WS_det hF (by rfl) (y_move (c := .int .i64 _) (by rfl)) ?_
    refine WS_det hF (by rfl) (y_move (c := .int .i64 _) (by rfl)) ?_
    refine WS_det hF (by rfl) (y_lss (by rfl) (by rfl)) ?_
    refine WS_nil ?_
    refine Then_normal ?_
    refine W_cond (by rfl) (fun c8 => ?_) (fun c8 => ?_)
    ·
      try simp only [Bool.not_eq_true', Bool.not_eq_false', decide_eq_true_eq, decide_eq_false_iff_not, ne_eq, Classical.not_not, Int.not_lt, Int.not_le] at c8
      have hien : i < rs.length := by omega
      obtain ⟨r, hri, hRR⟩ := hS1.ent hien hfi
      have hlv := hRR.lv
      have hin := (hlv.1.way.in hok).1
      have hbl := hlv.1.len hok
      have hbk := Cn.Best.back hok hlv.1.way
      have q1 : 0 ≤ r.x.a := hin.lo 0 (by decide)
      have q2 : r.x.a ≤ 600 := hin.hi 0 (Nat.zero_le _)
      have hl2 := hlv.2
      refine W_skip ?_
      refine Then_normal ?_
      refine W_seq ?_
      refine W_block ?_
      refine W_seq ?_
      refine W_region_lit (fun ds => ?_)
      refine WS_det hF (by rfl) (y_assign (c := .int .i64 _) (by rfl)) ?_
      refine WS_nil ?_
      refine Then_normal ?_
      refine W_block ?_
      refine W_loop (γ := RcG) (fun q => q.k ≤ c.n + 1 ∧ RcR c n fr rs.length i r (q.k * (c.n + 1)) q) (fun q => [(1, .pointer (some ⟨b1, 0, none⟩)), (3, .slice (some ⟨bk, 0, none⟩) N kcap), (4, .slice (some ⟨q.bo, 0, none⟩) q.rs.length q.cap), (6, .int .i64 (rs.length : Int)), (7, .int .i64 (i : Int)), (8, .int .i64 (q.k : Int))]) (fun q => (q.bo, CB (rRow c q.rs ++ q.junk) 128) :: (bk, CB (iv q.ks ++ jk) 3) :: (b1, CB [.slice a1 c.n p1, .slice a2 c.inn.length p2, .int .i64 c.st] 24) :: q.HX) (fun q => c.n + 1 - q.k) ((RcG.mk 0 P1 look1 rs1 ks1 bo1 cap1 junk1 HX1)) ⟨Nat.zero_le _, by rw [Nat.zero_mul]; exact hRR.rk 0⟩ (by repeat (first | exact trivial | refine ⟨by rfl, ?_⟩)) (sbA) ?_
      rintro ⟨a, P2, look2, rs2, ks2, bo2, cap2, junk2, HX2⟩ e ⟨(ha : a ≤ c.n + 1), hR2⟩
      refine W_seq ?_
      refine W_seq ?_
      refine W_region_lit (fun ds => ?_)
      refine WS_det hF (by rfl) (y_move (c := .int .i64 _) (by rfl)) ?_
      refine WS_det hF (by rfl) (y_fieldAddr (by rfl) fa24_0) ?_
      refine WS_det hF (by rfl) (y_load1 (by rfl) Tryd.isAgg22 (Mem.own1 2 (by rfl) (by rfl))) ?_
      refine WS_det hF (by rfl) (y_len (by rfl) Tryd.runUnderlying22) ?_
      refine WS_det hF (by rfl) (y_leq (by rfl) (by rfl)) ?_
      refine WS_nil ?_
      refine Then_normal ?_
      refine W_cond (by rfl) (fun c11 => ?_) (fun c11 => ?_)
      ·
        try simp only [Bool.not_eq_true', Bool.not_eq_false', decide_eq_true_eq, decide_eq_false_iff_not, ne_eq, Classical.not_not, Int.not_lt, Int.not_le] at c11
        refine W_skip ?_
        refine Then_normal ?_
        refine W_seq ?_
        refine W_block ?_
        refine W_seq ?_
        refine W_region_lit (fun ds => ?_)
        refine WS_det hF (by rfl) (y_assign (c := .int .i64 _) (by rfl)) ?_
        refine WS_nil ?_
        refine Then_normal ?_
        refine W_block ?_
        refine W_loop (γ := RcG) (fun q => q.k ≤ c.n + 1 ∧ RcR c n fr rs.length i r (a * (c.n + 1) + q.k) q) (fun q => [(1, .pointer (some ⟨b1, 0, none⟩)), (3, .slice (some ⟨bk, 0, none⟩) N kcap), (4, .slice (some ⟨q.bo, 0, none⟩) q.rs.length q.cap), (6, .int .i64 (rs.length : Int)), (7, .int .i64 (i : Int)), (8, .int .i64 (a : Int)), (9, .int .i64 (q.k : Int))]) (fun q => (q.bo, CB (rRow c q.rs ++ q.junk) 128) :: (bk, CB (iv q.ks ++ jk) 3) :: (b1, CB [.slice a1 c.n p1, .slice a2 c.inn.length p2, .int .i64 c.st] 24) :: q.HX) (fun q => c.n + 1 - q.k) ((RcG.mk 0 P2 look2 rs2 ks2 bo2 cap2 junk2 HX2)) ⟨Nat.zero_le _, hR2.rk 0⟩ (by repeat (first | exact trivial | refine ⟨by rfl, ?_⟩)) (sbA) ?_
        rintro ⟨b, P3, look3, rs3, ks3, bo3, cap3, junk3, HX3⟩ e ⟨(hb : b ≤ c.n + 1), hR3⟩
        refine W_seq ?_
        refine W_seq ?_
        refine W_region_lit (fun ds => ?_)
        refine WS_det hF (by rfl) (y_move (c := .int .i64 _) (by rfl)) ?_
        refine WS_det hF (by rfl) (y_fieldAddr (by rfl) fa24_0) ?_
        refine WS_det hF (by rfl) (y_load1 (by rfl) Tryd.isAgg22 (Mem.own1 2 (by rfl) (by rfl))) ?_
        refine WS_det hF (by rfl) (y_len (by rfl) Tryd.runUnderlying22) ?_
        refine WS_det hF (by rfl) (y_leq (by rfl) (by rfl)) ?_
        refine WS_nil ?_
        refine Then_normal ?_
        refine W_cond (by rfl) (fun c14 => ?_) (fun c14 => ?_)
        ·
          try simp only [Bool.not_eq_true', Bool.not_eq_false', decide_eq_true_eq, decide_eq_false_iff_not, ne_eq, Classical.not_not, Int.not_lt, Int.not_le] at c14
          have hJ : a * (c.n + 1) + b < (c.n + 1) * (c.n + 1) := by
            have ha' : a ≤ c.n := by omega
            have hb' : b ≤ c.n := by omega
            have : a * (c.n + 1) ≤ c.n * (c.n + 1) := Nat.mul_le_mul_right _ ha'
            rw [Nat.succ_mul c.n (c.n + 1)]
            omega
          have hpA : pA c.n (a * (c.n + 1) + b) = ⟨(a : Int), (b : Int)⟩ := pA_eq (by omega)
          have hrd3 := hR3.rdr
          have hbd3 : rs3.length ≤ 9261 := hR3.s.bd hok
          have hcap3 : rs3.length ≤ cap3 := hR3.s.cap
          have hi3 : i < rs3.length := (List.getElem?_eq_some_iff.1 hR3.e).1
          refine W_skip ?_
          refine Then_normal ?_
          refine W_seq ?_
          refine W_block ?_
          refine W_seq ?_
          refine W_seq ?_
          refine W_region_lit (fun ds => ?_)
          refine WS_det hF (by rfl) (y_move (c := .int .i64 _) (by rfl)) ?_
          refine WS_det hF (by rfl) (y_move (c := .int .i64 _) (by rfl)) ?_
          refine WS_det hF (by rfl) (y_eql (by rfl) (by rfl)) ?_
          refine WS_nil ?_
          refine Then_normal ?_
          refine W_cond (by rfl) (fun c16 => ?_) (fun c16 => ?_)
          ·
            try simp only [Bool.not_eq_true', Bool.not_eq_false', decide_eq_true_eq, decide_eq_false_iff_not, ne_eq, Classical.not_not, Int.not_lt, Int.not_le] at c16
            have hR6 : RcR c n fr rs.length i r (a * (c.n + 1) + (b + 1)) ⟨b + 1, P3, look3, rs3, ks3, bo3, cap3, junk3, HX3⟩ := hR3.skip (b + 1) (by rw [hpA, Cn.pE_zero, Cn.vld_iff]; rintro ⟨⟨_, _, h⟩, _⟩; exact h c16)
            refine W_exit ?_
            refine Then_exit ?_
            refine InB_same ?_
            refine Then_normal ?_
            refine W_region_lit (fun ds => ?_)
            refine WS_det hF (by rfl) (y_move (c := .int .i64 _) (by rfl)) ?_
            refine WS_det hF (by rfl) (y_add (by rfl) (by rfl) (by unfold I64; first | omega | (simp only; omega))) ?_
            refine WS_det hF (by rfl) (y_assign (c := .int .i64 _) (by rfl)) ?_
            refine WS_nil ?_
            exact Loop_next (RcG.mk (b + 1) P3 look3 rs3 ks3 bo3 cap3 junk3 HX3) ⟨(by first | omega | (simp only; omega)), hR6⟩ (by repeat (first | exact trivial | refine ⟨by rfl, ?_⟩)) sbA (by first | omega | (simp only; omega))
          ·
            try simp only [Bool.not_eq_true', Bool.not_eq_false', decide_eq_true_eq, decide_eq_false_iff_not, ne_eq, Classical.not_not, Int.not_lt, Int.not_le] at c16
            refine W_skip ?_
            refine Then_normal ?_
            refine W_seq ?_
            refine W_region_lit (fun ds => ?_)
            refine WS_det hF (by rfl) (y_move (c := .int .i64 _) (by rfl)) ?_
            refine WS_det hF (by rfl) (y_move (c := .int .i64 _) (by rfl)) ?_
            refine WS_det hF (by rfl) (y_buildL bd26_0_1 (by rfl)) ?_
            refine WS_new hF (by rfl) (y_alloc Tryd.zeroValue26 (by rfl)) (fun b10 => ?_)
            refine WS_store hF (us := [.int .i64 _, .int .i64 _]) (i := 0) (by rfl) (by rfl) Tryd.sizeOf26 (by rfl) (by rfl) (by rfl) (by first | decide | exact Nat.le_of_ble_eq_true rfl | simp) ?_
            refine WS_nil ?_
            refine Then_normal ?_
            refine W_seq ?_
            refine W_draw0 hF Trydmixed [11] (by decide +kernel) (fun ds => ?_)
            refine P_det (by rfl) (Over_nil (y_move (c := .slice _ _ _) (by rfl))) ?_
            refine P_det (by rfl) (Over_nil (y_move (c := .int .i64 _) (by rfl))) ?_
            refine P_det (by rfl) (Over_nil (y_index (k := i) (by rfl) (by rfl) (by first | rfl | omega) (by first | decide | omega) Tryd.runUnderlying131 Tryd.sizeOf128)) ?_
            refine P_det (by rfl) (Over_nil (y_fieldAddr (by rfl) fa128_0)) ?_
            refine P_det (by rfl) (Over_nil (y_loadN (by rfl) Tryd.isAgg24 Tryd.sizeOf24 (Mem.rl 0 1 (by rfl) hR3.e (us := [.slice _ _ _, .slice _ _ _, .int _ _]) (by rfl) (by omega) (by omega)) (by rfl))) ?_
            refine P_det (by rfl) (Over_nil (y_loadN (by rfl) Tryd.isAgg26 Tryd.sizeOf26 (Mem.own (us := [.int .i64 _, .int .i64 _]) 0 (by rfl) (by rfl)) (by rfl))) ?_
            refine P_new (by rfl) (by rfl) (Over_nil (y_callL (by rfl) (by rfl) Tryd.call12 (fun w hw => rpourE_any c r.x ⟨(a : Int), (b : Int)⟩ r.s r.ks r.i r.ki w hok hin (hrd3.s _ _ w sbA hw) (hrd3.i _ _ w sbA hw)))) ?_
            refine P_ali [63] (fun e => e 63) (by rfl) (by rfl) (by rfl) (fun _ _ h => h 63 (List.mem_singleton.2 rfl)) (Over_in (by rfl) (Over_nil (by intro vb4 l63 hb4; obtain ⟨q, x1, t1, x2, t2, J1, J2, rfl, hq, g1, g2, gs1, gs2⟩ := hb4; obtain ⟨JJ, rfl⟩ : ∃ JJ, JJ = l63 := ⟨_, rfl⟩; exact (YD0_of (y_move (c := .tuple _) (by rfl)))))) ?_
            refine P_ali [56] (fun e => tupAt (e 56) 0) (by rfl) (by rfl) (by rfl) (fun _ _ h => congrArg (tupAt · 0) (h 56 (List.mem_singleton.2 rfl))) (Over_in (by rfl) (Over_in (by rfl) (Over_nil (by intro vb6 l63 hb6; obtain ⟨q, x1, t1, x2, t2, J1, J2, rfl, hq, g1, g2, gs1, gs2⟩ := hb6; obtain ⟨JJ, rfl⟩ : ∃ JJ, JJ = l63 := ⟨_, rfl⟩; rintro vb7 _ ⟨hvb7, rfl⟩; replace hvb7 : vb7 = .tuple _ := hvb7; subst hvb7; exact (YD0_of (y_extract (c := .agg _) (by rfl) (by rfl))))))) ?_
            refine P_ali [56] (fun e => tupAt (e 56) 1) (by rfl) (by rfl) (by rfl) (fun _ _ h => congrArg (tupAt · 1) (h 56 (List.mem_singleton.2 rfl))) (Over_out (by rfl) (Over_in (by rfl) (Over_in (by rfl) (Over_nil (by intro vb9 l63 hb9; obtain ⟨q, x1, t1, x2, t2, J1, J2, rfl, hq, g1, g2, gs1, gs2⟩ := hb9; obtain ⟨JJ, rfl⟩ : ∃ JJ, JJ = l63 := ⟨_, rfl⟩; rintro vb10 _ ⟨hvb10, rfl⟩; replace hvb10 : vb10 = .tuple _ := hvb10; subst hvb10; exact (YD0_of (y_extract (c := .int .i64 _) (by rfl) (by rfl)))))))) ?_
            refine P_newSD 64 (by rfl) (by rfl) (by rfl) (Over_out (by rfl) (Over_out (by rfl) (Over_out (by rfl) (Over_out (by rfl) (Over_nil (y_alloc Tryd.zeroValue24 (by rfl))))))) ?_
            refine P_st 11 0 (by rfl) (by rfl) (by rfl) (by rfl) (by rfl) (Over_out (by rfl) (Over_in (by rfl) (Over_in (by rfl) (Over_in (by rfl) (Over_nil (by intro vb12 l63 hb12; obtain ⟨q, x1, t1, x2, t2, J1, J2, rfl, hq, g1, g2, gs1, gs2⟩ := hb12; obtain ⟨JJ, rfl⟩ : ∃ JJ, JJ = l63 := ⟨_, rfl⟩; rintro vb13 _ ⟨hvb13, rfl⟩; replace hvb13 : vb13 = .tuple _ := hvb13; subst hvb13; rintro vb14 _ ⟨hvb14, rfl⟩; replace hvb14 : vb14 = .agg _ := hvb14; subst hvb14; exact (st_newD (by rfl) (by rfl) Tryd.sizeOf24 (by rfl) (by rfl) (by first | decide | exact Nat.le_of_ble_eq_true rfl | simp)))))))) ?_
            refine P_ali [65] (fun e => e 65) (by rfl) (by rfl) (by rfl) (fun _ _ h => h 65 (List.mem_singleton.2 rfl)) (Over_out (by rfl) (Over_in (by rfl) (Over_out (by rfl) (Over_in (by rfl) (Over_in (by rfl) (Over_nil (by intro vb15 l63 hb15; obtain ⟨q, x1, t1, x2, t2, J1, J2, rfl, hq, g1, g2, gs1, gs2⟩ := hb15; obtain ⟨JJ, rfl⟩ : ∃ JJ, JJ = l63 := ⟨_, rfl⟩; rintro vb16 _ ⟨hvb16, rfl⟩; replace hvb16 : vb16 = .tuple _ := hvb16; subst hvb16; rintro vb17 _ ⟨hvb17, rfl⟩; replace hvb17 : vb17 = .int .i64 _ := hvb17; subst hvb17; exact (YD0_of (y_assign (c := .int .i64 _) (by rfl)))))))))) ?_
            refine PW_end (by rfl) ?_
            refine OverAll_cons (fun w12 l12 => ?_)
            refine OverAll_cons (fun w11 l11 => ?_)
            refine OverAll_cons (fun w65 l65 => ?_)
            refine OverAll_cons (fun w64 l64 => ?_)
            refine OverAll_cons (fun w56 l56 => ?_)
            refine OverAll_cons (fun w63 l63 => ?_)
            refine OverAll_nil ?_
            rintro ⟨⟨⟨⟨⟨⟨-, h12⟩, h11⟩, h65⟩, h64⟩, h56⟩, h63⟩
            obtain ⟨q, x1, t1, x2, t2, J1, J2, rfl, hq, g1, g2, gs1, gs2⟩ := h63
            obtain ⟨JJ, rfl⟩ : ∃ JJ, JJ = l63 := ⟨_, rfl⟩
            obtain ⟨h56, rfl⟩ := h56
            replace h56 : w56 = .tuple _ := h56
            subst h56
            obtain ⟨h64, rfl⟩ := h64
            replace h64 : w64 = .agg _ := h64
            subst h64
            obtain ⟨h65, rfl⟩ := h65
            replace h65 : w65 = .int .i64 _ := h65
            subst h65
            obtain ⟨h12, rfl⟩ := h12
            replace h12 : w12 = .int .i64 _ := h12
            subst h12
            obtain ⟨b11, rfl, rfl⟩ := h11
            refine Then_normal ?_
            refine W_seq ?_
            refine W_seq ?_
            refine W_region_lit (fun ds => ?_)
            refine WS_pull (b1, _) (by repeat (first | exact Pul.base0 | exact Pul.base | apply Pul.cons | apply Pul.app)) ?_
            refine WS_pull (bk, _) (by repeat (first | exact Pul.base0 | exact Pul.base | apply Pul.cons | apply Pul.app)) ?_
            refine WS_pull (bo3, _) (by repeat (first | exact Pul.base0 | exact Pul.base | apply Pul.cons | apply Pul.app)) ?_
            refine WS_pull (b10, CB [.int .i64 (a : Int), .int .i64 (b : Int)] 26) (by repeat (first | exact Pul.base0 | exact Pul.base | apply Pul.cons | apply Pul.app)) ?_
            refine WS_pull (b11, CB [.slice x1 q.n t1, .slice x2 q.inn.length t2, .int .i64 q.st] 24) (by repeat (first | exact Pul.base0 | exact Pul.base | apply Pul.cons | apply Pul.app)) ?_
            refine WS_det hF (by rfl) (y_move (c := .int .i64 _) (by rfl)) ?_
            refine WS_det hF (by rfl) (y_neq (by rfl) (by rfl)) ?_
            refine WS_nil ?_
            refine Then_normal ?_
            refine W_cond (by rfl) (fun c19 => ?_) (fun c19 => ?_)
            ·
              try simp only [Bool.not_eq_true', Bool.not_eq_false', decide_eq_true_eq, decide_eq_false_iff_not, ne_eq, Classical.not_not, Int.not_lt, Int.not_le] at c19
              have hR6 : RcR c n fr rs.length i r (a * (c.n + 1) + (b + 1)) ⟨b + 1, P3, look3, rs3, ks3, bo3, cap3, junk3, HX3⟩ := hR3.skip (b + 1) (by rw [hpA]; exact c19)
              refine W_exit ?_
              refine Then_exit ?_
              refine InB_same ?_
              refine Then_normal ?_
              refine W_region_lit (fun ds => ?_)
              refine WS_det hF (by rfl) (y_move (c := .int .i64 _) (by rfl)) ?_
              refine WS_det hF (by rfl) (y_add (by rfl) (by rfl) (by unfold I64; first | omega | (simp only; omega))) ?_
              refine WS_det hF (by rfl) (y_assign (c := .int .i64 _) (by rfl)) ?_
              refine WS_nil ?_
              exact Loop_next (RcG.mk (b + 1) P3 look3 rs3 ks3 bo3 cap3 junk3 HX3) ⟨(by first | omega | (simp only; omega)), hR6⟩ (by repeat (first | exact trivial | refine ⟨by rfl, ?_⟩)) sbA (by first | omega | (simp only; omega))
            ·
              try simp only [Bool.not_eq_true', Bool.not_eq_false', decide_eq_true_eq, decide_eq_false_iff_not, ne_eq, Classical.not_not, Int.not_lt, Int.not_le] at c19
              obtain rfl := hq c19
              have hpe : c.pE r.x (⟨(a : Int), (b : Int)⟩ : Po) = 0 := c19
              have hyi : c.In (c.stp r.x (⟨(a : Int), (b : Int)⟩ : Po)) := hin.stp hn3 hpe
              have hky := Cn.key_eq hok hyi
              have q3 : 0 ≤ ((c.stp r.x (⟨(a : Int), (b : Int)⟩ : Po))).a := hyi.lo 0 (by decide)
              have q4 : ((c.stp r.x (⟨(a : Int), (b : Int)⟩ : Po))).a ≤ 600 := hyi.hi 0 (Nat.zero_le _)
              refine W_skip ?_
              refine Then_normal ?_
              refine W_seq ?_
              refine W_tailH 29 Trydmixed (fun e2 H2 => ∃ na ncap b13 Hl, NewRow 26 2 (c.nx r.w r.x (⟨(a : Int), (b : Int)⟩ : Po)).l.length (rowOf Po.cells (fun z => (c.nx r.w r.x (⟨(a : Int), (b : Int)⟩ : Po)).l.getD z Po.z) (c.nx r.w r.x (⟨(a : Int), (b : Int)⟩ : Po)).l.length) (.slice na (c.nx r.w r.x (⟨(a : Int), (b : Int)⟩ : Po)).l.length ncap) Hl ∧ Slots e2 [(1, .pointer (some ⟨b1, 0, none⟩)), (3, .slice (some ⟨bk, 0, none⟩) N kcap), (4, .slice (some ⟨bo3, 0, none⟩) rs3.length cap3), (6, .int .i64 (rs.length : Int)), (7, .int .i64 (i : Int)), (8, .int .i64 (a : Int)), (9, .int .i64 (b : Int)), (11, .pointer (some ⟨b11, 0, none⟩)), (13, .pointer (some ⟨b13, 0, none⟩)), (95, .agg #[.slice x1 c.n t1, .slice x2 (c.of (c.stp r.x (⟨(a : Int), (b : Int)⟩ : Po))).inn.length t2, .int .i64 ((c.stp r.x (⟨(a : Int), (b : Int)⟩ : Po))).a, .slice na (r.w.l.length + 1) ncap, .int .i64 (c.nx r.w r.x (⟨(a : Int), (b : Int)⟩ : Po)).back])] ∧ HSub H2 ((b13, CB [.slice none 0 0, .slice none 0 0, .int .i64 0, .slice none 0 0, .int .i64 0] 128) :: (b11, CB [.slice x1 c.n t1, .slice x2 (c.of (c.stp r.x (⟨(a : Int), (b : Int)⟩ : Po))).inn.length t2, .int .i64 ((c.stp r.x (⟨(a : Int), (b : Int)⟩ : Po))).a] 24) :: (bo3, CB (rRow c rs3 ++ junk3) 128) :: (bk, CB (iv ks3 ++ jk) 3) :: (b1, CB [.slice a1 c.n p1, .slice a2 c.inn.length p2, .int .i64 c.st] 24) :: (JJ ++ (HX3 ++ Hl)))) (by decide +kernel) (fun ds e2 H2 hmid => ?_) (fun ds => ?_)
              ·
                obtain ⟨na, ncap, b13, Hl, hrow, hsl, hsb⟩ := hmid
                rw [← c.nx_len r.w r.x (⟨(a : Int), (b : Int)⟩ : Po)] at hsl
                rw [← hsl.sets]
                refine WS_sub hsb ?_
                have hyr : Rl.RdH c (JJ ++ (HX3 ++ Hl)) ⟨(c.stp r.x (⟨(a : Int), (b : Int)⟩ : Po)), (c.nx r.w r.x (⟨(a : Int), (b : Int)⟩ : Po)), x1, t1, x2, t2, na, ncap⟩ := Rl.RdH.new g1 g2 hrow (gs1.trans sbA) (gs2.trans sbA) sbA
                have hHX : HX3.Sublist (JJ ++ (HX3 ++ Hl)) := sbA
                refine WS_store hF (us := [.slice _ _ _, .slice _ _ _, .int .i64 _, .slice _ _ _, .int .i64 _]) (i := 0) (by rfl) (by rfl) Tryd.sizeOf128 (by rfl) (by rfl) (by rfl) (by first | decide | exact Nat.le_of_ble_eq_true rfl | simp) ?_
                refine WS_nil ?_
                refine Then_normal ?_
                refine W_seq ?_
                refine W_region_lit (fun ds => ?_)
                refine WS_pull (b13, CB (Rl.cells c (⟨(c.stp r.x (⟨(a : Int), (b : Int)⟩ : Po)), (c.nx r.w r.x (⟨(a : Int), (b : Int)⟩ : Po)), x1, t1, x2, t2, na, ncap⟩ : Rl)) 128) (by repeat (first | exact Pul.base0 | exact Pul.base | apply Pul.cons | apply Pul.app)) ?_
                have hkl3 : ks3.length = 9261 := hR3.s.rc.tb.len
                have hlen3 : (rRow c rs3 ++ junk3).length = cap3 * 5 := hR3.s.len
                refine WS_det hF (by rfl) (y_move (c := .slice _ _ _) (by rfl)) ?_
                refine WS_det hF (by rfl) (y_loadN (by rfl) Tryd.isAgg24 Tryd.sizeOf24 (Mem.own (us := [.slice _ _ _, .slice _ _ _, .int .i64 _]) 1 (by rfl) (by rfl)) (by rfl)) ?_
                refine WS_det hF (by rfl) (y_callL (by rfl) (by rfl) Tryd.call108 (fun w hw => Ct_eq (rkey_any (c.of (c.stp r.x (⟨(a : Int), (b : Int)⟩ : Po))) x1 t1 x2 t2 w hn (by rw [(hok.of hyi).len]; exact hn3) (Cn.of_bd hok hyi) (NewRow.ints g2 rfl (gs2.trans sbA) w hw)) (show Value.int .i64 (kyL 0 (c.of (c.stp r.x (⟨(a : Int), (b : Int)⟩ : Po))).inn) = .int .i64 (c.key (c.stp r.x (⟨(a : Int), (b : Int)⟩ : Po)) : Int) by rw [← hky.1]; rfl))) ?_
                refine WS_det hF (by rfl) (y_index (k := c.key (c.stp r.x (⟨(a : Int), (b : Int)⟩ : Po))) (by rfl) (by rfl) (by first | rfl | omega) (by first | decide | omega) Tryd.runUnderlying22 Tryd.sizeOf3) ?_
                refine WS_det hF (by rfl) (y_load1 (by rfl) Tryd.isAgg3 (Mem.own (us := [.int .i64 (ks3.getD (c.key (c.stp r.x (⟨(a : Int), (b : Int)⟩ : Po))) 0)]) 3 (by rfl) (drop_iv (by omega) rfl))) ?_
                refine WS_det hF (by rfl) (y_assign (c := .int .i64 _) (by rfl)) ?_
                refine WS_nil ?_
                refine Then_normal ?_
                refine W_seq ?_
                refine W_region_lit (fun ds => ?_)
                refine WS_det hF (by rfl) (y_move (c := .int .i64 _) (by rfl)) ?_
                refine WS_det hF (by rfl) (y_eql (by rfl) (by rfl)) ?_
                refine WS_nil ?_
                refine Then_normal ?_
                refine W_cond (by rfl) (fun c22 => ?_) (fun c22 => ?_)
                ·
                  try simp only [Bool.not_eq_true', Bool.not_eq_false', decide_eq_true_eq, decide_eq_false_iff_not, ne_eq, Classical.not_not, Int.not_lt, Int.not_le] at c22
                  refine W_seq ?_
                  refine W_region_lit (fun ds => ?_)
                  refine WS_det hF (by rfl) (y_move (c := .slice _ _ _) (by rfl)) ?_
                  refine WS_det hF (by rfl) (y_loadN (by rfl) Tryd.isAgg128 Tryd.sizeOf128 (Mem.own (us := [.slice _ _ _, .slice _ _ _, .int .i64 _, .slice _ _ _, .int .i64 _]) 0 (by rfl) (by rfl)) (by rfl)) ?_
                  refine WS_newS hF (by rfl) (y_buildSliceL bs131_1_0 (by rfl)) (fun b19 => ?_)
                  refine WS_append hF (news := Rl.cells c (⟨(c.stp r.x (⟨(a : Int), (b : Int)⟩ : Po)), (c.nx r.w r.x (⟨(a : Int), (b : Int)⟩ : Po)), x1, t1, x2, t2, na, ncap⟩ : Rl)) (H1 := (_ :: _ :: _ :: [])) (Hn := [(bo3, CB (rRow c rs3 ++ junk3) 128)]) (by rfl) (by rfl) (by rfl) Tryd.underlying131 infWy (by rfl) (by rfl) (.inr ⟨bo3, junk3, rfl, rfl, rRow_len c rs3, hlen3, hcap3⟩) (.inr ⟨_, _, rfl, Mem.own (us := Rl.cells c (⟨(c.stp r.x (⟨(a : Int), (b : Int)⟩ : Po)), (c.nx r.w r.x (⟨(a : Int), (b : Int)⟩ : Po)), x1, t1, x2, t2, na, ncap⟩ : Rl)) 0 (by rfl) (by rfl)⟩) (by rfl) (by rfl) (by omega) (by omega) ?_
                  intro a4 cap4 H4 hr4
                  obtain ⟨bo4, junk4, rfl, rfl, hl4, hj4, hc4⟩ := hr4.resolve_left (by rintro ⟨_, h, _⟩; omega)
                  rw [← rRow_snoc] at hj4
                  rw [← rRow_snoc]
                  rw [show rs3.length + 1 = (rs3 ++ [(⟨(c.stp r.x (⟨(a : Int), (b : Int)⟩ : Po)), (c.nx r.w r.x (⟨(a : Int), (b : Int)⟩ : Po)), x1, t1, x2, t2, na, ncap⟩ : Rl)]).length by simp]
                  have hR6 := hR3.push hok hpA hJ hpe c22 (y := (⟨(c.stp r.x (⟨(a : Int), (b : Int)⟩ : Po)), (c.nx r.w r.x (⟨(a : Int), (b : Int)⟩ : Po)), x1, t1, x2, t2, na, ncap⟩ : Rl)) rfl rfl hHX hyr (b + 1) bo4 hj4 hc4
                  refine WS_det hF (by rfl) (y_assign (c := .slice _ _ _) (by rfl)) ?_
                  refine WS_nil ?_
                  refine Then_normal ?_
                  refine W_region_lit (fun ds => ?_)
                  refine WS_det hF (by rfl) (y_move (c := .slice _ _ _) (by rfl)) ?_
                  refine WS_det hF (by rfl) (y_loadN (by rfl) Tryd.isAgg24 Tryd.sizeOf24 (Mem.own (us := [.slice _ _ _, .slice _ _ _, .int .i64 _]) 2 (by rfl) (by rfl)) (by rfl)) ?_
                  refine WS_det hF (by rfl) (y_callL (by rfl) (by rfl) Tryd.call108 (fun w hw => Ct_eq (rkey_any (c.of (c.stp r.x (⟨(a : Int), (b : Int)⟩ : Po))) x1 t1 x2 t2 w hn (by rw [(hok.of hyi).len]; exact hn3) (Cn.of_bd hok hyi) (NewRow.ints g2 rfl (gs2.trans sbA) w hw)) (show Value.int .i64 (kyL 0 (c.of (c.stp r.x (⟨(a : Int), (b : Int)⟩ : Po))).inn) = .int .i64 (c.key (c.stp r.x (⟨(a : Int), (b : Int)⟩ : Po)) : Int) by rw [← hky.1]; rfl))) ?_
                  refine WS_det hF (by rfl) (y_move (c := .slice _ _ _) (by rfl)) ?_
                  refine WS_det hF (by rfl) (y_len (by rfl) Tryd.runUnderlying131) ?_
                  refine WS_det hF (by rfl) (y_index (k := c.key (c.stp r.x (⟨(a : Int), (b : Int)⟩ : Po))) (by rfl) (by rfl) (by first | rfl | omega) (by first | decide | omega) Tryd.runUnderlying22 Tryd.sizeOf3) ?_
                  refine WS_store hF (us := [.int .i64 _]) (i := 4) (by rfl) (by rfl) Tryd.sizeOf3 (by rfl) (by rfl) (by rfl) (fit_iv (by omega)) ?_
                  refine WS_nil ?_
                  refine InB_normal ?_
                  refine Then_normal ?_
                  rw [splice_iv _ _ _ _ (by omega)]
                  rw [show ((rs3 ++ [(⟨(c.stp r.x (⟨(a : Int), (b : Int)⟩ : Po)), (c.nx r.w r.x (⟨(a : Int), (b : Int)⟩ : Po)), x1, t1, x2, t2, na, ncap⟩ : Rl)]).length : Int) = (rs3.length : Int) + 1 by simp]
                  refine W_region_lit (fun ds => ?_)
                  refine WS_det hF (by rfl) (y_move (c := .int .i64 _) (by rfl)) ?_
                  refine WS_det hF (by rfl) (y_add (by rfl) (by rfl) (by unfold I64; first | omega | (simp only; omega))) ?_
                  refine WS_det hF (by rfl) (y_assign (c := .int .i64 _) (by rfl)) ?_
                  refine WS_nil ?_
                  exact Loop_next (RcG.mk (b + 1) (addP P3 (c.stp r.x (⟨(a : Int), (b : Int)⟩ : Po)) (c.nx r.w r.x (⟨(a : Int), (b : Int)⟩ : Po))) (addL look3 (c.stp r.x (⟨(a : Int), (b : Int)⟩ : Po)) (c.nx r.w r.x (⟨(a : Int), (b : Int)⟩ : Po))) (rs3 ++ [(⟨(c.stp r.x (⟨(a : Int), (b : Int)⟩ : Po)), (c.nx r.w r.x (⟨(a : Int), (b : Int)⟩ : Po)), x1, t1, x2, t2, na, ncap⟩ : Rl)]) (ks3.set (c.key (c.stp r.x (⟨(a : Int), (b : Int)⟩ : Po))) ((rs3.length : Int) + 1)) bo4 cap4 junk4 (JJ ++ (HX3 ++ Hl))) ⟨(by first | omega | (simp only; omega)), hR6⟩ (by repeat (first | exact trivial | refine ⟨by rfl, ?_⟩)) sbA (by first | omega | (simp only; omega))
                ·
                  try simp only [Bool.not_eq_true', Bool.not_eq_false', decide_eq_true_eq, decide_eq_false_iff_not, ne_eq, Classical.not_not, Int.not_lt, Int.not_le] at c22
                  obtain ⟨j, u, hj, hkj, hjlt, hjge⟩ := hR3.s.rc.known hok hlv hpe c22
                  change ks3.getD (c.key (c.stp r.x (⟨(a : Int), (b : Int)⟩ : Po))) 0 = (j : Int) + 1 at hkj
                  rw [hkj]
                  refine W_seq ?_
                  refine W_draw0 hF Trydmixed [] (by decide +kernel) (fun ds => ?_)
                  refine P_det (by rfl) (Over_nil (y_move (c := .int .i64 _) (by rfl))) ?_
                  refine P_det (by rfl) (Over_nil (y_move (c := .int .i64 _) (by rfl))) ?_
                  refine P_det (by rfl) (Over_nil (y_gtr (by rfl) (by rfl))) ?_
                  refine P_det (by rfl) (Over_nil (y_move (c := .bool _) (by rfl))) ?_
                  refine P_split 116 (by rfl) (fun g25_3 => ?_) (fun g25_3 => ?_)
                  ·
                    try simp only [Bool.not_eq_true', Bool.not_eq_false', decide_eq_true_eq, decide_eq_false_iff_not, ne_eq, Classical.not_not, Int.not_lt, Int.not_le] at g25_3
                    obtain ⟨hlk, hul, hnk⟩ := hjge (by omega)
                    obtain ⟨rj, hrj, hrjx, hrjw⟩ := zz_of hj
                    change rj.w = u at hrjw
                    have hjl : j < rs3.length := (List.getElem?_eq_some_iff.1 hrj).1
                    have hlu : (c.nx r.w r.x (⟨(a : Int), (b : Int)⟩ : Po)).l.length = rj.w.l.length := by rw [c.nx_len, hrjw]; omega
                    have hnl := c.nx_len r.w r.x (⟨(a : Int), (b : Int)⟩ : Po)
                    refine P_det (by rfl) (Over_nil (y_loadN (by rfl) Tryd.isAgg128 Tryd.sizeOf128 (Mem.own (us := [.slice _ _ _, .slice _ _ _, .int .i64 _, .slice _ _ _, .int .i64 _]) 0 (by rfl) (by rfl)) (by rfl))) ?_
                    refine P_det (by rfl) (Over_nil (y_move (c := .slice _ _ _) (by rfl))) ?_
                    refine P_det (by rfl) (Over_nil (y_move (c := .int .i64 _) (by rfl))) ?_
                    refine P_det (by rfl) (Over_nil (y_sub (by rfl) (by rfl) (by unfold I64; omega))) ?_
                    refine P_det (by rfl) (Over_nil (y_index (k := j) (by rfl) (by rfl) (by first | rfl | omega) (by first | decide | omega) Tryd.runUnderlying131 Tryd.sizeOf128)) ?_
                    refine P_det (by rfl) (Over_nil (y_loadN (by rfl) Tryd.isAgg128 Tryd.sizeOf128 (Mem.rl 0 2 (by rfl) hrj (us := [.slice _ _ _, .slice _ _ _, .int _ _, .slice _ _ _, .int _ _]) (by rfl) (by omega) (by omega)) (by rfl))) ?_
                    refine P_det (by rfl) (Over_nil (y_callL (by rfl) (by rfl) Tryd.call107 (fun w hw => rbetter_any (c.nx r.w r.x (⟨(a : Int), (b : Int)⟩ : Po)) rj.w na ncap rj.l rj.kl w hlu (by omega) _ _ _ _ _ _ _ _ _ _ _ _ _ _ (NewRow.rws po_len hrow rfl sbA w hw) ((hR3.s.rd rj (List.mem_of_getElem? hrj)).p _ _ w sbA hw)))) ?_
                    refine P_det (by rfl) (Over_nil (by first | exact y_pick_t (c := .bool _) (by rfl) (by rfl) | exact y_pick_f (c := .bool _) (by rfl) (by rfl))) ?_
                    refine PW_end (by rfl) ?_
                    refine OverAll_nil ?_
                    rintro -
                    refine Then_normal ?_
                    refine W_cond (by rfl) (fun c25 => ?_) (fun c25 => ?_)
                    ·
                      try simp only [Bool.not_eq_true', Bool.not_eq_false', decide_eq_true_eq, decide_eq_false_iff_not, ne_eq, Classical.not_not, Int.not_lt, Int.not_le] at c25
                      rw [wbetB_lt hlu, hrjw] at c25
                      have hR6 := hR3.upd hpA hJ hpe hj (by omega) hlk hnk c25 (y := (⟨(c.stp r.x (⟨(a : Int), (b : Int)⟩ : Po)), (c.nx r.w r.x (⟨(a : Int), (b : Int)⟩ : Po)), x1, t1, x2, t2, na, ncap⟩ : Rl)) rfl rfl hHX hyr (b + 1)
                      refine W_region_lit (fun ds => ?_)
                      refine WS_det hF (by rfl) (y_move (c := .slice _ _ _) (by rfl)) ?_
                      refine WS_det hF (by rfl) (y_move (c := .int .i64 _) (by rfl)) ?_
                      refine WS_det hF (by rfl) (y_sub (by rfl) (by rfl) (by unfold I64; omega)) ?_
                      refine WS_det hF (by rfl) (y_loadN (by rfl) Tryd.isAgg128 Tryd.sizeOf128 (Mem.own (us := [.slice _ _ _, .slice _ _ _, .int .i64 _, .slice _ _ _, .int .i64 _]) 0 (by rfl) (by rfl)) (by rfl)) ?_
                      refine WS_det hF (by rfl) (y_index (k := j) (by rfl) (by rfl) (by first | rfl | omega) (by first | decide | omega) Tryd.runUnderlying131 Tryd.sizeOf128) ?_
                      refine WS_store hF (us := [.slice _ _ _, .slice _ _ _, .int .i64 _, .slice _ _ _, .int .i64 _]) (i := 2) (by rfl) (by rfl) Tryd.sizeOf128 (by rfl) (by rfl) (by rfl) (by rw [List.length_append, rRow_len]; simp only [List.length_cons, List.length_nil]; omega) ?_
                      refine WS_nil ?_
                      refine InB_normal ?_
                      refine Then_normal ?_
                      rw [show splice (rRow c rs3 ++ junk3) (0 + j * 5) [.slice x1 c.n t1, .slice x2 (c.of (c.stp r.x (⟨(a : Int), (b : Int)⟩ : Po))).inn.length t2, .int .i64 ((c.stp r.x (⟨(a : Int), (b : Int)⟩ : Po))).a, .slice na (c.nx r.w r.x (⟨(a : Int), (b : Int)⟩ : Po)).l.length ncap, .int .i64 (c.nx r.w r.x (⟨(a : Int), (b : Int)⟩ : Po)).back] = rRow c (rs3.set j (⟨(c.stp r.x (⟨(a : Int), (b : Int)⟩ : Po)), (c.nx r.w r.x (⟨(a : Int), (b : Int)⟩ : Po)), x1, t1, x2, t2, na, ncap⟩ : Rl)) ++ junk3 from rRow_splice hjl (⟨(c.stp r.x (⟨(a : Int), (b : Int)⟩ : Po)), (c.nx r.w r.x (⟨(a : Int), (b : Int)⟩ : Po)), x1, t1, x2, t2, na, ncap⟩ : Rl)]
                      rw [show rs3.length = (rs3.set j (⟨(c.stp r.x (⟨(a : Int), (b : Int)⟩ : Po)), (c.nx r.w r.x (⟨(a : Int), (b : Int)⟩ : Po)), x1, t1, x2, t2, na, ncap⟩ : Rl)).length by rw [List.length_set]]
                      refine W_region_lit (fun ds => ?_)
                      refine WS_det hF (by rfl) (y_move (c := .int .i64 _) (by rfl)) ?_
                      refine WS_det hF (by rfl) (y_add (by rfl) (by rfl) (by unfold I64; first | omega | (simp only; omega))) ?_
                      refine WS_det hF (by rfl) (y_assign (c := .int .i64 _) (by rfl)) ?_
                      refine WS_nil ?_
                      exact Loop_next (RcG.mk (b + 1) (addP P3 (c.stp r.x (⟨(a : Int), (b : Int)⟩ : Po)) (c.nx r.w r.x (⟨(a : Int), (b : Int)⟩ : Po))) (addL look3 (c.stp r.x (⟨(a : Int), (b : Int)⟩ : Po)) (c.nx r.w r.x (⟨(a : Int), (b : Int)⟩ : Po))) (rs3.set j (⟨(c.stp r.x (⟨(a : Int), (b : Int)⟩ : Po)), (c.nx r.w r.x (⟨(a : Int), (b : Int)⟩ : Po)), x1, t1, x2, t2, na, ncap⟩ : Rl)) ks3 bo3 cap3 junk3 (JJ ++ (HX3 ++ Hl))) ⟨(by first | omega | (simp only; omega)), hR6⟩ (by repeat (first | exact trivial | refine ⟨by rfl, ?_⟩)) sbA (by first | omega | (simp only; omega))
                    ·
                      try simp only [Bool.not_eq_true', Bool.not_eq_false', decide_eq_true_eq, decide_eq_false_iff_not, ne_eq, Classical.not_not, Int.not_lt, Int.not_le] at c25
                      rw [wbetB_lt hlu, hrjw] at c25
                      have hR6 := hR3.keep hpA hJ hpe hj (by omega) hlk hnk c25 (b + 1)
                      refine W_skip ?_
                      refine InB_normal ?_
                      refine Then_normal ?_
                      refine W_region_lit (fun ds => ?_)
                      refine WS_det hF (by rfl) (y_move (c := .int .i64 _) (by rfl)) ?_
                      refine WS_det hF (by rfl) (y_add (by rfl) (by rfl) (by unfold I64; first | omega | (simp only; omega))) ?_
                      refine WS_det hF (by rfl) (y_assign (c := .int .i64 _) (by rfl)) ?_
                      refine WS_nil ?_
                      exact Loop_next (RcG.mk (b + 1) (addP P3 (c.stp r.x (⟨(a : Int), (b : Int)⟩ : Po)) (c.nx r.w r.x (⟨(a : Int), (b : Int)⟩ : Po))) (addL look3 (c.stp r.x (⟨(a : Int), (b : Int)⟩ : Po)) (c.nx r.w r.x (⟨(a : Int), (b : Int)⟩ : Po))) rs3 ks3 bo3 cap3 junk3 HX3) ⟨(by first | omega | (simp only; omega)), hR6⟩ (by repeat (first | exact trivial | refine ⟨by rfl, ?_⟩)) sbA (by first | omega | (simp only; omega))
                  ·
                    try simp only [Bool.not_eq_true', Bool.not_eq_false', decide_eq_true_eq, decide_eq_false_iff_not, ne_eq, Classical.not_not, Int.not_lt, Int.not_le] at g25_3
                    have hR6 := hR3.knw (b + 1) hpA hJ hpe (hjlt (by omega))
                    refine P_no (by rfl) ?_
                    refine P_no (by rfl) ?_
                    refine P_no (by rfl) ?_
                    refine P_no (by rfl) ?_
                    refine P_no (by rfl) ?_
                    refine P_no (by rfl) ?_
                    refine P_no (by rfl) ?_
                    refine P_det (by rfl) (Over_nil (by first | exact y_pick_t (c := .bool _) (by rfl) (by rfl) | exact y_pick_f (c := .bool _) (by rfl) (by rfl))) ?_
                    refine PW_end (by rfl) ?_
                    refine OverAll_nil ?_
                    rintro -
                    refine Then_normal ?_
                    refine W_cond (by rfl) (fun c25 => ?_) (fun c25 => ?_)
                    · cases c25
                    ·
                      try simp only [Bool.not_eq_true', Bool.not_eq_false', decide_eq_true_eq, decide_eq_false_iff_not, ne_eq, Classical.not_not, Int.not_lt, Int.not_le] at c25
                      refine W_skip ?_
                      refine InB_normal ?_
                      refine Then_normal ?_
                      refine W_region_lit (fun ds => ?_)
                      refine WS_det hF (by rfl) (y_move (c := .int .i64 _) (by rfl)) ?_
                      refine WS_det hF (by rfl) (y_add (by rfl) (by rfl) (by unfold I64; first | omega | (simp only; omega))) ?_
                      refine WS_det hF (by rfl) (y_assign (c := .int .i64 _) (by rfl)) ?_
                      refine WS_nil ?_
                      exact Loop_next (RcG.mk (b + 1) P3 look3 rs3 ks3 bo3 cap3 junk3 HX3) ⟨(by first | omega | (simp only; omega)), hR6⟩ (by repeat (first | exact trivial | refine ⟨by rfl, ?_⟩)) sbA (by first | omega | (simp only; omega))
              ·
                refine WH_take 0 (by decide +kernel) (by rfl) (by decide +kernel) (by decide +kernel) (by rfl) (ye_loadN (by rfl) Tryd.isAgg24 Tryd.sizeOf24 (Mem.own (us := [.slice _ _ _, .slice _ _ _, .int .i64 _]) 0 (by rfl) (by rfl)) (by rfl)) ?_
                refine WH_take 2 (by decide +kernel) (by rfl) (by decide +kernel) (by decide +kernel) (by rfl) (ye_move (c := .slice _ _ _) (by rfl)) ?_
                refine WH_take 3 (by decide +kernel) (by rfl) (by decide +kernel) (by decide +kernel) (by rfl) (ye_move (c := .int .i64 _) (by rfl)) ?_
                refine WH_take 4 (by decide +kernel) (by rfl) (by decide +kernel) (by decide +kernel) (by rfl) (ye_index (k := i) (by rfl) (by rfl) (by first | rfl | omega) (by first | decide | omega) Tryd.runUnderlying131 Tryd.sizeOf128) ?_
                refine WH_take 5 (by decide +kernel) (by rfl) (by decide +kernel) (by decide +kernel) (by rfl) (ye_fieldAddr (by rfl) fa128_1) ?_
                refine WH_take 6 (by decide +kernel) (by rfl) (by decide +kernel) (by decide +kernel) (by rfl) (ye_load1 (by rfl) Tryd.isAgg27 (Mem.rl 3 2 (by rfl) hR3.e (us := [.slice _ _ _]) (by rfl) (by omega) (by omega))) ?_
                refine WH_take 8 (by decide +kernel) (by rfl) (by decide +kernel) (by decide +kernel) (by rfl) (ye_loadN (by rfl) Tryd.isAgg26 Tryd.sizeOf26 (Mem.own (us := [.int .i64 _, .int .i64 _]) 1 (by rfl) (by rfl)) (by rfl)) ?_
                refine WH_take 11 (by decide +kernel) (by rfl) (by decide +kernel) (by decide +kernel) (by rfl) (ye_move (c := .slice _ _ _) (by rfl)) ?_
                refine WH_take 12 (by decide +kernel) (by rfl) (by decide +kernel) (by decide +kernel) (by rfl) (ye_move (c := .int .i64 _) (by rfl)) ?_
                refine WH_take 13 (by decide +kernel) (by rfl) (by decide +kernel) (by decide +kernel) (by rfl) (ye_index (k := i) (by rfl) (by rfl) (by first | rfl | omega) (by first | decide | omega) Tryd.runUnderlying131 Tryd.sizeOf128) ?_
                refine WH_take 14 (by decide +kernel) (by rfl) (by decide +kernel) (by decide +kernel) (by rfl) (ye_fieldAddr (by rfl) fa128_2) ?_
                refine WH_take 15 (by decide +kernel) (by rfl) (by decide +kernel) (by decide +kernel) (by rfl) (ye_load1 (by rfl) Tryd.isAgg3 (Mem.rl 4 2 (by rfl) hR3.e (us := [.int _ _]) (by rfl) (by omega) (by omega))) ?_
                refine WH_take 16 (by decide +kernel) (by rfl) (by decide +kernel) (by decide +kernel) (by rfl) (ye_fieldAddr (by rfl) fa24_2) ?_
                refine WH_take 17 (by decide +kernel) (by rfl) (by decide +kernel) (by decide +kernel) (by rfl) (ye_load1 (by rfl) Tryd.isAgg3 (Mem.own1 0 (by rfl) (by rfl))) ?_
                refine WH_take 18 (by decide +kernel) (by rfl) (by decide +kernel) (by decide +kernel) (by rfl) (ye_move (c := .slice _ _ _) (by rfl)) ?_
                refine WH_take 19 (by decide +kernel) (by rfl) (by decide +kernel) (by decide +kernel) (by rfl) (ye_move (c := .int .i64 _) (by rfl)) ?_
                refine WH_take 20 (by decide +kernel) (by rfl) (by decide +kernel) (by decide +kernel) (by rfl) (ye_index (k := i) (by rfl) (by rfl) (by first | rfl | omega) (by first | decide | omega) Tryd.runUnderlying131 Tryd.sizeOf128) ?_
                refine WH_take 21 (by decide +kernel) (by rfl) (by decide +kernel) (by decide +kernel) (by rfl) (ye_fieldAddr (by rfl) fa128_0) ?_
                refine WH_take 22 (by decide +kernel) (by rfl) (by decide +kernel) (by decide +kernel) (by rfl) (ye_fieldAddr (by rfl) fa24_2) ?_
                refine WH_take 23 (by decide +kernel) (by rfl) (by decide +kernel) (by decide +kernel) (by rfl) (ye_load1 (by rfl) Tryd.isAgg3 (Mem.rl 2 2 (by rfl) hR3.e (us := [.int _ _]) (by rfl) (by omega) (by omega))) ?_
                refine WH_take 24 (by decide +kernel) (by rfl) (by decide +kernel) (by decide +kernel) (by rfl) (ye_sub (by rfl) (by rfl) (by show I64 (((c.stp r.x (⟨(a : Int), (b : Int)⟩ : Po))).a - r.x.a); unfold I64; omega)) ?_
                refine WH_take 25 (by decide +kernel) (by rfl) (by decide +kernel) (by decide +kernel) (by rfl) (ye_max (by rfl) (by rfl)) ?_
                refine WH_take 26 (by decide +kernel) (by rfl) (by decide +kernel) (by decide +kernel) (by rfl) (ye_add (by rfl) (by rfl) (by show I64 (r.w.back + max 0 (((c.stp r.x (⟨(a : Int), (b : Int)⟩ : Po))).a - r.x.a)); unfold I64; omega)) ?_
                refine WH_step3 1 9 28 (by decide +kernel) (fun _ h => St.sub h sbA) (by rfl) (by rfl) (by rfl) ?_ ?_ ?_
                ·
                  refine WS_newS hF (by rfl) (y_buildSliceL bs27_0 (by rfl)) (fun b20 => ?_)
                  refine WS_nil ?_
                  refine WH_step3 7 9 28 (by decide +kernel) (fun _ h => St.sub h sbA) (by rfl) (by rfl) (by rfl) ?_ ?_ ?_
                  ·
                    refine WS_gen hF (by rfl) (fun w hw => y_append0 (by rfl) (by rfl) Tryd.underlying27 infPo (by rfl) (Src_pos (fun w hw => hrd3.p _ _ w sbA hw) hw) (rowOf_len po_len _ _) (by omega) (by omega) w hw) ?_
                    rintro _ Hc hrc0
                    obtain ⟨ca, ccap, rfl, hrc⟩ := NewRow.sl hrc0
                    refine WS_back ?_
                    refine WS_nil ?_
                    refine WH_step2 9 28 (by decide +kernel) (fun _ h => St.sub h sbA) (by rfl) (by rfl) ?_ ?_
                    ·
                      refine WS_newS hF (by rfl) (y_buildSliceL bs27_1_0 (by rfl)) (fun b21 => ?_)
                      refine WS_nil ?_
                      refine WH_step2 10 28 (by decide +kernel) (fun _ h => St.sub h sbA) (by rfl) (by rfl) ?_ ?_
                      ·
                        refine WS_appendN hF (H1 := (_ :: _ :: _ :: _ :: _ :: _ :: _ :: (JJ ++ (HX3)))) (Hn := Hc) (by rfl) (by rfl) (by rfl) Tryd.underlying27 infPo (by rfl) (by rfl) hrc (rowOf_len po_len _ _) (.inr ⟨_, _, rfl, (by first | exact Mem.own (us := [.int _ _, .int _ _]) 0 (by rfl) (by rfl) | exact Mem.own (us := [.int _ _, .int _ _]) 1 (by rfl) (by rfl) | exact Mem.own (us := [.int _ _, .int _ _]) 2 (by rfl) (by rfl))⟩) (by rfl) (by rfl) (by omega) (by omega) (by omega) ?_
                        intro a3 cap3' H3 hr3
                        have hrow3 : NewRow 26 2 (c.nx r.w r.x (⟨(a : Int), (b : Int)⟩ : Po)).l.length (rowOf Po.cells (fun z => (c.nx r.w r.x (⟨(a : Int), (b : Int)⟩ : Po)).l.getD z Po.z) (c.nx r.w r.x (⟨(a : Int), (b : Int)⟩ : Po)).l.length) (.slice a3 (c.nx r.w r.x (⟨(a : Int), (b : Int)⟩ : Po)).l.length cap3') H3 := by rw [c.nx_row, c.nx_len]; exact hr3
                        refine WS_nil ?_
                        refine WH_take 27 (by decide +kernel) (by rfl) (by decide +kernel) (by decide +kernel) (by rfl) (ye_buildL bd128_0_1_2 (by rfl)) ?_
                        refine WH_step1 28 (by decide +kernel) (fun _ h => St.sub h sbA) (by rfl) ?_
                        ·
                          refine WS_new hF (by rfl) (y_alloc Tryd.zeroValue128 (by rfl)) (fun b13 => ?_)
                          refine WS_nil ?_
                          refine WH_done (by decide +kernel) (fun _ h => St.sub h sbA) ?_
                          exact ⟨_, _, _, _, hrow3, (by repeat (first | exact trivial | refine ⟨by rfl, ?_⟩ | refine ⟨congrArg (Value.int _) (by first | omega | (simp only; omega) | (push_cast; omega)), ?_⟩)), HSub.sub sbA⟩
                      ·
                        refine WS_new hF (by rfl) (y_alloc Tryd.zeroValue128 (by rfl)) (fun b13 => ?_)
                        refine WS_nil ?_
                        refine WH_step1 10 (by decide +kernel) (fun _ h => St.sub h sbA) (by rfl) ?_
                        ·
                          refine WS_appendN hF (H1 := (_ :: _ :: _ :: _ :: _ :: _ :: _ :: _ :: (JJ ++ (HX3)))) (Hn := Hc) (by rfl) (by rfl) (by rfl) Tryd.underlying27 infPo (by rfl) (by rfl) hrc (rowOf_len po_len _ _) (.inr ⟨_, _, rfl, (by first | exact Mem.own (us := [.int _ _, .int _ _]) 0 (by rfl) (by rfl) | exact Mem.own (us := [.int _ _, .int _ _]) 1 (by rfl) (by rfl) | exact Mem.own (us := [.int _ _, .int _ _]) 2 (by rfl) (by rfl))⟩) (by rfl) (by rfl) (by omega) (by omega) (by omega) ?_
                          intro a3 cap3' H3 hr3
                          have hrow3 : NewRow 26 2 (c.nx r.w r.x (⟨(a : Int), (b : Int)⟩ : Po)).l.length (rowOf Po.cells (fun z => (c.nx r.w r.x (⟨(a : Int), (b : Int)⟩ : Po)).l.getD z Po.z) (c.nx r.w r.x (⟨(a : Int), (b : Int)⟩ : Po)).l.length) (.slice a3 (c.nx r.w r.x (⟨(a : Int), (b : Int)⟩ : Po)).l.length cap3') H3 := by rw [c.nx_row, c.nx_len]; exact hr3
                          refine WS_nil ?_
                          refine WH_take 27 (by decide +kernel) (by rfl) (by decide +kernel) (by decide +kernel) (by rfl) (ye_buildL bd128_0_1_2 (by rfl)) ?_
                          refine WH_done (by decide +kernel) (fun _ h => St.sub h sbA) ?_
                          exact ⟨_, _, _, _, hrow3, (by repeat (first | exact trivial | refine ⟨by rfl, ?_⟩ | refine ⟨congrArg (Value.int _) (by first | omega | (simp only; omega) | (push_cast; omega)), ?_⟩)), HSub.sub sbA⟩
                    ·
                      refine WS_new hF (by rfl) (y_alloc Tryd.zeroValue128 (by rfl)) (fun b13 => ?_)
                      refine WS_nil ?_
                      refine WH_step1 9 (by decide +kernel) (fun _ h => St.sub h sbA) (by rfl) ?_
                      ·
                        refine WS_newS hF (by rfl) (y_buildSliceL bs27_1_0 (by rfl)) (fun b22 => ?_)
                        refine WS_nil ?_
                        refine WH_step1 10 (by decide +kernel) (fun _ h => St.sub h sbA) (by rfl) ?_
                        ·
                          refine WS_appendN hF (H1 := (_ :: _ :: _ :: _ :: _ :: _ :: _ :: _ :: (JJ ++ (HX3)))) (Hn := Hc) (by rfl) (by rfl) (by rfl) Tryd.underlying27 infPo (by rfl) (by rfl) hrc (rowOf_len po_len _ _) (.inr ⟨_, _, rfl, (by first | exact Mem.own (us := [.int _ _, .int _ _]) 0 (by rfl) (by rfl) | exact Mem.own (us := [.int _ _, .int _ _]) 1 (by rfl) (by rfl) | exact Mem.own (us := [.int _ _, .int _ _]) 2 (by rfl) (by rfl))⟩) (by rfl) (by rfl) (by omega) (by omega) (by omega) ?_
                          intro a3 cap3' H3 hr3
                          have hrow3 : NewRow 26 2 (c.nx r.w r.x (⟨(a : Int), (b : Int)⟩ : Po)).l.length (rowOf Po.cells (fun z => (c.nx r.w r.x (⟨(a : Int), (b : Int)⟩ : Po)).l.getD z Po.z) (c.nx r.w r.x (⟨(a : Int), (b : Int)⟩ : Po)).l.length) (.slice a3 (c.nx r.w r.x (⟨(a : Int), (b : Int)⟩ : Po)).l.length cap3') H3 := by rw [c.nx_row, c.nx_len]; exact hr3
                          refine WS_nil ?_
                          refine WH_take 27 (by decide +kernel) (by rfl) (by decide +kernel) (by decide +kernel) (by rfl) (ye_buildL bd128_0_1_2 (by rfl)) ?_
                          refine WH_done (by decide +kernel) (fun _ h => St.sub h sbA) ?_
                          exact ⟨_, _, _, _, hrow3, (by repeat (first | exact trivial | refine ⟨by rfl, ?_⟩ | refine ⟨congrArg (Value.int _) (by first | omega | (simp only; omega) | (push_cast; omega)), ?_⟩)), HSub.sub sbA⟩
                  ·
                    refine WS_newS hF (by rfl) (y_buildSliceL bs27_1_0 (by rfl)) (fun b23 => ?_)
                    refine WS_nil ?_
                    refine WH_step2 7 28 (by decide +kernel) (fun _ h => St.sub h sbA) (by rfl) (by rfl) ?_ ?_
                    ·
                      refine WS_gen hF (by rfl) (fun w hw => y_append0 (by rfl) (by rfl) Tryd.underlying27 infPo (by rfl) (Src_pos (fun w hw => hrd3.p _ _ w sbA hw) hw) (rowOf_len po_len _ _) (by omega) (by omega) w hw) ?_
                      rintro _ Hc hrc0
                      obtain ⟨ca, ccap, rfl, hrc⟩ := NewRow.sl hrc0
                      refine WS_back ?_
                      refine WS_nil ?_
                      refine WH_step2 10 28 (by decide +kernel) (fun _ h => St.sub h sbA) (by rfl) (by rfl) ?_ ?_
                      ·
                        refine WS_appendN hF (H1 := (_ :: _ :: _ :: _ :: _ :: _ :: _ :: (JJ ++ (HX3)))) (Hn := Hc) (by rfl) (by rfl) (by rfl) Tryd.underlying27 infPo (by rfl) (by rfl) hrc (rowOf_len po_len _ _) (.inr ⟨_, _, rfl, (by first | exact Mem.own (us := [.int _ _, .int _ _]) 0 (by rfl) (by rfl) | exact Mem.own (us := [.int _ _, .int _ _]) 1 (by rfl) (by rfl) | exact Mem.own (us := [.int _ _, .int _ _]) 2 (by rfl) (by rfl))⟩) (by rfl) (by rfl) (by omega) (by omega) (by omega) ?_
                        intro a3 cap3' H3 hr3
                        have hrow3 : NewRow 26 2 (c.nx r.w r.x (⟨(a : Int), (b : Int)⟩ : Po)).l.length (rowOf Po.cells (fun z => (c.nx r.w r.x (⟨(a : Int), (b : Int)⟩ : Po)).l.getD z Po.z) (c.nx r.w r.x (⟨(a : Int), (b : Int)⟩ : Po)).l.length) (.slice a3 (c.nx r.w r.x (⟨(a : Int), (b : Int)⟩ : Po)).l.length cap3') H3 := by rw [c.nx_row, c.nx_len]; exact hr3
                        refine WS_nil ?_
                        refine WH_take 27 (by decide +kernel) (by rfl) (by decide +kernel) (by decide +kernel) (by rfl) (ye_buildL bd128_0_1_2 (by rfl)) ?_
                        refine WH_step1 28 (by decide +kernel) (fun _ h => St.sub h sbA) (by rfl) ?_
                        ·
                          refine WS_new hF (by rfl) (y_alloc Tryd.zeroValue128 (by rfl)) (fun b13 => ?_)
                          refine WS_nil ?_
                          refine WH_done (by decide +kernel) (fun _ h => St.sub h sbA) ?_
                          exact ⟨_, _, _, _, hrow3, (by repeat (first | exact trivial | refine ⟨by rfl, ?_⟩ | refine ⟨congrArg (Value.int _) (by first | omega | (simp only; omega) | (push_cast; omega)), ?_⟩)), HSub.sub sbA⟩
                      ·
                        refine WS_new hF (by rfl) (y_alloc Tryd.zeroValue128 (by rfl)) (fun b13 => ?_)
                        refine WS_nil ?_
                        refine WH_step1 10 (by decide +kernel) (fun _ h => St.sub h sbA) (by rfl) ?_
                        ·
                          refine WS_appendN hF (H1 := (_ :: _ :: _ :: _ :: _ :: _ :: _ :: _ :: (JJ ++ (HX3)))) (Hn := Hc) (by rfl) (by rfl) (by rfl) Tryd.underlying27 infPo (by rfl) (by rfl) hrc (rowOf_len po_len _ _) (.inr ⟨_, _, rfl, (by first | exact Mem.own (us := [.int _ _, .int _ _]) 0 (by rfl) (by rfl) | exact Mem.own (us := [.int _ _, .int _ _]) 1 (by rfl) (by rfl) | exact Mem.own (us := [.int _ _, .int _ _]) 2 (by rfl) (by rfl))⟩) (by rfl) (by rfl) (by omega) (by omega) (by omega) ?_
                          intro a3 cap3' H3 hr3
                          have hrow3 : NewRow 26 2 (c.nx r.w r.x (⟨(a : Int), (b : Int)⟩ : Po)).l.length (rowOf Po.cells (fun z => (c.nx r.w r.x (⟨(a : Int), (b : Int)⟩ : Po)).l.getD z Po.z) (c.nx r.w r.x (⟨(a : Int), (b : Int)⟩ : Po)).l.length) (.slice a3 (c.nx r.w r.x (⟨(a : Int), (b : Int)⟩ : Po)).l.length cap3') H3 := by rw [c.nx_row, c.nx_len]; exact hr3
                          refine WS_nil ?_
                          refine WH_take 27 (by decide +kernel) (by rfl) (by decide +kernel) (by decide +kernel) (by rfl) (ye_buildL bd128_0_1_2 (by rfl)) ?_
                          refine WH_done (by decide +kernel) (fun _ h => St.sub h sbA) ?_
                          exact ⟨_, _, _, _, hrow3, (by repeat (first | exact trivial | refine ⟨by rfl, ?_⟩ | refine ⟨congrArg (Value.int _) (by first | omega | (simp only; omega) | (push_cast; omega)), ?_⟩)), HSub.sub sbA⟩
                    ·
                      refine WS_new hF (by rfl) (y_alloc Tryd.zeroValue128 (by rfl)) (fun b13 => ?_)
                      refine WS_nil ?_
                      refine WH_step1 7 (by decide +kernel) (fun _ h => St.sub h sbA) (by rfl) ?_
                      ·
                        refine WS_gen hF (by rfl) (fun w hw => y_append0 (by rfl) (by rfl) Tryd.underlying27 infPo (by rfl) (Src_pos (fun w hw => hrd3.p _ _ w sbA hw) hw) (rowOf_len po_len _ _) (by omega) (by omega) w hw) ?_
                        rintro _ Hc hrc0
                        obtain ⟨ca, ccap, rfl, hrc⟩ := NewRow.sl hrc0
                        refine WS_back ?_
                        refine WS_nil ?_
                        refine WH_step1 10 (by decide +kernel) (fun _ h => St.sub h sbA) (by rfl) ?_
                        ·
                          refine WS_appendN hF (H1 := (_ :: _ :: _ :: _ :: _ :: _ :: _ :: _ :: (JJ ++ (HX3)))) (Hn := Hc) (by rfl) (by rfl) (by rfl) Tryd.underlying27 infPo (by rfl) (by rfl) hrc (rowOf_len po_len _ _) (.inr ⟨_, _, rfl, (by first | exact Mem.own (us := [.int _ _, .int _ _]) 0 (by rfl) (by rfl) | exact Mem.own (us := [.int _ _, .int _ _]) 1 (by rfl) (by rfl) | exact Mem.own (us := [.int _ _, .int _ _]) 2 (by rfl) (by rfl))⟩) (by rfl) (by rfl) (by omega) (by omega) (by omega) ?_
                          intro a3 cap3' H3 hr3
                          have hrow3 : NewRow 26 2 (c.nx r.w r.x (⟨(a : Int), (b : Int)⟩ : Po)).l.length (rowOf Po.cells (fun z => (c.nx r.w r.x (⟨(a : Int), (b : Int)⟩ : Po)).l.getD z Po.z) (c.nx r.w r.x (⟨(a : Int), (b : Int)⟩ : Po)).l.length) (.slice a3 (c.nx r.w r.x (⟨(a : Int), (b : Int)⟩ : Po)).l.length cap3') H3 := by rw [c.nx_row, c.nx_len]; exact hr3
                          refine WS_nil ?_
                          refine WH_take 27 (by decide +kernel) (by rfl) (by decide +kernel) (by decide +kernel) (by rfl) (ye_buildL bd128_0_1_2 (by rfl)) ?_
                          refine WH_done (by decide +kernel) (fun _ h => St.sub h sbA) ?_
                          exact ⟨_, _, _, _, hrow3, (by repeat (first | exact trivial | refine ⟨by rfl, ?_⟩ | refine ⟨congrArg (Value.int _) (by first | omega | (simp only; omega) | (push_cast; omega)), ?_⟩)), HSub.sub sbA⟩
                  ·
                    refine WS_new hF (by rfl) (y_alloc Tryd.zeroValue128 (by rfl)) (fun b13 => ?_)
                    refine WS_nil ?_
                    refine WH_step2 7 9 (by decide +kernel) (fun _ h => St.sub h sbA) (by rfl) (by rfl) ?_ ?_
                    ·
                      refine WS_gen hF (by rfl) (fun w hw => y_append0 (by rfl) (by rfl) Tryd.underlying27 infPo (by rfl) (Src_pos (fun w hw => hrd3.p _ _ w sbA hw) hw) (rowOf_len po_len _ _) (by omega) (by omega) w hw) ?_
                      rintro _ Hc hrc0
                      obtain ⟨ca, ccap, rfl, hrc⟩ := NewRow.sl hrc0
                      refine WS_back ?_
                      refine WS_nil ?_
                      refine WH_step1 9 (by decide +kernel) (fun _ h => St.sub h sbA) (by rfl) ?_
                      ·
                        refine WS_newS hF (by rfl) (y_buildSliceL bs27_1_0 (by rfl)) (fun b24 => ?_)
                        refine WS_nil ?_
                        refine WH_step1 10 (by decide +kernel) (fun _ h => St.sub h sbA) (by rfl) ?_
                        ·
                          refine WS_appendN hF (H1 := (_ :: _ :: _ :: _ :: _ :: _ :: _ :: _ :: (JJ ++ (HX3)))) (Hn := Hc) (by rfl) (by rfl) (by rfl) Tryd.underlying27 infPo (by rfl) (by rfl) hrc (rowOf_len po_len _ _) (.inr ⟨_, _, rfl, (by first | exact Mem.own (us := [.int _ _, .int _ _]) 0 (by rfl) (by rfl) | exact Mem.own (us := [.int _ _, .int _ _]) 1 (by rfl) (by rfl) | exact Mem.own (us := [.int _ _, .int _ _]) 2 (by rfl) (by rfl))⟩) (by rfl) (by rfl) (by omega) (by omega) (by omega) ?_
                          intro a3 cap3' H3 hr3
                          have hrow3 : NewRow 26 2 (c.nx r.w r.x (⟨(a : Int), (b : Int)⟩ : Po)).l.length (rowOf Po.cells (fun z => (c.nx r.w r.x (⟨(a : Int), (b : Int)⟩ : Po)).l.getD z Po.z) (c.nx r.w r.x (⟨(a : Int), (b : Int)⟩ : Po)).l.length) (.slice a3 (c.nx r.w r.x (⟨(a : Int), (b : Int)⟩ : Po)).l.length cap3') H3 := by rw [c.nx_row, c.nx_len]; exact hr3
                          refine WS_nil ?_
                          refine WH_take 27 (by decide +kernel) (by rfl) (by decide +kernel) (by decide +kernel) (by rfl) (ye_buildL bd128_0_1_2 (by rfl)) ?_
                          refine WH_done (by decide +kernel) (fun _ h => St.sub h sbA) ?_
                          exact ⟨_, _, _, _, hrow3, (by repeat (first | exact trivial | refine ⟨by rfl, ?_⟩ | refine ⟨congrArg (Value.int _) (by first | omega | (simp only; omega) | (push_cast; omega)), ?_⟩)), HSub.sub sbA⟩
                    ·
                      refine WS_newS hF (by rfl) (y_buildSliceL bs27_1_0 (by rfl)) (fun b25 => ?_)
                      refine WS_nil ?_
                      refine WH_step1 7 (by decide +kernel) (fun _ h => St.sub h sbA) (by rfl) ?_
                      ·
                        refine WS_gen hF (by rfl) (fun w hw => y_append0 (by rfl) (by rfl) Tryd.underlying27 infPo (by rfl) (Src_pos (fun w hw => hrd3.p _ _ w sbA hw) hw) (rowOf_len po_len _ _) (by omega) (by omega) w hw) ?_
                        rintro _ Hc hrc0
                        obtain ⟨ca, ccap, rfl, hrc⟩ := NewRow.sl hrc0
                        refine WS_back ?_
                        refine WS_nil ?_
                        refine WH_step1 10 (by decide +kernel) (fun _ h => St.sub h sbA) (by rfl) ?_
                        ·
                          refine WS_appendN hF (H1 := (_ :: _ :: _ :: _ :: _ :: _ :: _ :: _ :: (JJ ++ (HX3)))) (Hn := Hc) (by rfl) (by rfl) (by rfl) Tryd.underlying27 infPo (by rfl) (by rfl) hrc (rowOf_len po_len _ _) (.inr ⟨_, _, rfl, (by first | exact Mem.own (us := [.int _ _, .int _ _]) 0 (by rfl) (by rfl) | exact Mem.own (us := [.int _ _, .int _ _]) 1 (by rfl) (by rfl) | exact Mem.own (us := [.int _ _, .int _ _]) 2 (by rfl) (by rfl))⟩) (by rfl) (by rfl) (by omega) (by omega) (by omega) ?_
                          intro a3 cap3' H3 hr3
                          have hrow3 : NewRow 26 2 (c.nx r.w r.x (⟨(a : Int), (b : Int)⟩ : Po)).l.length (rowOf Po.cells (fun z => (c.nx r.w r.x (⟨(a : Int), (b : Int)⟩ : Po)).l.getD z Po.z) (c.nx r.w r.x (⟨(a : Int), (b : Int)⟩ : Po)).l.length) (.slice a3 (c.nx r.w r.x (⟨(a : Int), (b : Int)⟩ : Po)).l.length cap3') H3 := by rw [c.nx_row, c.nx_len]; exact hr3
                          refine WS_nil ?_
                          refine WH_take 27 (by decide +kernel) (by rfl) (by decide +kernel) (by decide +kernel) (by rfl) (ye_buildL bd128_0_1_2 (by rfl)) ?_
                          refine WH_done (by decide +kernel) (fun _ h => St.sub h sbA) ?_
                          exact ⟨_, _, _, _, hrow3, (by repeat (first | exact trivial | refine ⟨by rfl, ?_⟩ | refine ⟨congrArg (Value.int _) (by first | omega | (simp only; omega) | (push_cast; omega)), ?_⟩)), HSub.sub sbA⟩
                ·
                  refine WS_newS hF (by rfl) (y_buildSliceL bs27_1_0 (by rfl)) (fun b26 => ?_)
                  refine WS_nil ?_
                  refine WH_step2 1 28 (by decide +kernel) (fun _ h => St.sub h sbA) (by rfl) (by rfl) ?_ ?_
                  ·
                    refine WS_newS hF (by rfl) (y_buildSliceL bs27_0 (by rfl)) (fun b27 => ?_)
                    refine WS_nil ?_
                    refine WH_step2 7 28 (by decide +kernel) (fun _ h => St.sub h sbA) (by rfl) (by rfl) ?_ ?_
                    ·
                      refine WS_gen hF (by rfl) (fun w hw => y_append0 (by rfl) (by rfl) Tryd.underlying27 infPo (by rfl) (Src_pos (fun w hw => hrd3.p _ _ w sbA hw) hw) (rowOf_len po_len _ _) (by omega) (by omega) w hw) ?_
                      rintro _ Hc hrc0
                      obtain ⟨ca, ccap, rfl, hrc⟩ := NewRow.sl hrc0
                      refine WS_back ?_
                      refine WS_nil ?_
                      refine WH_step2 10 28 (by decide +kernel) (fun _ h => St.sub h sbA) (by rfl) (by rfl) ?_ ?_
                      ·
                        refine WS_appendN hF (H1 := (_ :: _ :: _ :: _ :: _ :: _ :: _ :: (JJ ++ (HX3)))) (Hn := Hc) (by rfl) (by rfl) (by rfl) Tryd.underlying27 infPo (by rfl) (by rfl) hrc (rowOf_len po_len _ _) (.inr ⟨_, _, rfl, (by first | exact Mem.own (us := [.int _ _, .int _ _]) 0 (by rfl) (by rfl) | exact Mem.own (us := [.int _ _, .int _ _]) 1 (by rfl) (by rfl) | exact Mem.own (us := [.int _ _, .int _ _]) 2 (by rfl) (by rfl))⟩) (by rfl) (by rfl) (by omega) (by omega) (by omega) ?_
                        intro a3 cap3' H3 hr3
                        have hrow3 : NewRow 26 2 (c.nx r.w r.x (⟨(a : Int), (b : Int)⟩ : Po)).l.length (rowOf Po.cells (fun z => (c.nx r.w r.x (⟨(a : Int), (b : Int)⟩ : Po)).l.getD z Po.z) (c.nx r.w r.x (⟨(a : Int), (b : Int)⟩ : Po)).l.length) (.slice a3 (c.nx r.w r.x (⟨(a : Int), (b : Int)⟩ : Po)).l.length cap3') H3 := by rw [c.nx_row, c.nx_len]; exact hr3
                        refine WS_nil ?_
                        refine WH_take 27 (by decide +kernel) (by rfl) (by decide +kernel) (by decide +kernel) (by rfl) (ye_buildL bd128_0_1_2 (by rfl)) ?_
                        refine WH_step1 28 (by decide +kernel) (fun _ h => St.sub h sbA) (by rfl) ?_
                        ·
                          refine WS_new hF (by rfl) (y_alloc Tryd.zeroValue128 (by rfl)) (fun b13 => ?_)
                          refine WS_nil ?_
                          refine WH_done (by decide +kernel) (fun _ h => St.sub h sbA) ?_
                          exact ⟨_, _, _, _, hrow3, (by repeat (first | exact trivial | refine ⟨by rfl, ?_⟩ | refine ⟨congrArg (Value.int _) (by first | omega | (simp only; omega) | (push_cast; omega)), ?_⟩)), HSub.sub sbA⟩
                      ·
                        refine WS_new hF (by rfl) (y_alloc Tryd.zeroValue128 (by rfl)) (fun b13 => ?_)
                        refine WS_nil ?_
                        refine WH_step1 10 (by decide +kernel) (fun _ h => St.sub h sbA) (by rfl) ?_
                        ·
                          refine WS_appendN hF (H1 := (_ :: _ :: _ :: _ :: _ :: _ :: _ :: _ :: (JJ ++ (HX3)))) (Hn := Hc) (by rfl) (by rfl) (by rfl) Tryd.underlying27 infPo (by rfl) (by rfl) hrc (rowOf_len po_len _ _) (.inr ⟨_, _, rfl, (by first | exact Mem.own (us := [.int _ _, .int _ _]) 0 (by rfl) (by rfl) | exact Mem.own (us := [.int _ _, .int _ _]) 1 (by rfl) (by rfl) | exact Mem.own (us := [.int _ _, .int _ _]) 2 (by rfl) (by rfl))⟩) (by rfl) (by rfl) (by omega) (by omega) (by omega) ?_
                          intro a3 cap3' H3 hr3
                          have hrow3 : NewRow 26 2 (c.nx r.w r.x (⟨(a : Int), (b : Int)⟩ : Po)).l.length (rowOf Po.cells (fun z => (c.nx r.w r.x (⟨(a : Int), (b : Int)⟩ : Po)).l.getD z Po.z) (c.nx r.w r.x (⟨(a : Int), (b : Int)⟩ : Po)).l.length) (.slice a3 (c.nx r.w r.x (⟨(a : Int), (b : Int)⟩ : Po)).l.length cap3') H3 := by rw [c.nx_row, c.nx_len]; exact hr3
                          refine WS_nil ?_
                          refine WH_take 27 (by decide +kernel) (by rfl) (by decide +kernel) (by decide +kernel) (by rfl) (ye_buildL bd128_0_1_2 (by rfl)) ?_
                          refine WH_done (by decide +kernel) (fun _ h => St.sub h sbA) ?_
                          exact ⟨_, _, _, _, hrow3, (by repeat (first | exact trivial | refine ⟨by rfl, ?_⟩ | refine ⟨congrArg (Value.int _) (by first | omega | (simp only; omega) | (push_cast; omega)), ?_⟩)), HSub.sub sbA⟩
                    ·
                      refine WS_new hF (by rfl) (y_alloc Tryd.zeroValue128 (by rfl)) (fun b13 => ?_)
                      refine WS_nil ?_
                      refine WH_step1 7 (by decide +kernel) (fun _ h => St.sub h sbA) (by rfl) ?_
                      ·
                        refine WS_gen hF (by rfl) (fun w hw => y_append0 (by rfl) (by rfl) Tryd.underlying27 infPo (by rfl) (Src_pos (fun w hw => hrd3.p _ _ w sbA hw) hw) (rowOf_len po_len _ _) (by omega) (by omega) w hw) ?_
                        rintro _ Hc hrc0
                        obtain ⟨ca, ccap, rfl, hrc⟩ := NewRow.sl hrc0
                        refine WS_back ?_
                        refine WS_nil ?_
                        refine WH_step1 10 (by decide +kernel) (fun _ h => St.sub h sbA) (by rfl) ?_
                        ·
                          refine WS_appendN hF (H1 := (_ :: _ :: _ :: _ :: _ :: _ :: _ :: _ :: (JJ ++ (HX3)))) (Hn := Hc) (by rfl) (by rfl) (by rfl) Tryd.underlying27 infPo (by rfl) (by rfl) hrc (rowOf_len po_len _ _) (.inr ⟨_, _, rfl, (by first | exact Mem.own (us := [.int _ _, .int _ _]) 0 (by rfl) (by rfl) | exact Mem.own (us := [.int _ _, .int _ _]) 1 (by rfl) (by rfl) | exact Mem.own (us := [.int _ _, .int _ _]) 2 (by rfl) (by rfl))⟩) (by rfl) (by rfl) (by omega) (by omega) (by omega) ?_
                          intro a3 cap3' H3 hr3
                          have hrow3 : NewRow 26 2 (c.nx r.w r.x (⟨(a : Int), (b : Int)⟩ : Po)).l.length (rowOf Po.cells (fun z => (c.nx r.w r.x (⟨(a : Int), (b : Int)⟩ : Po)).l.getD z Po.z) (c.nx r.w r.x (⟨(a : Int), (b : Int)⟩ : Po)).l.length) (.slice a3 (c.nx r.w r.x (⟨(a : Int), (b : Int)⟩ : Po)).l.length cap3') H3 := by rw [c.nx_row, c.nx_len]; exact hr3
                          refine WS_nil ?_
                          refine WH_take 27 (by decide +kernel) (by rfl) (by decide +kernel) (by decide +kernel) (by rfl) (ye_buildL bd128_0_1_2 (by rfl)) ?_
                          refine WH_done (by decide +kernel) (fun _ h => St.sub h sbA) ?_
                          exact ⟨_, _, _, _, hrow3, (by repeat (first | exact trivial | refine ⟨by rfl, ?_⟩ | refine ⟨congrArg (Value.int _) (by first | omega | (simp only; omega) | (push_cast; omega)), ?_⟩)), HSub.sub sbA⟩
                  ·
                    refine WS_new hF (by rfl) (y_alloc Tryd.zeroValue128 (by rfl)) (fun b13 => ?_)
                    refine WS_nil ?_
                    refine WH_step1 1 (by decide +kernel) (fun _ h => St.sub h sbA) (by rfl) ?_
                    ·
                      refine WS_newS hF (by rfl) (y_buildSliceL bs27_0 (by rfl)) (fun b28 => ?_)
                      refine WS_nil ?_
                      refine WH_step1 7 (by decide +kernel) (fun _ h => St.sub h sbA) (by rfl) ?_
                      ·
                        refine WS_gen hF (by rfl) (fun w hw => y_append0 (by rfl) (by rfl) Tryd.underlying27 infPo (by rfl) (Src_pos (fun w hw => hrd3.p _ _ w sbA hw) hw) (rowOf_len po_len _ _) (by omega) (by omega) w hw) ?_
                        rintro _ Hc hrc0
                        obtain ⟨ca, ccap, rfl, hrc⟩ := NewRow.sl hrc0
                        refine WS_back ?_
                        refine WS_nil ?_
                        refine WH_step1 10 (by decide +kernel) (fun _ h => St.sub h sbA) (by rfl) ?_
                        ·
                          refine WS_appendN hF (H1 := (_ :: _ :: _ :: _ :: _ :: _ :: _ :: _ :: (JJ ++ (HX3)))) (Hn := Hc) (by rfl) (by rfl) (by rfl) Tryd.underlying27 infPo (by rfl) (by rfl) hrc (rowOf_len po_len _ _) (.inr ⟨_, _, rfl, (by first | exact Mem.own (us := [.int _ _, .int _ _]) 0 (by rfl) (by rfl) | exact Mem.own (us := [.int _ _, .int _ _]) 1 (by rfl) (by rfl) | exact Mem.own (us := [.int _ _, .int _ _]) 2 (by rfl) (by rfl))⟩) (by rfl) (by rfl) (by omega) (by omega) (by omega) ?_
                          intro a3 cap3' H3 hr3
                          have hrow3 : NewRow 26 2 (c.nx r.w r.x (⟨(a : Int), (b : Int)⟩ : Po)).l.length (rowOf Po.cells (fun z => (c.nx r.w r.x (⟨(a : Int), (b : Int)⟩ : Po)).l.getD z Po.z) (c.nx r.w r.x (⟨(a : Int), (b : Int)⟩ : Po)).l.length) (.slice a3 (c.nx r.w r.x (⟨(a : Int), (b : Int)⟩ : Po)).l.length cap3') H3 := by rw [c.nx_row, c.nx_len]; exact hr3
                          refine WS_nil ?_
                          refine WH_take 27 (by decide +kernel) (by rfl) (by decide +kernel) (by decide +kernel) (by rfl) (ye_buildL bd128_0_1_2 (by rfl)) ?_
                          refine WH_done (by decide +kernel) (fun _ h => St.sub h sbA) ?_
                          exact ⟨_, _, _, _, hrow3, (by repeat (first | exact trivial | refine ⟨by rfl, ?_⟩ | refine ⟨congrArg (Value.int _) (by first | omega | (simp only; omega) | (push_cast; omega)), ?_⟩)), HSub.sub sbA⟩
                ·
                  refine WS_new hF (by rfl) (y_alloc Tryd.zeroValue128 (by rfl)) (fun b13 => ?_)
                  refine WS_nil ?_
                  refine WH_step2 1 9 (by decide +kernel) (fun _ h => St.sub h sbA) (by rfl) (by rfl) ?_ ?_
                  ·
                    refine WS_newS hF (by rfl) (y_buildSliceL bs27_0 (by rfl)) (fun b29 => ?_)
                    refine WS_nil ?_
                    refine WH_step2 7 9 (by decide +kernel) (fun _ h => St.sub h sbA) (by rfl) (by rfl) ?_ ?_
                    ·
                      refine WS_gen hF (by rfl) (fun w hw => y_append0 (by rfl) (by rfl) Tryd.underlying27 infPo (by rfl) (Src_pos (fun w hw => hrd3.p _ _ w sbA hw) hw) (rowOf_len po_len _ _) (by omega) (by omega) w hw) ?_
                      rintro _ Hc hrc0
                      obtain ⟨ca, ccap, rfl, hrc⟩ := NewRow.sl hrc0
                      refine WS_back ?_
                      refine WS_nil ?_
                      refine WH_step1 9 (by decide +kernel) (fun _ h => St.sub h sbA) (by rfl) ?_
                      ·
                        refine WS_newS hF (by rfl) (y_buildSliceL bs27_1_0 (by rfl)) (fun b30 => ?_)
                        refine WS_nil ?_
                        refine WH_step1 10 (by decide +kernel) (fun _ h => St.sub h sbA) (by rfl) ?_
                        ·
                          refine WS_appendN hF (H1 := (_ :: _ :: _ :: _ :: _ :: _ :: _ :: _ :: (JJ ++ (HX3)))) (Hn := Hc) (by rfl) (by rfl) (by rfl) Tryd.underlying27 infPo (by rfl) (by rfl) hrc (rowOf_len po_len _ _) (.inr ⟨_, _, rfl, (by first | exact Mem.own (us := [.int _ _, .int _ _]) 0 (by rfl) (by rfl) | exact Mem.own (us := [.int _ _, .int _ _]) 1 (by rfl) (by rfl) | exact Mem.own (us := [.int _ _, .int _ _]) 2 (by rfl) (by rfl))⟩) (by rfl) (by rfl) (by omega) (by omega) (by omega) ?_
                          intro a3 cap3' H3 hr3
                          have hrow3 : NewRow 26 2 (c.nx r.w r.x (⟨(a : Int), (b : Int)⟩ : Po)).l.length (rowOf Po.cells (fun z => (c.nx r.w r.x (⟨(a : Int), (b : Int)⟩ : Po)).l.getD z Po.z) (c.nx r.w r.x (⟨(a : Int), (b : Int)⟩ : Po)).l.length) (.slice a3 (c.nx r.w r.x (⟨(a : Int), (b : Int)⟩ : Po)).l.length cap3') H3 := by rw [c.nx_row, c.nx_len]; exact hr3
                          refine WS_nil ?_
                          refine WH_take 27 (by decide +kernel) (by rfl) (by decide +kernel) (by decide +kernel) (by rfl) (ye_buildL bd128_0_1_2 (by rfl)) ?_
                          refine WH_done (by decide +kernel) (fun _ h => St.sub h sbA) ?_
                          exact ⟨_, _, _, _, hrow3, (by repeat (first | exact trivial | refine ⟨by rfl, ?_⟩ | refine ⟨congrArg (Value.int _) (by first | omega | (simp only; omega) | (push_cast; omega)), ?_⟩)), HSub.sub sbA⟩
                    ·
                      refine WS_newS hF (by rfl) (y_buildSliceL bs27_1_0 (by rfl)) (fun b31 => ?_)
                      refine WS_nil ?_
                      refine WH_step1 7 (by decide +kernel) (fun _ h => St.sub h sbA) (by rfl) ?_
                      ·
                        refine WS_gen hF (by rfl) (fun w hw => y_append0 (by rfl) (by rfl) Tryd.underlying27 infPo (by rfl) (Src_pos (fun w hw => hrd3.p _ _ w sbA hw) hw) (rowOf_len po_len _ _) (by omega) (by omega) w hw) ?_
                        rintro _ Hc hrc0
                        obtain ⟨ca, ccap, rfl, hrc⟩ := NewRow.sl hrc0
                        refine WS_back ?_
                        refine WS_nil ?_
                        refine WH_step1 10 (by decide +kernel) (fun _ h => St.sub h sbA) (by rfl) ?_
                        ·
                          refine WS_appendN hF (H1 := (_ :: _ :: _ :: _ :: _ :: _ :: _ :: _ :: (JJ ++ (HX3)))) (Hn := Hc) (by rfl) (by rfl) (by rfl) Tryd.underlying27 infPo (by rfl) (by rfl) hrc (rowOf_len po_len _ _) (.inr ⟨_, _, rfl, (by first | exact Mem.own (us := [.int _ _, .int _ _]) 0 (by rfl) (by rfl) | exact Mem.own (us := [.int _ _, .int _ _]) 1 (by rfl) (by rfl) | exact Mem.own (us := [.int _ _, .int _ _]) 2 (by rfl) (by rfl))⟩) (by rfl) (by rfl) (by omega) (by omega) (by omega) ?_
                          intro a3 cap3' H3 hr3
                          have hrow3 : NewRow 26 2 (c.nx r.w r.x (⟨(a : Int), (b : Int)⟩ : Po)).l.length (rowOf Po.cells (fun z => (c.nx r.w r.x (⟨(a : Int), (b : Int)⟩ : Po)).l.getD z Po.z) (c.nx r.w r.x (⟨(a : Int), (b : Int)⟩ : Po)).l.length) (.slice a3 (c.nx r.w r.x (⟨(a : Int), (b : Int)⟩ : Po)).l.length cap3') H3 := by rw [c.nx_row, c.nx_len]; exact hr3
                          refine WS_nil ?_
                          refine WH_take 27 (by decide +kernel) (by rfl) (by decide +kernel) (by decide +kernel) (by rfl) (ye_buildL bd128_0_1_2 (by rfl)) ?_
                          refine WH_done (by decide +kernel) (fun _ h => St.sub h sbA) ?_
                          exact ⟨_, _, _, _, hrow3, (by repeat (first | exact trivial | refine ⟨by rfl, ?_⟩ | refine ⟨congrArg (Value.int _) (by first | omega | (simp only; omega) | (push_cast; omega)), ?_⟩)), HSub.sub sbA⟩
                  ·
                    refine WS_newS hF (by rfl) (y_buildSliceL bs27_1_0 (by rfl)) (fun b32 => ?_)
                    refine WS_nil ?_
                    refine WH_step1 1 (by decide +kernel) (fun _ h => St.sub h sbA) (by rfl) ?_
                    ·
                      refine WS_newS hF (by rfl) (y_buildSliceL bs27_0 (by rfl)) (fun b33 => ?_)
                      refine WS_nil ?_
                      refine WH_step1 7 (by decide +kernel) (fun _ h => St.sub h sbA) (by rfl) ?_
                      ·
                        refine WS_gen hF (by rfl) (fun w hw => y_append0 (by rfl) (by rfl) Tryd.underlying27 infPo (by rfl) (Src_pos (fun w hw => hrd3.p _ _ w sbA hw) hw) (rowOf_len po_len _ _) (by omega) (by omega) w hw) ?_
                        rintro _ Hc hrc0
                        obtain ⟨ca, ccap, rfl, hrc⟩ := NewRow.sl hrc0
                        refine WS_back ?_
                        refine WS_nil ?_
                        refine WH_step1 10 (by decide +kernel) (fun _ h => St.sub h sbA) (by rfl) ?_
                        ·
                          refine WS_appendN hF (H1 := (_ :: _ :: _ :: _ :: _ :: _ :: _ :: _ :: (JJ ++ (HX3)))) (Hn := Hc) (by rfl) (by rfl) (by rfl) Tryd.underlying27 infPo (by rfl) (by rfl) hrc (rowOf_len po_len _ _) (.inr ⟨_, _, rfl, (by first | exact Mem.own (us := [.int _ _, .int _ _]) 0 (by rfl) (by rfl) | exact Mem.own (us := [.int _ _, .int _ _]) 1 (by rfl) (by rfl) | exact Mem.own (us := [.int _ _, .int _ _]) 2 (by rfl) (by rfl))⟩) (by rfl) (by rfl) (by omega) (by omega) (by omega) ?_
                          intro a3 cap3' H3 hr3
                          have hrow3 : NewRow 26 2 (c.nx r.w r.x (⟨(a : Int), (b : Int)⟩ : Po)).l.length (rowOf Po.cells (fun z => (c.nx r.w r.x (⟨(a : Int), (b : Int)⟩ : Po)).l.getD z Po.z) (c.nx r.w r.x (⟨(a : Int), (b : Int)⟩ : Po)).l.length) (.slice a3 (c.nx r.w r.x (⟨(a : Int), (b : Int)⟩ : Po)).l.length cap3') H3 := by rw [c.nx_row, c.nx_len]; exact hr3
                          refine WS_nil ?_
                          refine WH_take 27 (by decide +kernel) (by rfl) (by decide +kernel) (by decide +kernel) (by rfl) (ye_buildL bd128_0_1_2 (by rfl)) ?_
                          refine WH_done (by decide +kernel) (fun _ h => St.sub h sbA) ?_
                          exact ⟨_, _, _, _, hrow3, (by repeat (first | exact trivial | refine ⟨by rfl, ?_⟩ | refine ⟨congrArg (Value.int _) (by first | omega | (simp only; omega) | (push_cast; omega)), ?_⟩)), HSub.sub sbA⟩
        ·
          try simp only [Bool.not_eq_true', Bool.not_eq_false', decide_eq_true_eq, decide_eq_false_iff_not, ne_eq, Classical.not_not, Int.not_lt, Int.not_le] at c14
          have hR4 : RcR c n fr rs.length i r ((a + 1) * (c.n + 1)) ⟨a + 1, P3, look3, rs3, ks3, bo3, cap3, junk3, HX3⟩ := by
            have : b = c.n + 1 := by omega
            rw [Nat.succ_mul]
            subst this
            exact hR3.rk (a + 1)
          refine W_exit ?_
          refine Then_exit ?_
          refine Loop_exit ?_
          refine InB_same ?_
          refine InB_normal ?_
          refine Then_normal ?_
          refine W_region_lit (fun ds => ?_)
          refine WS_det hF (by rfl) (y_move (c := .int .i64 _) (by rfl)) ?_
          refine WS_det hF (by rfl) (y_add (by rfl) (by rfl) (by unfold I64; omega)) ?_
          refine WS_det hF (by rfl) (y_assign (c := .int .i64 _) (by rfl)) ?_
          refine WS_nil ?_
          exact Loop_next (RcG.mk (a + 1) P3 look3 rs3 ks3 bo3 cap3 junk3 HX3) ⟨by simp only; omega, hR4⟩ (by repeat (first | exact trivial | refine ⟨by rfl, ?_⟩)) sbA (by simp only; omega)
      ·
        try simp only [Bool.not_eq_true', Bool.not_eq_false', decide_eq_true_eq, decide_eq_false_iff_not, ne_eq, Classical.not_not, Int.not_lt, Int.not_le] at c11
        have hS2 : RcS c n fr rs.length (i + 1) ⟨i + 1, P2, look2, rs2, ks2, bo2, cap2, junk2, HX2⟩ := by
          have : a = c.n + 1 := by omega
          subst this
          exact hR2.fin (i + 1)
        refine W_exit ?_
        refine Then_exit ?_
        refine Loop_exit ?_
        refine InB_same ?_
        refine InB_normal ?_
        refine Then_normal ?_
        refine W_region_lit (fun ds => ?_)
        refine WS_det hF (by rfl) (y_move (c := .int .i64 _) (by rfl)) ?_
        refine WS_det hF (by rfl) (y_add (by rfl) (by rfl) (by unfold I64; omega)) ?_
        refine WS_det hF (by rfl) (y_assign (c := .int .i64 _) (by rfl)) ?_
        refine WS_nil ?_
        exact Loop_next (RcG.mk (i + 1) P2 look2 rs2 ks2 bo2 cap2 junk2 HX2) ⟨by simp only; omega, by simp only; omega, hS2⟩ (by repeat (first | exact trivial | refine ⟨by rfl, ?_⟩)) sbA (by simp only; omega)
    ·
      try simp only [Bool.not_eq_true', Bool.not_eq_false', decide_eq_true_eq, decide_eq_false_iff_not, ne_eq, Classical.not_not, Int.not_lt, Int.not_le] at c8
      have hien : i = rs.length := by omega
      have hR5 := hS1.rc.done hok (by rw [← hien]; exact hS1.dn)
      refine W_exit ?_
      refine Then_exit ?_
      refine Loop_exit ?_
      refine InB_same ?_
      refine Then_normal ?_
      refine W_region_lit (fun ds => ?_)
      refine WS_det hF (by rfl) (y_move (c := .int .i64 _) (by rfl)) ?_
      refine WS_det hF (by rfl) (y_assign (c := .int .i64 _) (by rfl)) ?_
      refine WS_nil ?_
      refine InB_normal ?_
      exact Loop_next (n + 1, rs.length, RcG.mk 0 P1 look1 rs1 ks1 bo1 cap1 junk1 HX1) ⟨by simp only; omega, hR5, hS1.rd, hS1.len, hS1.cap⟩ (by repeat (first | exact trivial | refine ⟨by rfl, ?_⟩)) sbA (by simp only; omega)
  ·
    try simp only [Bool.not_eq_true', Bool.not_eq_false', decide_eq_true_eq, decide_eq_false_iff_not, ne_eq, Classical.not_not, Int.not_lt, Int.not_le] at c5
    refine W_exit ?_
    refine Then_exit ?_
    refine Loop_exit ?_
    refine InB_same ?_
    refine Then_normal ?_
    refine W_seq ?_
    refine W_region_lit (fun ds => ?_)
    refine WS_det hF (by rfl) (y_move (c := .slice _ _ _) (by rfl)) ?_
    refine WS_det hF (by rfl) (y_assign (c := .slice _ _ _) (by rfl)) ?_
    refine WS_nil ?_
    refine Then_normal ?_
    refine W_ret ?_
    refine Fin_ret [.slice _ _ _] ((bo, _) :: HX) Tryd.results67 ⟨by rfl, trivial⟩ (HSub.sub sbA) ?_
    exact ⟨rs, bo, cap, junk, HX, rfl, rfl, hR.end hok (by rw [List.length_map]; omega), hrd, hcap⟩
end Go.Proofs.YtjekjehgmljbgaaDoor.T

/- Aims, and the fewest pourings for them: the program's walks. -/
namespace Go.Proofs.YtjekjehgmljbgaaDoor.T
open Go.RowKit Go.Proofs Go.Eng
set_option maxRecDepth 100000
set_option maxHeartbeats 1000000
set_option linter.unusedVariables false
set_option linter.unusedSimpArgs false



/-- A function value that tells of contents, in some world and all later ones. -/
structure AimW (P : Program) (w : World) (fid : FuncId) (first caps : List Value) (Q : Co → Prop) (p : Co → Bool) : Prop where
  enter : ∀ args w, (callFunc fid args).run P w = .ok (.enter fid args) w
  call : ∀ x, Q x → ∀ w', Below w.heap.size w w' → Ct P fid (first ++ (Value.agg x.cells.toArray :: caps)).toArray w' fun v _ => v = .bool (p x)
theorem AimW.st {C : Ctx} {H : List Blk} {fid : FuncId} {first caps : List Value} {Q : Co → Prop} {p : Co → Bool} (h : AimW C.P C.w0 fid first caps Q p) (w : World) (hw : St C H w) : AimW C.P w fid first caps Q p :=
  ⟨h.enter, fun x hx w' hb => h.call x hx w' (hw.1.trans (hb.mono hw.1.size))⟩
def idxF (x : Int) : List Int → Nat → Int
  | [], _ => -1
  | y :: l, k => if x = y then (k : Int) else idxF x l (k + 1)
theorem idxF_step {x : Int} {xs : List Int} {k : Nat} (h : k < xs.length) : idxF x (xs.drop k) k = if x = xs.getD k 0 then (k : Int) else idxF x (xs.drop (k + 1)) (k + 1) := by
  rw [List.drop_eq_getElem_cons h]; simp [idxF, h, List.getD_eq_getElem?_getD]
theorem idxF_mem {x : Int} : ∀ {l : List Int} {k : Nat}, 0 ≤ idxF x l k ↔ x ∈ l
  | [], k => by simp [idxF]
  | y :: l, k => by
    unfold idxF
    by_cases h : x = y
    · simp [h]
    · rw [if_neg h, idxF_mem]; simp [h]
theorem indexI_any (a : Option Addr) (n cap : Nat) (xs : List Int) (x : Int) (w : World) (hn : n ≤ 1000000) (hx : Ints w a n cap xs) : Ct Tryd.prog 133 #[.slice a n cap, .int .i64 x] w fun v _ => v = .int .i64 (idxF x xs 0) := by
  have hl := hx.len
  have hF := wide_wide
  refine Ct_start (args := [_, _]) Tryd.func133 (by rfl) Tryd.ntmps133 (by rfl) ?_
  refine W_seq ?_
  refine W_region_lit (fun ds => ?_)
  refine WS_det hF (by rfl) (y_assign (c := .int .i64 _) (by rfl)) ?_
  refine WS_nil ?_
  refine Then_normal ?_
  refine W_seq ?_
  refine W_seq ?_
  refine W_region_lit (fun ds => ?_)
  refine WS_det hF (by rfl) (y_move (c := .slice _ _ _) (by rfl)) ?_
  refine WS_det hF (by rfl) (y_len (by rfl) Tryd.runUnderlying22) ?_
  refine WS_det hF (by rfl) (y_move (c := .int .i64 _) (by rfl)) ?_
  refine WS_nil ?_
  refine Then_normal ?_
  refine W_block ?_
  refine W_loop (γ := Nat) (fun k => k ≤ n ∧ idxF x (xs.drop k) k = idxF x xs 0) (fun k => [(0, .slice a n cap), (1, .int .i64 x), (6, .slice a n cap), (7, .int .i64 (n : Int)), (8, .int .i64 (k : Int))]) (fun _ => _) (fun k => n - k) (0) ⟨Nat.zero_le _, by simp⟩ (by repeat (first | exact trivial | refine ⟨by rfl, ?_⟩)) (List.Sublist.refl _) ?_
  intro k e hk
  refine W_seq ?_
  refine W_region_lit (fun ds => ?_)
  refine WS_det hF (by rfl) (y_lss (by rfl) (by rfl)) ?_
  refine WS_nil ?_
  refine Then_normal ?_
  refine W_seq ?_
  refine W_cond (by rfl) (fun c2 => ?_) (fun c2 => ?_)
  ·
    try simp only [Bool.not_eq_true', Bool.not_eq_false', decide_eq_true_eq, decide_eq_false_iff_not, ne_eq, Classical.not_not, Int.not_lt, Int.not_le] at c2
    obtain ⟨b, o, rfl, hc⟩ := hx.cell k (by omega)
    have hst := idxF_step (x := x) (xs := xs) (k := k) (by omega)
    refine W_skip ?_
    refine Then_normal ?_
    refine W_seq ?_
    refine W_block ?_
    refine W_seq ?_
    refine W_region_lit (fun ds => ?_)
    refine WS_det hF (by rfl) (y_move (c := .int .i64 _) (by rfl)) ?_
    refine WS_det hF (by rfl) (y_assign (c := .int .i64 _) (by rfl)) ?_
    refine WS_nil ?_
    refine Then_normal ?_
    refine W_seq ?_
    refine W_region_lit (fun ds => ?_)
    refine WS_det hF (by rfl) (y_move (c := .int .i64 _) (by rfl)) ?_
    refine WS_det hF (by rfl) (y_move (c := .slice _ _ _) (by rfl)) ?_
    refine WS_det hF (by rfl) (y_move (c := .int .i64 _) (by rfl)) ?_
    refine WS_det hF (by rfl) (y_index (k := k) (by rfl) (by rfl) (by first | rfl | omega) (by first | decide | omega) Tryd.runUnderlying22 Tryd.sizeOf3) ?_
    refine WS_det hF (by rfl) (y_load1 (by rfl) Tryd.isAgg3 (by first | exact Mem.old1 (by assumption) | exact Mem.oldAt1 (by assumption) (by rfl) | exact Mem.old (by assumption) | exact Mem.oldAtL1 (by assumption) (by rfl) (by rfl))) ?_
    refine WS_det hF (by rfl) (y_eql (by rfl) (by rfl)) ?_
    refine WS_nil ?_
    refine Then_normal ?_
    refine W_cond (by rfl) (fun c4 => ?_) (fun c4 => ?_)
    ·
      try simp only [Bool.not_eq_true', Bool.not_eq_false', decide_eq_true_eq, decide_eq_false_iff_not, ne_eq, Classical.not_not, Int.not_lt, Int.not_le] at c4
      refine W_seq ?_
      refine W_region_lit (fun ds => ?_)
      refine WS_det hF (by rfl) (y_move (c := .int .i64 _) (by rfl)) ?_
      refine WS_det hF (by rfl) (y_assign (c := .int .i64 _) (by rfl)) ?_
      refine WS_nil ?_
      refine Then_normal ?_
      refine W_ret ?_
      refine InB_ret ?_
      refine Then_ret ?_
      refine Loop_ret ?_
      refine InB_ret ?_
      refine Then_ret ?_
      refine Fin_ret [.int .i64 _] [] Tryd.results133 ⟨by rfl, trivial⟩ HSub.nil ?_
      rw [← hk.2, idxF_step (by omega), if_pos c4]; rfl
    ·
      try simp only [Bool.not_eq_true', Bool.not_eq_false', decide_eq_true_eq, decide_eq_false_iff_not, ne_eq, Classical.not_not, Int.not_lt, Int.not_le] at c4
      refine W_skip ?_
      refine InB_normal ?_
      refine Then_normal ?_
      refine W_region_lit (fun ds => ?_)
      refine WS_det hF (by rfl) (y_add (by rfl) (by rfl) (by unfold I64; omega)) ?_
      refine WS_det hF (by rfl) (y_move (c := .int .i64 _) (by rfl)) ?_
      refine WS_nil ?_
      exact Loop_next (k + 1) ⟨by omega, by rw [← hk.2, hst, if_neg c4]⟩ (by repeat (first | exact trivial | refine ⟨by rfl, ?_⟩)) (by repeat (first | exact List.Sublist.refl _ | exact List.nil_sublist _ | apply List.Sublist.cons_cons | apply List.Sublist.cons)) (by omega)
  ·
    try simp only [Bool.not_eq_true', Bool.not_eq_false', decide_eq_true_eq, decide_eq_false_iff_not, ne_eq, Classical.not_not, Int.not_lt, Int.not_le] at c2
    refine W_exit ?_
    refine Then_exit ?_
    refine Loop_exit ?_
    refine InB_same ?_
    refine Then_normal ?_
    refine W_seq ?_
    refine W_region_lit (fun ds => ?_)
    refine WS_det hF (by rfl) (y_assign (c := .int .i64 _) (by rfl)) ?_
    refine WS_nil ?_
    refine Then_normal ?_
    refine W_ret ?_
    refine Fin_ret [.int .i64 _] [] Tryd.results133 ⟨by rfl, trivial⟩ HSub.nil ?_
    rw [← hk.2, List.drop_eq_nil_of_le (by omega)]; rfl
theorem containsI_any (a : Option Addr) (n cap : Nat) (xs : List Int) (x : Int) (w : World) (hn : n ≤ 1000000) (hx : Ints w a n cap xs) : Ct Tryd.prog 103 #[.slice a n cap, .int .i64 x] w fun v _ => v = .bool (decide (x ∈ xs)) := by
  have hF := wide_wide
  refine Ct_start (args := [_, _]) Tryd.func103 (by rfl) Tryd.ntmps103 (by rfl) ?_
  refine W_seq ?_
  refine W_region_lit (fun ds => ?_)
  refine WS_det hF (by rfl) (y_assign (c := .bool _) (by rfl)) ?_
  refine WS_nil ?_
  refine Then_normal ?_
  refine W_seq ?_
  refine W_region_lit (fun ds => ?_)
  refine WS_det hF (by rfl) (y_move (c := .slice _ _ _) (by rfl)) ?_
  refine WS_det hF (by rfl) (y_move (c := .int .i64 _) (by rfl)) ?_
  refine WS_det hF (by rfl) (y_callL (by rfl) (by rfl) Tryd.call133 (fun w hw => indexI_any a n cap xs x w hn (hx.st w hw))) ?_
  refine WS_det hF (by rfl) (y_geq (by rfl) (by rfl)) ?_
  refine WS_det hF (by rfl) (y_assign (c := .bool _) (by rfl)) ?_
  refine WS_nil ?_
  refine Then_normal ?_
  refine W_ret ?_
  refine Fin_ret [.bool _] [] Tryd.results103 ⟨by rfl, trivial⟩ HSub.nil ?_
  show Value.bool _ = _
  congr 1
  rw [Bool.eq_iff_iff]
  simp only [decide_eq_true_eq]
  exact idxF_mem
theorem some1_any (c : Cn) (a1 : Option Addr) (p1 : Nat) (a2 : Option Addr) (p2 : Nat) (x : Co) (n : Int) (bb bp : Nat) (w : World) (hok : c.Ok) (hb : At w bb 0 [.slice a1 c.n p1, .slice a2 c.inn.length p2, .int .i64 c.st]) (hp : At w bp 0 [.int .i64 n]) :
    Ct Tryd.prog 102 #[.agg x.cells.toArray, .pointer (some ⟨bb, 0, none⟩), .pointer (some ⟨bp, 0, none⟩)] w fun v _ => v = .bool (c.someP n x) := by
  have hn3 := hok.n3
  have hF := wide_wide
  refine Ct_start (args := [_, _, _]) Tryd.func102 (by rfl) Tryd.ntmps102 (by rfl) ?_
  refine W_seq ?_
  refine W_region_lit (fun ds => ?_)
  refine WS_new hF (by rfl) (y_box (by rfl)) (fun b1 => ?_)
  refine WS_det hF (by rfl) (y_assign (c := .bool _) (by rfl)) ?_
  refine WS_nil ?_
  refine Then_normal ?_
  refine W_seq ?_
  refine W_draw0 hF Trydmixed [] (by decide +kernel) (fun ds => ?_)
  refine P_det (by rfl) (Over_nil (y_fieldAddr (by rfl) fa96_0)) ?_
  refine P_det (by rfl) (Over_nil (y_fieldAddr (by rfl) fa24_0)) ?_
  refine P_det (by rfl) (Over_nil (y_load1 (by rfl) Tryd.isAgg22 (by first | exact Mem.old1 (by assumption) | exact Mem.oldAt1 (by assumption) (by rfl) | exact Mem.old (by assumption) | exact Mem.oldAtL1 (by assumption) (by rfl) (by rfl)))) ?_
  refine P_det (by rfl) (Over_nil (y_len (by rfl) Tryd.runUnderlying22)) ?_
  refine P_det (by rfl) (Over_nil (y_add (by rfl) (by rfl) (by unfold I64; omega))) ?_
  refine P_det (by rfl) (Over_nil (YD_eq (y_sliceA_lohi (l := 1) (h := c.n + 1) (m := 4) (by rfl) (by rfl) (by rfl) (by rfl) (by omega) (by decide) (by omega) (by omega) Tryd.runUnderlying99 Tryd.sizeOf3) (show Value.slice (some ⟨b1, 1, none⟩) (c.n + 1 - 1) 3 = .slice (some ⟨b1, 1, none⟩) c.n 3 by rw [Nat.add_sub_cancel]))) ?_
  refine P_det (by rfl) (Over_nil (y_load1 (by rfl) Tryd.isAgg3 (by first | exact Mem.old1 (by assumption) | exact Mem.oldAt1 (by assumption) (by rfl) | exact Mem.old (by assumption) | exact Mem.oldAtL1 (by assumption) (by rfl) (by rfl)))) ?_
  refine P_det (by rfl) (Over_nil (y_callL (by rfl) (by rfl) Tryd.call103 (fun w hw => containsI_any (some ⟨b1, 1, none⟩) c.n 3 (c.of x).inn n w (by omega) (ints_of c x hn3 0 (by rfl) w hw)))) ?_
  refine P_det (by rfl) (Over_nil (y_assign (c := .bool _) (by rfl))) ?_
  refine PW_end (by rfl) ?_
  refine OverAll_nil ?_
  rintro -
  refine Then_normal ?_
  refine W_ret ?_
  refine Fin_ret [.bool _] [] Tryd.results102 ⟨by rfl, trivial⟩ HSub.nil ?_
  rfl
theorem some_any (c : Cn) (a1 : Option Addr) (p1 : Nat) (a2 : Option Addr) (p2 : Nat) (n : Int) (w : World) : Ct Tryd.prog 60 #[.agg #[.slice a1 c.n p1, .slice a2 c.inn.length p2, .int .i64 c.st], .int .i64 n] w fun v Hn => ∃ bb bp, v = .func (.func 102) #[] #[.pointer (some ⟨bb, 0, none⟩), .pointer (some ⟨bp, 0, none⟩)] ∧ Hn = [(bp, CB [.int .i64 n] 3), (bb, CB [.slice a1 c.n p1, .slice a2 c.inn.length p2, .int .i64 c.st] 96)] := by
  have hF := wide_wide
  refine Ct_start (args := [_, _]) Tryd.func60 (by rfl) Tryd.ntmps60 (by rfl) ?_
  refine W_seq ?_
  refine W_region_lit (fun ds => ?_)
  refine WS_new hF (by rfl) (y_box (by rfl)) (fun b1 => ?_)
  refine WS_new hF (by rfl) (y_box (by rfl)) (fun b2 => ?_)
  refine WS_det hF (by rfl) (y_assign (c := _) (by rfl)) ?_
  refine WS_nil ?_
  refine Then_normal ?_
  refine W_seq ?_
  refine W_region_lit (fun ds => ?_)
  refine WS_det hF (by rfl) (y_makeFuncL (by rfl) (by rfl)) ?_
  refine WS_det hF (by rfl) (y_assign (c := _) (by rfl)) ?_
  refine WS_nil ?_
  refine Then_normal ?_
  refine W_ret ?_
  refine Fin_ret [_] [(b2, _), (b1, _)] Tryd.results60 ⟨by rfl, trivial⟩ (HSub.sub (by repeat (first | exact List.nil_sublist _ | apply List.Sublist.cons_cons | apply List.Sublist.cons))) ?_
  exact ⟨_, _, rfl, rfl⟩
/-- What is answered, by the error of what is asked. -/
def AskA (e : Int) (o : Option Wy) (v : Value) (Hn : List Blk) : Prop := ∃ v0, v = .tuple #[v0, .int .i64 (if e = 0 then fewB o else 0), .int .i64 (if e = 0 then fewE o else e)] ∧ TwinP (if e = 0 then fewL o else []) v0 Hn
theorem AskA.err {e e' : Int} {o : Option Wy} {Hn : List Blk} (h : e = e') (h0 : e' ≠ 0) : AskA e o (.tuple #[.slice none 0 0, .int .i64 0, .int .i64 e']) Hn := by
  subst h
  refine ⟨_, by rw [if_neg h0, if_neg h0], ?_⟩
  rw [if_neg h0]
  exact TwinP.nil _
theorem AskA.ok {e : Int} {o : Option Wy} {v0 : Value} {Hn : List Blk} (h : e = 0) (hT : TwinP (fewL o) v0 Hn) : AskA e o (.tuple #[v0, .int .i64 (fewB o), .int .i64 (fewE o)]) Hn := by
  subst h
  exact ⟨_, rfl, hT⟩
def Cn.lsE (c : Cn) (n : Int) : Int := if c.okB then if inB 0 20 [n] then 0 else 2 else 80
def Cn.ttE (c : Cn) (n : Int) : Int := if c.okB then if inB 0 (sumL c.sz) [n] then 0 else 2 else 80
def Cn.wantB (c : Cn) (want : List Int) : Bool := decide (want.length = c.n) && (List.range want.length).all fun k => inB (-1) (c.s k) [want.getD k 0]
def Cn.boE (c : Cn) (want : List Int) : Int := if c.okB then if c.wantB want then 0 else 2 else 80
end Go.Proofs.YtjekjehgmljbgaaDoor.T

/- The fewest pourings for all cans together, and for each one: the program's walks. -/
namespace Go.Proofs.YtjekjehgmljbgaaDoor.T
open Go.RowKit Go.Proofs Go.Eng
set_option maxRecDepth 100000
set_option maxHeartbeats 1000000
set_option linter.unusedVariables false
set_option linter.unusedSimpArgs false



theorem sumTo_bd {xs : List Int} (h : ∀ k, k < xs.length → 0 ≤ xs.getD k 0 ∧ xs.getD k 0 ≤ 600) : ∀ k, k ≤ xs.length → 0 ≤ sumTo xs k ∧ sumTo xs k ≤ 600 * (k : Int)
  | 0, _ => by unfold sumTo; simp [sumL]
  | k + 1, hk => by
    have ih := sumTo_bd h k (by omega)
    have hx := h k (by omega)
    rw [sumTo_succ (by omega)]
    omega
theorem sumTo_all (xs : List Int) : sumTo xs xs.length = sumL xs := by unfold sumTo; rw [List.take_length]
end Go.Proofs.YtjekjehgmljbgaaDoor.T

/- What is wanted, and the fewest pourings for it: the reference's walks. -/
namespace Go.Proofs.YtjekjehgmljbgaaDoor.T
open Go.RowKit Go.Proofs Go.Eng
set_option maxRecDepth 100000
set_option maxHeartbeats 1000000
set_option linter.unusedVariables false
set_option linter.unusedSimpArgs false

theorem fa134_0 : ∀ b o w, (Instr.fieldAt 134 (.pointer (some ⟨b, o, none⟩)) 0).run Tryd.prog w = .ok (.pointer (some ⟨b, o + 0, none⟩)) w := fun b o w => by kernel_rfl
theorem fa134_1 : ∀ b o w, (Instr.fieldAt 134 (.pointer (some ⟨b, o, none⟩)) 1).run Tryd.prog w = .ok (.pointer (some ⟨b, o + 1, none⟩)) w := fun b o w => by kernel_rfl
theorem fa134_2 : ∀ b o w, (Instr.fieldAt 134 (.pointer (some ⟨b, o, none⟩)) 2).run Tryd.prog w = .ok (.pointer (some ⟨b, o + 2, none⟩)) w := fun b o w => by kernel_rfl

structure Am where
  some : Int
  total : Int
  each : List Int
def Am.p (c : Cn) (a : Am) (x : Co) : Bool := if 0 ≤ a.total then totP a.total x else if 0 ≤ a.some then c.someP a.some x else c.bothP a.each x
def sumA (s : Int) (xs : List Int) : Nat → Int
  | 0 => s
  | k + 1 => sumA s xs k + xs.getD k 0
theorem sumA_eq (s : Int) (xs : List Int) : ∀ k, k ≤ xs.length → sumA s xs k = s + sumTo xs k
  | 0, _ => by show s = s + sumTo xs 0; rw [show sumTo xs 0 = 0 from rfl, Int.add_zero]
  | k + 1, h => by
    rw [sumTo_succ (by omega)]
    unfold sumA
    rw [sumA_eq s xs k (by omega)]
    omega
theorem rcsum_any (c : Cn) (a1 : Option Addr) (p1 : Nat) (a2 : Option Addr) (p2 : Nat) (w : World) (hl : c.inn.length ≤ 1000) (hs : 0 ≤ c.st ∧ c.st ≤ 600) (hbd : ∀ k, k < c.inn.length → 0 ≤ c.inn.getD k 0 ∧ c.inn.getD k 0 ≤ 600) (h2 : Ints w a2 c.inn.length p2 c.inn) : Ct Tryd.prog 90 #[.agg #[.slice a1 c.n p1, .slice a2 c.inn.length p2, .int .i64 c.st]] w fun v _ => v = .int .i64 (c.st + sumL c.inn) := by
  have hF := wide_wide
  refine Ct_start (args := [_]) Tryd.func90 (by rfl) Tryd.ntmps90 (by rfl) ?_
  refine W_seq ?_
  refine W_region_lit (fun ds => ?_)
  refine WS_new hF (by rfl) (y_box (by rfl)) (fun b1 => ?_)
  refine WS_det hF (by rfl) (y_assign (c := .int .i64 _) (by rfl)) ?_
  refine WS_nil ?_
  refine Then_normal ?_
  refine W_seq ?_
  refine W_region_lit (fun ds => ?_)
  refine WS_det hF (by rfl) (y_fieldAddr (by rfl) fa24_2) ?_
  refine WS_det hF (by rfl) (y_load1 (by rfl) Tryd.isAgg3 (Mem.own1 0 (by rfl) (by rfl))) ?_
  refine WS_det hF (by rfl) (y_assign (c := .int .i64 _) (by rfl)) ?_
  refine WS_nil ?_
  refine Then_normal ?_
  refine W_seq ?_
  refine W_seq ?_
  refine W_region_lit (fun ds => ?_)
  refine WS_det hF (by rfl) (y_fieldAddr (by rfl) fa24_1) ?_
  refine WS_det hF (by rfl) (y_load1 (by rfl) Tryd.isAgg22 (Mem.own1 0 (by rfl) (by rfl))) ?_
  refine WS_det hF (by rfl) (y_len (by rfl) Tryd.runUnderlying22) ?_
  refine WS_det hF (by rfl) (y_move (c := .int .i64 _) (by rfl)) ?_
  refine WS_nil ?_
  refine Then_normal ?_
  refine W_block ?_
  refine W_loop (γ := Nat) (fun k => k ≤ c.inn.length) (fun k => [(3, .int .i64 (sumA c.st c.inn k)), (9, .slice a2 c.inn.length p2), (10, .int .i64 (c.inn.length : Int)), (11, .int .i64 (k : Int))]) (fun _ => _) (fun k => c.inn.length - k) (0) (Nat.zero_le _) (by repeat (first | exact trivial | refine ⟨by rfl, ?_⟩)) (List.Sublist.refl _) ?_
  intro k e hk
  refine W_seq ?_
  refine W_region_lit (fun ds => ?_)
  refine WS_det hF (by rfl) (y_lss (by rfl) (by rfl)) ?_
  refine WS_nil ?_
  refine Then_normal ?_
  refine W_seq ?_
  refine W_cond (by rfl) (fun c3 => ?_) (fun c3 => ?_)
  ·
    try simp only [Bool.not_eq_true', Bool.not_eq_false', decide_eq_true_eq, decide_eq_false_iff_not, ne_eq, Classical.not_not, Int.not_lt, Int.not_le] at c3
    obtain ⟨b, o, rfl, hc⟩ := h2.cell k (by omega)
    have hb := sumTo_bd hbd k hk
    have hx' := hbd k (by omega)
    have hse := sumA_eq c.st c.inn k hk
    refine W_skip ?_
    refine Then_normal ?_
    refine W_seq ?_
    refine W_block ?_
    refine W_seq ?_
    refine W_region_lit (fun ds => ?_)
    refine WS_det hF (by rfl) (y_index (k := k) (by rfl) (by rfl) (by first | rfl | omega) (by first | decide | omega) Tryd.runUnderlying22 Tryd.sizeOf3) ?_
    refine WS_det hF (by rfl) (y_load1 (by rfl) Tryd.isAgg3 (by first | exact Mem.old1 (by assumption) | exact Mem.oldAt1 (by assumption) (by rfl) | exact Mem.old (by assumption) | exact Mem.oldAtL1 (by assumption) (by rfl) (by rfl))) ?_
    refine WS_det hF (by rfl) (y_assign (c := .int .i64 _) (by rfl)) ?_
    refine WS_nil ?_
    refine Then_normal ?_
    refine W_region_lit (fun ds => ?_)
    refine WS_det hF (by rfl) (y_move (c := .int .i64 _) (by rfl)) ?_
    refine WS_det hF (by rfl) (y_move (c := .int .i64 _) (by rfl)) ?_
    refine WS_det hF (by rfl) (y_add (by rfl) (by rfl) (by unfold I64; omega)) ?_
    refine WS_det hF (by rfl) (y_assign (c := .int .i64 _) (by rfl)) ?_
    refine WS_nil ?_
    refine InB_normal ?_
    refine Then_normal ?_
    refine W_region_lit (fun ds => ?_)
    refine WS_det hF (by rfl) (y_add (by rfl) (by rfl) (by unfold I64; omega)) ?_
    refine WS_det hF (by rfl) (y_move (c := .int .i64 _) (by rfl)) ?_
    refine WS_nil ?_
    exact Loop_next (k + 1) (by omega) (by repeat (first | exact trivial | refine ⟨by rfl, ?_⟩)) (by repeat (first | exact List.Sublist.refl _ | exact List.nil_sublist _ | apply List.Sublist.cons_cons | apply List.Sublist.cons)) (by omega)
  ·
    try simp only [Bool.not_eq_true', Bool.not_eq_false', decide_eq_true_eq, decide_eq_false_iff_not, ne_eq, Classical.not_not, Int.not_lt, Int.not_le] at c3
    refine W_exit ?_
    refine Then_exit ?_
    refine Loop_exit ?_
    refine InB_same ?_
    refine Then_normal ?_
    refine W_seq ?_
    refine W_region_lit (fun ds => ?_)
    refine WS_det hF (by rfl) (y_move (c := .int .i64 _) (by rfl)) ?_
    refine WS_det hF (by rfl) (y_assign (c := .int .i64 _) (by rfl)) ?_
    refine WS_nil ?_
    refine Then_normal ?_
    refine W_ret ?_
    refine Fin_ret [.int .i64 _] [] Tryd.results90 ⟨by rfl, trivial⟩ HSub.nil ?_
    have : k = c.inn.length := by omega
    subst this
    rw [← sumTo_all, ← sumA_eq c.st c.inn _ (Nat.le_refl _)]
    rfl
theorem Cn.Ok.inn_bd {c : Cn} (h : c.Ok) : c.inn.length ≤ 1000 ∧ ∀ k, k < c.inn.length → 0 ≤ c.inn.getD k 0 ∧ c.inn.getD k 0 ≤ 600 := by
  have h3 := h.n3
  have hl := h.len
  refine ⟨by omega, fun k hk => ?_⟩
  have h1 := h.i k (by omega)
  have h2 := h.s k (by omega)
  unfold Cn.i at h1
  omega
theorem ris_any (c : Cn) (x : Co) (s : Option Addr) (ks : Nat) (i : Option Addr) (ki : Nat) (am : Am) (ea : Option Addr) (ecap : Nat) (w : World) (hok : c.Ok) (hin : c.In x) (hI : Ints w i (c.of x).inn.length ki (c.of x).inn) (hE : Ints w ea am.each.length ecap am.each) (hen : am.each.length ≤ 1000000) (hel : am.total < 0 → am.some < 0 → am.each.length = c.n) :
    Ct Tryd.prog 106 #[.agg #[.slice s c.n ks, .slice i (c.of x).inn.length ki, .int .i64 x.a], .agg #[.int .i64 am.some, .int .i64 am.total, .slice ea am.each.length ecap]] w fun v _ => v = .bool (am.p c x) := by
  have hokx := hok.of hin
  have hn3 := hok.n3
  have hlx : (c.of x).inn.length = c.n := hokx.len
  have hbx := hokx.inn_bd
  have hst : 0 ≤ x.a ∧ x.a ≤ 600 := ⟨hin.lo 0 (by decide), hin.hi 0 (Nat.zero_le _)⟩
  have hsb : 0 ≤ sumL (c.of x).inn ∧ sumL (c.of x).inn ≤ 600 * ((c.of x).inn.length : Int) := by rw [← sumTo_all]; exact sumTo_bd hbx.2 _ (Nat.le_refl _)
  have hF := wide_wide
  refine Ct_start (args := [_, _]) Tryd.func106 (by rfl) Tryd.ntmps106 (by rfl) ?_
  refine W_seq ?_
  refine W_region_lit (fun ds => ?_)
  refine WS_new hF (by rfl) (y_box (by rfl)) (fun b1 => ?_)
  refine WS_new hF (by rfl) (y_box (by rfl)) (fun b2 => ?_)
  refine WS_det hF (by rfl) (y_assign (c := .bool _) (by rfl)) ?_
  refine WS_nil ?_
  refine Then_normal ?_
  refine W_seq ?_
  refine W_seq ?_
  refine W_region_lit (fun ds => ?_)
  refine WS_det hF (by rfl) (y_fieldAddr (by rfl) fa134_1) ?_
  refine WS_det hF (by rfl) (y_load1 (by rfl) Tryd.isAgg3 (Mem.own1 0 (by rfl) (by rfl))) ?_
  refine WS_det hF (by rfl) (y_geq (by rfl) (by rfl)) ?_
  refine WS_nil ?_
  refine Then_normal ?_
  refine W_cond (by rfl) (fun c1 => ?_) (fun c1 => ?_)
  ·
    try simp only [Bool.not_eq_true', Bool.not_eq_false', decide_eq_true_eq, decide_eq_false_iff_not, ne_eq, Classical.not_not, Int.not_lt, Int.not_le] at c1
    refine W_seq ?_
    refine W_draw0 hF Trydmixed [] (by decide +kernel) (fun ds => ?_)
    refine P_det (by rfl) (Over_nil (y_loadN (by rfl) Tryd.isAgg24 Tryd.sizeOf24 (Mem.own (us := [.slice _ _ _, .slice _ _ _, .int .i64 _]) 1 (by rfl) (by rfl)) (by rfl))) ?_
    refine P_det (by rfl) (Over_nil (y_callL (by rfl) (by rfl) Tryd.call90 (fun w hw => rcsum_any (c.of x) s ks i ki w hbx.1 hst hbx.2 (hI.st w hw)))) ?_
    refine P_det (by rfl) (Over_nil (y_fieldAddr (by rfl) fa24_2)) ?_
    refine P_det (by rfl) (Over_nil (y_load1 (by rfl) Tryd.isAgg3 (Mem.own1 1 (by rfl) (by rfl)))) ?_
    refine P_det (by rfl) (Over_nil (y_sub (by rfl) (by rfl) (by show I64 (x.a + sumL (c.of x).inn - x.a); unfold I64; omega))) ?_
    refine P_det (by rfl) (Over_nil (y_fieldAddr (by rfl) fa134_1)) ?_
    refine P_det (by rfl) (Over_nil (y_load1 (by rfl) Tryd.isAgg3 (Mem.own1 0 (by rfl) (by rfl)))) ?_
    refine P_det (by rfl) (Over_nil (y_eql (by rfl) (by rfl))) ?_
    refine P_det (by rfl) (Over_nil (y_assign (c := .bool _) (by rfl))) ?_
    refine PW_end (by rfl) ?_
    refine OverAll_nil ?_
    rintro -
    refine Then_normal ?_
    refine W_ret ?_
    refine Then_ret ?_
    refine Fin_ret [.bool _] [] Tryd.results106 ⟨by rfl, trivial⟩ HSub.nil ?_
    show Value.bool _ = .bool (am.p c x)
    congr 1
    unfold Am.p totP
    rw [if_pos (show 0 ≤ am.total by omega), ← Cn.sum_of hok hin]
    rw [Bool.eq_iff_iff]
    constructor
    · intro h
      have : x.a + sumL (c.of x).inn - x.a = am.total := of_decide_eq_true h
      exact decide_eq_true (by omega)
    · intro h
      have := of_decide_eq_true h
      exact decide_eq_true (show x.a + sumL (c.of x).inn - x.a = am.total by omega)
  ·
    try simp only [Bool.not_eq_true', Bool.not_eq_false', decide_eq_true_eq, decide_eq_false_iff_not, ne_eq, Classical.not_not, Int.not_lt, Int.not_le] at c1
    have hp1 : am.p c x = if 0 ≤ am.some then c.someP am.some x else c.bothP am.each x := if_neg (by omega)
    refine W_skip ?_
    refine Then_normal ?_
    refine W_seq ?_
    refine W_seq ?_
    refine W_region_lit (fun ds => ?_)
    refine WS_det hF (by rfl) (y_fieldAddr (by rfl) fa134_0) ?_
    refine WS_det hF (by rfl) (y_load1 (by rfl) Tryd.isAgg3 (Mem.own1 0 (by rfl) (by rfl))) ?_
    refine WS_det hF (by rfl) (y_geq (by rfl) (by rfl)) ?_
    refine WS_nil ?_
    refine Then_normal ?_
    refine W_cond (by rfl) (fun c3 => ?_) (fun c3 => ?_)
    ·
      try simp only [Bool.not_eq_true', Bool.not_eq_false', decide_eq_true_eq, decide_eq_false_iff_not, ne_eq, Classical.not_not, Int.not_lt, Int.not_le] at c3
      have hp2 : am.p c x = c.someP am.some x := hp1.trans (if_pos (by omega))
      refine W_seq ?_
      refine W_seq ?_
      refine W_region_lit (fun ds => ?_)
      refine WS_det hF (by rfl) (y_fieldAddr (by rfl) fa24_1) ?_
      refine WS_det hF (by rfl) (y_load1 (by rfl) Tryd.isAgg22 (Mem.own1 1 (by rfl) (by rfl))) ?_
      refine WS_det hF (by rfl) (y_len (by rfl) Tryd.runUnderlying22) ?_
      refine WS_det hF (by rfl) (y_move (c := .int .i64 _) (by rfl)) ?_
      refine WS_nil ?_
      refine Then_normal ?_
      refine W_block ?_
      refine W_loop (γ := Nat) (fun k => k ≤ (c.of x).inn.length ∧ ∀ j, j < k → (c.of x).inn.getD j 0 ≠ am.some) (fun k => [(3, .pointer (some ⟨b2, 0, none⟩)), (23, .slice i (c.of x).inn.length ki), (24, .int .i64 ((c.of x).inn.length : Int)), (25, .int .i64 (k : Int))]) (fun _ => _) (fun k => (c.of x).inn.length - k) (0) ⟨Nat.zero_le _, fun j h => absurd h (Nat.not_lt_zero _)⟩ (by repeat (first | exact trivial | refine ⟨by rfl, ?_⟩)) (List.Sublist.refl _) ?_
      rintro k e ⟨hk, hj⟩
      refine W_seq ?_
      refine W_region_lit (fun ds => ?_)
      refine WS_det hF (by rfl) (y_lss (by rfl) (by rfl)) ?_
      refine WS_nil ?_
      refine Then_normal ?_
      refine W_seq ?_
      refine W_cond (by rfl) (fun c5 => ?_) (fun c5 => ?_)
      ·
        try simp only [Bool.not_eq_true', Bool.not_eq_false', decide_eq_true_eq, decide_eq_false_iff_not, ne_eq, Classical.not_not, Int.not_lt, Int.not_le] at c5
        obtain ⟨b, o, rfl, hc⟩ := hI.cell k (by omega)
        refine W_skip ?_
        refine Then_normal ?_
        refine W_seq ?_
        refine W_block ?_
        refine W_seq ?_
        refine W_region_lit (fun ds => ?_)
        refine WS_det hF (by rfl) (y_index (k := k) (by rfl) (by rfl) (by first | rfl | omega) (by first | decide | omega) Tryd.runUnderlying22 Tryd.sizeOf3) ?_
        refine WS_det hF (by rfl) (y_load1 (by rfl) Tryd.isAgg3 (by first | exact Mem.old1 (by assumption) | exact Mem.oldAt1 (by assumption) (by rfl) | exact Mem.old (by assumption) | exact Mem.oldAtL1 (by assumption) (by rfl) (by rfl))) ?_
        refine WS_det hF (by rfl) (y_assign (c := .int .i64 _) (by rfl)) ?_
        refine WS_nil ?_
        refine Then_normal ?_
        refine W_seq ?_
        refine W_region_lit (fun ds => ?_)
        refine WS_det hF (by rfl) (y_move (c := .int .i64 _) (by rfl)) ?_
        refine WS_det hF (by rfl) (y_fieldAddr (by rfl) fa134_0) ?_
        refine WS_det hF (by rfl) (y_load1 (by rfl) Tryd.isAgg3 (Mem.own1 0 (by rfl) (by rfl))) ?_
        refine WS_det hF (by rfl) (y_eql (by rfl) (by rfl)) ?_
        refine WS_nil ?_
        refine Then_normal ?_
        refine W_cond (by rfl) (fun c7 => ?_) (fun c7 => ?_)
        ·
          try simp only [Bool.not_eq_true', Bool.not_eq_false', decide_eq_true_eq, decide_eq_false_iff_not, ne_eq, Classical.not_not, Int.not_lt, Int.not_le] at c7
          refine W_seq ?_
          refine W_region_lit (fun ds => ?_)
          refine WS_det hF (by rfl) (y_assign (c := .bool _) (by rfl)) ?_
          refine WS_nil ?_
          refine Then_normal ?_
          refine W_ret ?_
          refine InB_ret ?_
          refine Then_ret ?_
          refine Loop_ret ?_
          refine InB_ret ?_
          refine Then_ret ?_
          refine Then_ret ?_
          refine Fin_ret [.bool _] [] Tryd.results106 ⟨by rfl, trivial⟩ HSub.nil ?_
          rw [hp2]
          show Value.bool _ = _
          congr 1
          symm
          refine decide_eq_true ?_
          rw [← c7, List.getD_eq_getElem?_getD, List.getElem?_eq_getElem (show k < (c.of x).inn.length by omega)]
          exact List.getElem_mem _
        ·
          try simp only [Bool.not_eq_true', Bool.not_eq_false', decide_eq_true_eq, decide_eq_false_iff_not, ne_eq, Classical.not_not, Int.not_lt, Int.not_le] at c7
          refine W_skip ?_
          refine InB_normal ?_
          refine Then_normal ?_
          refine W_region_lit (fun ds => ?_)
          refine WS_det hF (by rfl) (y_add (by rfl) (by rfl) (by unfold I64; omega)) ?_
          refine WS_det hF (by rfl) (y_move (c := .int .i64 _) (by rfl)) ?_
          refine WS_nil ?_
          exact Loop_next (k + 1) ⟨by omega, fun j h => by by_cases hjk : j = k; (subst hjk; exact c7); exact hj j (by omega)⟩ (by repeat (first | exact trivial | refine ⟨by rfl, ?_⟩)) (by repeat (first | exact List.Sublist.refl _ | exact List.nil_sublist _ | apply List.Sublist.cons_cons | apply List.Sublist.cons)) (by omega)
      ·
        try simp only [Bool.not_eq_true', Bool.not_eq_false', decide_eq_true_eq, decide_eq_false_iff_not, ne_eq, Classical.not_not, Int.not_lt, Int.not_le] at c5
        refine W_exit ?_
        refine Then_exit ?_
        refine Loop_exit ?_
        refine InB_same ?_
        refine Then_normal ?_
        refine W_seq ?_
        refine W_region_lit (fun ds => ?_)
        refine WS_det hF (by rfl) (y_assign (c := .bool _) (by rfl)) ?_
        refine WS_nil ?_
        refine Then_normal ?_
        refine W_ret ?_
        refine Then_ret ?_
        refine Fin_ret [.bool _] [] Tryd.results106 ⟨by rfl, trivial⟩ HSub.nil ?_
        rw [hp2]
        show Value.bool _ = _
        congr 1
        symm
        refine decide_eq_false fun hm => ?_
        obtain ⟨j, hjl, hje⟩ := List.getElem_of_mem hm
        exact hj j (by omega) (by rw [List.getD_eq_getElem?_getD, List.getElem?_eq_getElem hjl]; exact hje)
    ·
      try simp only [Bool.not_eq_true', Bool.not_eq_false', decide_eq_true_eq, decide_eq_false_iff_not, ne_eq, Classical.not_not, Int.not_lt, Int.not_le] at c3
      have hp2 : am.p c x = c.bothP am.each x := hp1.trans (if_neg (by omega))
      have hle := hel (by omega) (by omega)
      refine W_skip ?_
      refine Then_normal ?_
      refine W_seq ?_
      refine W_seq ?_
      refine W_region_lit (fun ds => ?_)
      refine WS_det hF (by rfl) (y_assign (c := .int .i64 _) (by rfl)) ?_
      refine WS_nil ?_
      refine Then_normal ?_
      refine W_block ?_
      refine W_loop (γ := Nat) (fun k => k ≤ am.each.length ∧ ∀ j, j < k → am.each.getD j 0 < 0 ∨ (c.of x).i j = am.each.getD j 0) (fun k => [(2, .pointer (some ⟨b1, 0, none⟩)), (3, .pointer (some ⟨b2, 0, none⟩)), (7, .int .i64 (k : Int))]) (fun _ => _) (fun k => am.each.length - k) (0) ⟨Nat.zero_le _, fun j h => absurd h (Nat.not_lt_zero _)⟩ (by repeat (first | exact trivial | refine ⟨by rfl, ?_⟩)) (List.Sublist.refl _) ?_
      rintro k e ⟨hk, hj⟩
      refine W_seq ?_
      refine W_seq ?_
      refine W_region_lit (fun ds => ?_)
      refine WS_det hF (by rfl) (y_move (c := .int .i64 _) (by rfl)) ?_
      refine WS_det hF (by rfl) (y_fieldAddr (by rfl) fa134_2) ?_
      refine WS_det hF (by rfl) (y_load1 (by rfl) Tryd.isAgg22 (Mem.own1 0 (by rfl) (by rfl))) ?_
      refine WS_det hF (by rfl) (y_len (by rfl) Tryd.runUnderlying22) ?_
      refine WS_det hF (by rfl) (y_lss (by rfl) (by rfl)) ?_
      refine WS_nil ?_
      refine Then_normal ?_
      refine W_cond (by rfl) (fun c12 => ?_) (fun c12 => ?_)
      ·
        try simp only [Bool.not_eq_true', Bool.not_eq_false', decide_eq_true_eq, decide_eq_false_iff_not, ne_eq, Classical.not_not, Int.not_lt, Int.not_le] at c12
        obtain ⟨b, o, rfl, hc⟩ := hE.cell k (by omega)
        obtain ⟨b', o', rfl, hc'⟩ := hI.cell k (by omega)
        change At w b' _ [.int .i64 ((c.of x).i k)] at hc'
        refine W_skip ?_
        refine Then_normal ?_
        refine W_seq ?_
        refine W_block ?_
        refine W_seq ?_
        refine W_draw0 hF Trydmixed [] (by decide +kernel) (fun ds => ?_)
        refine P_det (by rfl) (Over_nil (y_fieldAddr (by rfl) fa134_2)) ?_
        refine P_det (by rfl) (Over_nil (y_load1 (by rfl) Tryd.isAgg22 (Mem.own1 0 (by rfl) (by rfl)))) ?_
        refine P_det (by rfl) (Over_nil (y_move (c := .int .i64 _) (by rfl))) ?_
        refine P_det (by rfl) (Over_nil (y_index (k := k) (by rfl) (by rfl) (by first | rfl | omega) (by first | decide | omega) Tryd.runUnderlying22 Tryd.sizeOf3)) ?_
        refine P_det (by rfl) (Over_nil (y_load1 (by rfl) Tryd.isAgg3 (by first | exact Mem.old1 (by assumption) | exact Mem.oldAt1 (by assumption) (by rfl) | exact Mem.old (by assumption) | exact Mem.oldAtL1 (by assumption) (by rfl) (by rfl)))) ?_
        refine P_det (by rfl) (Over_nil (y_geq (by rfl) (by rfl))) ?_
        refine P_det (by rfl) (Over_nil (y_move (c := .bool _) (by rfl))) ?_
        refine P_split 47 (by rfl) (fun g14_6 => ?_) (fun g14_6 => ?_)
        ·
          try simp only [Bool.not_eq_true', Bool.not_eq_false', decide_eq_true_eq, decide_eq_false_iff_not, ne_eq, Classical.not_not, Int.not_lt, Int.not_le] at g14_6
          refine P_det (by rfl) (Over_nil (y_fieldAddr (by rfl) fa24_1)) ?_
          refine P_det (by rfl) (Over_nil (y_load1 (by rfl) Tryd.isAgg22 (Mem.own1 1 (by rfl) (by rfl)))) ?_
          refine P_det (by rfl) (Over_nil (y_move (c := .int .i64 _) (by rfl))) ?_
          refine P_det (by rfl) (Over_nil (y_index (k := k) (by rfl) (by rfl) (by first | rfl | omega) (by first | decide | omega) Tryd.runUnderlying22 Tryd.sizeOf3)) ?_
          refine P_det (by rfl) (Over_nil (y_load1 (by rfl) Tryd.isAgg3 (by first | exact Mem.old1 (by assumption) | exact Mem.oldAt1 (by assumption) (by rfl) | exact Mem.old (by assumption) | exact Mem.oldAtL1 (by assumption) (by rfl) (by rfl)))) ?_
          refine P_det (by rfl) (Over_nil (y_fieldAddr (by rfl) fa134_2)) ?_
          refine P_det (by rfl) (Over_nil (y_load1 (by rfl) Tryd.isAgg22 (Mem.own1 0 (by rfl) (by rfl)))) ?_
          refine P_det (by rfl) (Over_nil (y_move (c := .int .i64 _) (by rfl))) ?_
          refine P_det (by rfl) (Over_nil (y_index (k := k) (by rfl) (by rfl) (by first | rfl | omega) (by first | decide | omega) Tryd.runUnderlying22 Tryd.sizeOf3)) ?_
          refine P_det (by rfl) (Over_nil (y_load1 (by rfl) Tryd.isAgg3 (by first | exact Mem.old1 (by assumption) | exact Mem.oldAt1 (by assumption) (by rfl) | exact Mem.old (by assumption) | exact Mem.oldAtL1 (by assumption) (by rfl) (by rfl)))) ?_
          refine P_det (by rfl) (Over_nil (y_neq (by rfl) (by rfl))) ?_
          refine P_det (by rfl) (Over_nil (by first | exact y_pick_t (c := .bool _) (by rfl) (by rfl) | exact y_pick_f (c := .bool _) (by rfl) (by rfl))) ?_
          refine PW_end (by rfl) ?_
          refine OverAll_nil ?_
          rintro -
          refine Then_normal ?_
          refine W_cond (by rfl) (fun c14 => ?_) (fun c14 => ?_)
          ·
            try simp only [Bool.not_eq_true', Bool.not_eq_false', decide_eq_true_eq, decide_eq_false_iff_not, ne_eq, Classical.not_not, Int.not_lt, Int.not_le] at c14
            refine W_seq ?_
            refine W_region_lit (fun ds => ?_)
            refine WS_det hF (by rfl) (y_assign (c := .bool _) (by rfl)) ?_
            refine WS_nil ?_
            refine Then_normal ?_
            refine W_ret ?_
            refine InB_ret ?_
            refine Then_ret ?_
            refine Loop_ret ?_
            refine InB_ret ?_
            refine Then_ret ?_
            refine Fin_ret [.bool _] [] Tryd.results106 ⟨by rfl, trivial⟩ HSub.nil ?_
            rw [hp2]
            show Value.bool _ = _
            congr 1
            symm
            unfold Cn.bothP
            exact List.all_eq_false.2 ⟨k, List.mem_range.2 (by omega), by simp only [decide_eq_true_eq]; omega⟩
          ·
            try simp only [Bool.not_eq_true', Bool.not_eq_false', decide_eq_true_eq, decide_eq_false_iff_not, ne_eq, Classical.not_not, Int.not_lt, Int.not_le] at c14
            have hjn : am.each.getD k 0 < 0 ∨ (c.of x).i k = am.each.getD k 0 := by omega
            refine W_skip ?_
            refine InB_normal ?_
            refine Then_normal ?_
            refine W_region_lit (fun ds => ?_)
            refine WS_det hF (by rfl) (y_move (c := .int .i64 _) (by rfl)) ?_
            refine WS_det hF (by rfl) (y_add (by rfl) (by rfl) (by unfold I64; omega)) ?_
            refine WS_det hF (by rfl) (y_assign (c := .int .i64 _) (by rfl)) ?_
            refine WS_nil ?_
            exact Loop_next (k + 1) ⟨by omega, fun j h => by by_cases hjk : j = k; (subst hjk; exact hjn); exact hj j (by omega)⟩ (by repeat (first | exact trivial | refine ⟨by rfl, ?_⟩)) (by repeat (first | exact List.Sublist.refl _ | exact List.nil_sublist _ | apply List.Sublist.cons_cons | apply List.Sublist.cons)) (by omega)
        ·
          try simp only [Bool.not_eq_true', Bool.not_eq_false', decide_eq_true_eq, decide_eq_false_iff_not, ne_eq, Classical.not_not, Int.not_lt, Int.not_le] at g14_6
          refine P_no (by rfl) ?_
          refine P_no (by rfl) ?_
          refine P_no (by rfl) ?_
          refine P_no (by rfl) ?_
          refine P_no (by rfl) ?_
          refine P_no (by rfl) ?_
          refine P_no (by rfl) ?_
          refine P_no (by rfl) ?_
          refine P_no (by rfl) ?_
          refine P_no (by rfl) ?_
          refine P_no (by rfl) ?_
          refine P_det (by rfl) (Over_nil (by first | exact y_pick_t (c := .bool _) (by rfl) (by rfl) | exact y_pick_f (c := .bool _) (by rfl) (by rfl))) ?_
          refine PW_end (by rfl) ?_
          refine OverAll_nil ?_
          rintro -
          refine Then_normal ?_
          refine W_cond (by rfl) (fun c14 => ?_) (fun c14 => ?_)
          · cases c14
          ·
            try simp only [Bool.not_eq_true', Bool.not_eq_false', decide_eq_true_eq, decide_eq_false_iff_not, ne_eq, Classical.not_not, Int.not_lt, Int.not_le] at c14
            have hjn : am.each.getD k 0 < 0 ∨ (c.of x).i k = am.each.getD k 0 := by omega
            refine W_skip ?_
            refine InB_normal ?_
            refine Then_normal ?_
            refine W_region_lit (fun ds => ?_)
            refine WS_det hF (by rfl) (y_move (c := .int .i64 _) (by rfl)) ?_
            refine WS_det hF (by rfl) (y_add (by rfl) (by rfl) (by unfold I64; omega)) ?_
            refine WS_det hF (by rfl) (y_assign (c := .int .i64 _) (by rfl)) ?_
            refine WS_nil ?_
            exact Loop_next (k + 1) ⟨by omega, fun j h => by by_cases hjk : j = k; (subst hjk; exact hjn); exact hj j (by omega)⟩ (by repeat (first | exact trivial | refine ⟨by rfl, ?_⟩)) (by repeat (first | exact List.Sublist.refl _ | exact List.nil_sublist _ | apply List.Sublist.cons_cons | apply List.Sublist.cons)) (by omega)
      ·
        try simp only [Bool.not_eq_true', Bool.not_eq_false', decide_eq_true_eq, decide_eq_false_iff_not, ne_eq, Classical.not_not, Int.not_lt, Int.not_le] at c12
        refine W_exit ?_
        refine Then_exit ?_
        refine Loop_exit ?_
        refine InB_same ?_
        refine Then_normal ?_
        refine W_seq ?_
        refine W_region_lit (fun ds => ?_)
        refine WS_det hF (by rfl) (y_assign (c := .bool _) (by rfl)) ?_
        refine WS_nil ?_
        refine Then_normal ?_
        refine W_ret ?_
        refine Fin_ret [.bool _] [] Tryd.results106 ⟨by rfl, trivial⟩ HSub.nil ?_
        rw [hp2]
        show Value.bool _ = _
        congr 1
        symm
        unfold Cn.bothP
        rw [List.all_eq_true]
        intro j h
        rw [decide_eq_true_eq]
        exact hj j (by have := List.mem_range.1 h; omega)
end Go.Proofs.YtjekjehgmljbgaaDoor.T

/- The fewest pourings, as the reference finds them: its walks. -/
namespace Go.Proofs.YtjekjehgmljbgaaDoor.T
open Go.RowKit Go.Proofs Go.Eng
set_option maxRecDepth 100000
set_option maxHeartbeats 1000000
set_option linter.unusedVariables false
set_option linter.unusedSimpArgs false

theorem bd134_0_1 {x0 : Int} {x1 : Int} : ∀ w, (Instr.build 134 #[(0, .int .i64 x0), (1, .int .i64 x1)]).run Tryd.prog w = .ok (.agg #[.int .i64 x0, .int .i64 x1, .slice none 0 0]) w := fun w => by kernel_rfl
/-- A way of the reference, part by part. -/
structure Rv where
  s : Option Addr
  sn : Nat
  sk : Nat
  i : Option Addr
  im : Nat
  ik : Nat
  st : Int
  l : Option Addr
  ln : Nat
  lk : Nat
  back : Int
def Rv.cells (v : Rv) : List Value := [.slice v.s v.sn v.sk, .slice v.i v.im v.ik, .int .i64 v.st, .slice v.l v.ln v.lk, .int .i64 v.back]
def Rv.z : Rv := ⟨none, 0, 0, none, 0, 0, 0, none, 0, 0, 0⟩
def Rl.rv (c : Cn) (r : Rl) : Rv := ⟨r.s, c.n, r.ks, r.i, (c.of r.x).inn.length, r.ki, r.x.a, r.l, r.w.l.length, r.kl, r.w.back⟩
structure Rl.Rd (c : Cn) (w : World) (r : Rl) : Prop where
  i : Ints w r.i (c.of r.x).inn.length r.ki (c.of r.x).inn
  p : Pos w r.l r.w.l.length r.kl r.w.l
theorem Rl.Rd.st {c : Cn} {C : Ctx} {H : List Blk} {r : Rl} (h : r.Rd c C.w0) (w : World) (hw : St C H w) : r.Rd c w := ⟨h.i.st w hw, h.p.st w hw⟩
theorem rRow_rws {c : Cn} {C : Ctx} {H : List Blk} {b T cap : Nat} {rs : List Rl} {junk : List Value} (i : Nat) (hi : H[i]? = some (b, CB (rRow c rs ++ junk) T)) (hc : rs.length ≤ cap) (w : World) (hw : St C H w) : Rws (Rl.cells c) 5 Rl.z w (some ⟨b, 0, none⟩) rs.length cap rs :=
  ⟨rfl, hc, fun k hk => ⟨b, 0, rfl, by
    rw [Nat.zero_add]
    exact Mem.rl 0 i hi (List.getElem?_eq_getElem hk) (us := (rs.getD k Rl.z).cells c) (rest := []) (by rw [List.getD_eq_getElem?_getD, List.getElem?_eq_getElem hk, List.append_nil]; rfl) (by omega) rfl w hw⟩⟩
/-- What the reference's search returns. -/
def FewR (c : Cn) (p : Co → Bool) (rs : List Rl) (v : Value) : Prop := ∃ (b : Bool) (q : Rv), v = .tuple #[.agg q.cells.toArray, .bool b] ∧ (b = true → ∃ r ∈ rs, q = r.rv c ∧ c.few p = some r.w) ∧ (b = false → c.few p = none)
theorem rfewest_any (c : Cn) (rs : List Rl) (a : Option Addr) (cap : Nat) (am : Am) (ea : Option Addr) (ecap : Nat) (w : World) (hok : c.Ok) (hR : c.Rcd (rs.map Rl.zz)) (hrs : Rws (Rl.cells c) 5 Rl.z w a rs.length cap rs) (hrd : ∀ r ∈ rs, r.Rd c w)
    (hE : Ints w ea am.each.length ecap am.each) (hen : am.each.length ≤ 1000000) (hel : am.total < 0 → am.some < 0 → am.each.length = c.n) :
    Ct Tryd.prog 66 #[.slice a rs.length cap, .agg #[.int .i64 am.some, .int .i64 am.total, .slice ea am.each.length ecap]] w fun v _ => FewR c (am.p c) rs v := by
  have hlen := hR.len
  rw [List.length_map] at hlen
  have hF := wide_wide
  refine Ct_start (args := [_, _]) Tryd.func66 (by rfl) Tryd.ntmps66 (by rfl) ?_
  refine W_seq ?_
  refine W_region_lit (fun ds => ?_)
  refine WS_new hF (by rfl) (y_box (by rfl)) (fun b1 => ?_)
  refine WS_new hF (by rfl) (y_alloc Tryd.zeroValue128 (by rfl)) (fun b4 => ?_)
  refine WS_det hF (by rfl) (y_assign (c := .bool _) (by rfl)) ?_
  refine WS_nil ?_
  refine Then_normal ?_
  refine W_seq ?_
  refine W_region_lit (fun ds => ?_)
  refine WS_new hF (by rfl) (y_alloc Tryd.zeroValue128 (by rfl)) (fun b6 => ?_)
  refine WS_nil ?_
  refine Then_normal ?_
  refine W_seq ?_
  refine W_region_lit (fun ds => ?_)
  refine WS_det hF (by rfl) (y_assign (c := .bool _) (by rfl)) ?_
  refine WS_nil ?_
  refine Then_normal ?_
  refine W_seq ?_
  refine W_seq ?_
  refine W_region_lit (fun ds => ?_)
  refine WS_det hF (by rfl) (y_move (c := .slice _ _ _) (by rfl)) ?_
  refine WS_det hF (by rfl) (y_len (by rfl) Tryd.runUnderlying131) ?_
  refine WS_det hF (by rfl) (y_move (c := .int .i64 _) (by rfl)) ?_
  refine WS_nil ?_
  refine Then_normal ?_
  refine W_block ?_
  refine W_loop (γ := Nat × Bool × Nat × Rv) (fun q => q.1 ≤ rs.length ∧ FewK (am.p c) (rs.map Rl.zz) q.1 q.2.1 q.2.2.1 ∧ (q.2.1 = true → ∃ r, rs[q.2.2.1]? = some r ∧ q.2.2.2 = r.rv c)) (fun q => [(3, .pointer (some ⟨b1, 0, none⟩)), (4, .pointer (some ⟨b4, 0, none⟩)), (6, .pointer (some ⟨b6, 0, none⟩)), (7, .bool q.2.1), (10, .slice a rs.length cap), (11, .int .i64 (rs.length : Int)), (12, .int .i64 (q.1 : Int))]) (fun q => (b6, CB q.2.2.2.cells 128) :: (b4, CB Rv.z.cells 128) :: (b1, CB [.int .i64 am.some, .int .i64 am.total, .slice ea am.each.length ecap] 134) :: []) (fun q => rs.length - q.1) ((0, false, 0, Rv.z)) ⟨Nat.zero_le _, FewK.zero _ _, fun h => by cases h⟩ (by repeat (first | exact trivial | refine ⟨by rfl, ?_⟩)) (sbA) ?_
  rintro ⟨k, b, i, q⟩ e ⟨(hk : k ≤ rs.length), (hK : FewK (am.p c) (rs.map Rl.zz) k b i), (hq : b = true → ∃ r, rs[i]? = some r ∧ q = r.rv c)⟩
  refine W_seq ?_
  refine W_region_lit (fun ds => ?_)
  refine WS_det hF (by rfl) (y_lss (by rfl) (by rfl)) ?_
  refine WS_nil ?_
  refine Then_normal ?_
  refine W_seq ?_
  refine W_cond (by rfl) (fun c4 => ?_) (fun c4 => ?_)
  ·
    try simp only [Bool.not_eq_true', Bool.not_eq_false', decide_eq_true_eq, decide_eq_false_iff_not, ne_eq, Classical.not_not, Int.not_lt, Int.not_le] at c4
    have hkl : k < rs.length := by omega
    obtain ⟨r, hrk⟩ : ∃ r, rs[k]? = some r := ⟨_, List.getElem?_eq_getElem hkl⟩
    have hz : (rs.map Rl.zz)[k]? = some (r.x, r.w) := zz_at hrk
    obtain ⟨bb, oo, rfl, hc⟩ := hrs.cell k hkl
    rw [show rs.getD k Rl.z = r by rw [List.getD_eq_getElem?_getD, hrk]; rfl] at hc
    change At w bb _ [.slice r.s c.n r.ks, .slice r.i (c.of r.x).inn.length r.ki, .int .i64 r.x.a, .slice r.l r.w.l.length r.kl, .int .i64 r.w.back] at hc
    have hbr := hR.best _ (List.mem_of_getElem? hz)
    have hin := (hbr.way.in hok).1
    have hbl := hbr.len hok
    have hrd' := hrd r (List.mem_of_getElem? hrk)
    refine W_skip ?_
    refine Then_normal ?_
    refine W_seq ?_
    refine W_block ?_
    refine W_seq ?_
    refine W_region_lit (fun ds => ?_)
    refine WS_det hF (by rfl) (y_index (k := k) (by rfl) (by rfl) (by first | rfl | omega) (by first | decide | omega) Tryd.runUnderlying131 Tryd.sizeOf128) ?_
    refine WS_det hF (by rfl) (y_loadN (by rfl) Tryd.isAgg128 Tryd.sizeOf128 (by first | exact Mem.old (by assumption) | exact Mem.oldAt (us := [.slice _ _ _, .slice _ _ _, .int .i64 _, .slice _ _ _, .int .i64 _]) (by assumption) (by rfl) | exact Mem.oldAtL (us := [.slice _ _ _, .slice _ _ _, .int .i64 _, .slice _ _ _, .int .i64 _]) (by assumption) (by rfl) (by rfl)) (by rfl)) ?_
    refine WS_new hF (by rfl) (y_alloc Tryd.zeroValue128 (by rfl)) (fun b9 => ?_)
    refine WS_store hF (i := 0) (by rfl) (by rfl) Tryd.sizeOf128 (by rfl) (by rfl) (by rfl) (by first | decide | exact Nat.le_of_ble_eq_true rfl | simp) ?_
    refine WS_nil ?_
    refine Then_normal ?_
    refine W_seq ?_
    refine W_region_lit (fun ds => ?_)
    refine WS_det hF (by rfl) (y_fieldAddr (by rfl) fa128_0) ?_
    refine WS_det hF (by rfl) (y_loadN (by rfl) Tryd.isAgg24 Tryd.sizeOf24 (Mem.own (us := [.slice _ _ _, .slice _ _ _, .int .i64 _]) 0 (by rfl) (by rfl)) (by rfl)) ?_
    refine WS_det hF (by rfl) (y_loadN (by rfl) Tryd.isAgg134 Tryd.sizeOf134 (Mem.own (us := [.int .i64 _, .int .i64 _, .slice _ _ _]) 3 (by rfl) (by rfl)) (by rfl)) ?_
    refine WS_det hF (by rfl) (y_callL (by rfl) (by rfl) Tryd.call106 (fun w hw => ris_any c r.x r.s r.ks r.i r.ki am ea ecap w hok hin (hrd'.i.st w hw) (hE.st w hw) hen hel)) ?_
    refine WS_det hF (by rfl) (y_move (c := .bool _) (by rfl)) ?_
    refine WS_split 20 (by rfl) (fun g6_4 => ?_) (fun g6_4 => ?_)
    ·
      try simp only [Bool.not_eq_true', Bool.not_eq_false', decide_eq_true_eq, decide_eq_false_iff_not, ne_eq, Classical.not_not, Int.not_lt, Int.not_le] at g6_4
      have hp : am.p c r.x = true := g6_4
      refine WS_det hF (by rfl) (y_move (c := .bool _) (by rfl)) ?_
      refine WS_det hF (by rfl) (y_not (by rfl)) ?_
      refine WS_det hF (by rfl) (y_move (c := .bool _) (by rfl)) ?_
      refine WS_split 23 (by rfl) (fun g6_7 => ?_) (fun g6_7 => ?_)
      ·
        try simp only [Bool.not_eq_true', Bool.not_eq_false', decide_eq_true_eq, decide_eq_false_iff_not, ne_eq, Classical.not_not, Int.not_lt, Int.not_le] at g6_7
        subst g6_7
        refine WS_no hF (by rfl) ?_
        refine WS_no hF (by rfl) ?_
        refine WS_no hF (by rfl) ?_
        refine WS_no hF (by rfl) ?_
        refine WS_no hF (by rfl) ?_
        refine WS_no hF (by rfl) ?_
        refine WS_no hF (by rfl) ?_
        refine WS_no hF (by rfl) ?_
        refine WS_no hF (by rfl) ?_
        refine WS_no hF (by rfl) ?_
        refine WS_no hF (by rfl) ?_
        refine WS_no hF (by rfl) ?_
        refine WS_det hF (by rfl) (by first | exact y_pick_t (c := .bool _) (by rfl) (by rfl) | exact y_pick_f (c := .bool _) (by rfl) (by rfl)) ?_
        refine WS_det hF (by rfl) (by first | exact y_pick_t (c := .bool _) (by rfl) (by rfl) | exact y_pick_f (c := .bool _) (by rfl) (by rfl)) ?_
        refine WS_nil ?_
        refine Then_normal ?_
        refine W_cond (by rfl) (fun c6 => ?_) (fun c6 => ?_)
        ·
          try simp only [Bool.not_eq_true', Bool.not_eq_false', decide_eq_true_eq, decide_eq_false_iff_not, ne_eq, Classical.not_not, Int.not_lt, Int.not_le] at c6
          refine W_region_lit (fun ds => ?_)
          refine WS_det hF (by rfl) (y_loadN (by rfl) Tryd.isAgg128 Tryd.sizeOf128 (Mem.own (us := [.slice _ _ _, .slice _ _ _, .int .i64 _, .slice _ _ _, .int .i64 _]) 0 (by rfl) (by rfl)) (by rfl)) ?_
          refine WS_store hF (i := 1) (by rfl) (by rfl) Tryd.sizeOf128 (by rfl) (by rfl) (by rfl) (by first | decide | exact Nat.le_of_ble_eq_true rfl | simp) ?_
          refine WS_det hF (by rfl) (y_assign (c := .bool _) (by rfl)) ?_
          refine WS_nil ?_
          refine InB_normal ?_
          refine Then_normal ?_
          refine W_region_lit (fun ds => ?_)
          refine WS_det hF (by rfl) (y_add (by rfl) (by rfl) (by unfold I64; omega)) ?_
          refine WS_det hF (by rfl) (y_move (c := .int .i64 _) (by rfl)) ?_
          refine WS_nil ?_
          exact Loop_next (k + 1, true, k, r.rv c) ⟨by omega, hK.fst hz hp, fun _ => ⟨r, hrk, rfl⟩⟩ (by repeat (first | exact trivial | refine ⟨by rfl, ?_⟩)) sbA (by simp only; omega)
        · cases c6
      ·
        try simp only [Bool.not_eq_true', Bool.not_eq_false', decide_eq_true_eq, decide_eq_false_iff_not, ne_eq, Classical.not_not, Int.not_lt, Int.not_le] at g6_7
        subst g6_7
        obtain ⟨r', hri, rfl⟩ := hq rfl
        have hiz : (rs.map Rl.zz)[i]? = some (r'.x, r'.w) := zz_at hri
        have hik : i < k := hK.1
        have hmon := hR.mono hik hiz hz
        have hbr2 := hR.best _ (List.mem_of_getElem? hiz)
        have hbl2 := hbr2.len hok
        have hrd2 := hrd r' (List.mem_of_getElem? hri)
        refine WS_det hF (by rfl) (y_fieldAddr (by rfl) fa128_1) ?_
        refine WS_det hF (by rfl) (y_load1 (by rfl) Tryd.isAgg27 (Mem.own1 0 (by rfl) (by rfl))) ?_
        refine WS_det hF (by rfl) (y_len (by rfl) Tryd.runUnderlying27) ?_
        refine WS_det hF (by rfl) (y_fieldAddr (by rfl) fa128_1) ?_
        refine WS_det hF (by rfl) (y_load1 (by rfl) Tryd.isAgg27 (Mem.own1 1 (by rfl) (by rfl))) ?_
        refine WS_det hF (by rfl) (y_len (by rfl) Tryd.runUnderlying27) ?_
        refine WS_det hF (by rfl) (y_eql (by rfl) (by rfl)) ?_
        refine WS_det hF (by rfl) (y_move (c := .bool _) (by rfl)) ?_
        refine WS_split 31 (by rfl) (fun g6_15 => ?_) (fun g6_15 => ?_)
        ·
          try simp only [Bool.not_eq_true', Bool.not_eq_false', decide_eq_true_eq, decide_eq_false_iff_not, ne_eq, Classical.not_not, Int.not_lt, Int.not_le] at g6_15
          have hll : r.w.l.length = r'.w.l.length := by have h : ((r.w.l.length : Nat) : Int) = r'.w.l.length := g6_15; omega
          refine WS_det hF (by rfl) (y_loadN (by rfl) Tryd.isAgg128 Tryd.sizeOf128 (Mem.own (us := [.slice _ _ _, .slice _ _ _, .int .i64 _, .slice _ _ _, .int .i64 _]) 0 (by rfl) (by rfl)) (by rfl)) ?_
          refine WS_det hF (by rfl) (y_loadN (by rfl) Tryd.isAgg128 Tryd.sizeOf128 (Mem.own (us := [.slice _ _ _, .slice _ _ _, .int .i64 _, .slice _ _ _, .int .i64 _]) 1 (by rfl) (by rfl)) (by rfl)) ?_
          refine WS_det hF (by rfl) (y_callL (by rfl) (by rfl) Tryd.call107 (fun w hw => rbetter_any r.w r'.w r.l r.kl r'.l r'.kl w (by have h : ((r.w.l.length : Nat) : Int) = r'.w.l.length := g6_15; omega) (by simp only at hbl; omega) _ _ _ _ _ _ _ _ _ _ _ _ _ _ (hrd'.p.st w hw) (hrd2.p.st w hw))) ?_
          refine WS_det hF (by rfl) (by first | exact y_pick_t (c := .bool _) (by rfl) (by rfl) | exact y_pick_f (c := .bool _) (by rfl) (by rfl)) ?_
          refine WS_det hF (by rfl) (by first | exact y_pick_t (c := .bool _) (by rfl) (by rfl) | exact y_pick_f (c := .bool _) (by rfl) (by rfl)) ?_
          refine WS_det hF (by rfl) (by first | exact y_pick_t (c := .bool _) (by rfl) (by rfl) | exact y_pick_f (c := .bool _) (by rfl) (by rfl)) ?_
          refine WS_nil ?_
          refine Then_normal ?_
          refine W_cond (by rfl) (fun c6 => ?_) (fun c6 => ?_)
          ·
            try simp only [Bool.not_eq_true', Bool.not_eq_false', decide_eq_true_eq, decide_eq_false_iff_not, ne_eq, Classical.not_not, Int.not_lt, Int.not_le] at c6
            have hlt : r.w.lt r'.w = true := by rw [← wbetB_lt hll]; exact c6
            refine W_region_lit (fun ds => ?_)
            refine WS_det hF (by rfl) (y_loadN (by rfl) Tryd.isAgg128 Tryd.sizeOf128 (Mem.own (us := [.slice _ _ _, .slice _ _ _, .int .i64 _, .slice _ _ _, .int .i64 _]) 0 (by rfl) (by rfl)) (by rfl)) ?_
            refine WS_store hF (i := 1) (by rfl) (by rfl) Tryd.sizeOf128 (by rfl) (by rfl) (by rfl) (by first | decide | exact Nat.le_of_ble_eq_true rfl | simp) ?_
            refine WS_det hF (by rfl) (y_assign (c := .bool _) (by rfl)) ?_
            refine WS_nil ?_
            refine InB_normal ?_
            refine Then_normal ?_
            refine W_region_lit (fun ds => ?_)
            refine WS_det hF (by rfl) (y_add (by rfl) (by rfl) (by unfold I64; omega)) ?_
            refine WS_det hF (by rfl) (y_move (c := .int .i64 _) (by rfl)) ?_
            refine WS_nil ?_
            exact Loop_next (k + 1, true, k, r.rv c) ⟨by omega, hK.take hiz hz hp hlt, fun _ => ⟨r, hrk, rfl⟩⟩ (by repeat (first | exact trivial | refine ⟨by rfl, ?_⟩)) sbA (by simp only; omega)
          ·
            try simp only [Bool.not_eq_true', Bool.not_eq_false', decide_eq_true_eq, decide_eq_false_iff_not, ne_eq, Classical.not_not, Int.not_lt, Int.not_le] at c6
            have hlt : r.w.lt r'.w = false := by rw [← wbetB_lt hll]; exact c6
            refine W_skip ?_
            refine InB_normal ?_
            refine Then_normal ?_
            refine W_region_lit (fun ds => ?_)
            refine WS_det hF (by rfl) (y_add (by rfl) (by rfl) (by unfold I64; omega)) ?_
            refine WS_det hF (by rfl) (y_move (c := .int .i64 _) (by rfl)) ?_
            refine WS_nil ?_
            exact Loop_next (k + 1, true, i, r'.rv c) ⟨by omega, hK.keep hiz hz hlt, fun _ => ⟨r', hri, rfl⟩⟩ (by repeat (first | exact trivial | refine ⟨by rfl, ?_⟩)) sbA (by simp only; omega)
        ·
          try simp only [Bool.not_eq_true', Bool.not_eq_false', decide_eq_true_eq, decide_eq_false_iff_not, ne_eq, Classical.not_not, Int.not_lt, Int.not_le] at g6_15
          have hlt : r.w.lt r'.w = false := Wy.ge_lt hmon (fun h => by have h1 := h.1; have : ((r.w.l.length : Nat) : Int) = r'.w.l.length := (by omega); exact absurd this g6_15)
          refine WS_no hF (by rfl) ?_
          refine WS_no hF (by rfl) ?_
          refine WS_no hF (by rfl) ?_
          refine WS_det hF (by rfl) (by first | exact y_pick_t (c := .bool _) (by rfl) (by rfl) | exact y_pick_f (c := .bool _) (by rfl) (by rfl)) ?_
          refine WS_det hF (by rfl) (by first | exact y_pick_t (c := .bool _) (by rfl) (by rfl) | exact y_pick_f (c := .bool _) (by rfl) (by rfl)) ?_
          refine WS_det hF (by rfl) (by first | exact y_pick_t (c := .bool _) (by rfl) (by rfl) | exact y_pick_f (c := .bool _) (by rfl) (by rfl)) ?_
          refine WS_nil ?_
          refine Then_normal ?_
          refine W_cond (by rfl) (fun c6 => ?_) (fun c6 => ?_)
          · cases c6
          ·
            try simp only [Bool.not_eq_true', Bool.not_eq_false', decide_eq_true_eq, decide_eq_false_iff_not, ne_eq, Classical.not_not, Int.not_lt, Int.not_le] at c6
            refine W_skip ?_
            refine InB_normal ?_
            refine Then_normal ?_
            refine W_region_lit (fun ds => ?_)
            refine WS_det hF (by rfl) (y_add (by rfl) (by rfl) (by unfold I64; omega)) ?_
            refine WS_det hF (by rfl) (y_move (c := .int .i64 _) (by rfl)) ?_
            refine WS_nil ?_
            exact Loop_next (k + 1, true, i, r'.rv c) ⟨by omega, hK.keep hiz hz hlt, fun _ => ⟨r', hri, rfl⟩⟩ (by repeat (first | exact trivial | refine ⟨by rfl, ?_⟩)) sbA (by simp only; omega)
    ·
      try simp only [Bool.not_eq_true', Bool.not_eq_false', decide_eq_true_eq, decide_eq_false_iff_not, ne_eq, Classical.not_not, Int.not_lt, Int.not_le] at g6_4
      have hp : am.p c r.x = false := g6_4
      refine WS_no hF (by rfl) ?_
      refine WS_no hF (by rfl) ?_
      refine WS_no hF (by rfl) ?_
      refine WS_no hF (by rfl) ?_
      refine WS_no hF (by rfl) ?_
      refine WS_no hF (by rfl) ?_
      refine WS_no hF (by rfl) ?_
      refine WS_no hF (by rfl) ?_
      refine WS_no hF (by rfl) ?_
      refine WS_no hF (by rfl) ?_
      refine WS_no hF (by rfl) ?_
      refine WS_no hF (by rfl) ?_
      refine WS_no hF (by rfl) ?_
      refine WS_no hF (by rfl) ?_
      refine WS_no hF (by rfl) ?_
      refine WS_no hF (by rfl) ?_
      refine WS_det hF (by rfl) (by first | exact y_pick_t (c := .bool _) (by rfl) (by rfl) | exact y_pick_f (c := .bool _) (by rfl) (by rfl)) ?_
      refine WS_nil ?_
      refine Then_normal ?_
      refine W_cond (by rfl) (fun c6 => ?_) (fun c6 => ?_)
      · cases c6
      ·
        try simp only [Bool.not_eq_true', Bool.not_eq_false', decide_eq_true_eq, decide_eq_false_iff_not, ne_eq, Classical.not_not, Int.not_lt, Int.not_le] at c6
        refine W_skip ?_
        refine InB_normal ?_
        refine Then_normal ?_
        refine W_region_lit (fun ds => ?_)
        refine WS_det hF (by rfl) (y_add (by rfl) (by rfl) (by unfold I64; omega)) ?_
        refine WS_det hF (by rfl) (y_move (c := .int .i64 _) (by rfl)) ?_
        refine WS_nil ?_
        exact Loop_next (k + 1, b, i, q) ⟨by omega, hK.skip hz hp, hq⟩ (by repeat (first | exact trivial | refine ⟨by rfl, ?_⟩)) sbA (by simp only; omega)
  ·
    try simp only [Bool.not_eq_true', Bool.not_eq_false', decide_eq_true_eq, decide_eq_false_iff_not, ne_eq, Classical.not_not, Int.not_lt, Int.not_le] at c4
    refine W_exit ?_
    refine Then_exit ?_
    refine Loop_exit ?_
    refine InB_same ?_
    refine Then_normal ?_
    refine W_seq ?_
    refine W_region_lit (fun ds => ?_)
    refine WS_det hF (by rfl) (y_loadN (by rfl) Tryd.isAgg128 Tryd.sizeOf128 (Mem.own (us := [.slice _ _ _, .slice _ _ _, .int .i64 _, .slice _ _ _, .int .i64 _]) 0 (by rfl) (by rfl)) (by rfl)) ?_
    refine WS_det hF (by rfl) (y_move (c := .bool _) (by rfl)) ?_
    refine WS_store hF (i := 1) (by rfl) (by rfl) Tryd.sizeOf128 (by rfl) (by rfl) (by rfl) (by first | decide | exact Nat.le_of_ble_eq_true rfl | simp) ?_
    refine WS_det hF (by rfl) (y_assign (c := .bool _) (by rfl)) ?_
    refine WS_nil ?_
    refine Then_normal ?_
    refine W_ret ?_
    refine Fin_ret [_, .bool _] [] Tryd.results66 ⟨lvN (by rfl) Tryd.isAgg128 Tryd.sizeOf128 (Mem.own (us := [.slice _ _ _, .slice _ _ _, .int .i64 _, .slice _ _ _, .int .i64 _]) 1 (by rfl) (by rfl)) (by rfl), by rfl, trivial⟩ HSub.nil ?_
    have hkn : k = rs.length := by omega
    subst hkn
    rw [show rs.length = (rs.map Rl.zz).length by rw [List.length_map]] at hK
    refine ⟨b, q, rfl, fun hb => ?_, fun hb => ?_⟩
    · subst hb
      obtain ⟨r, hri, rfl⟩ := hq rfl
      exact ⟨r, List.mem_of_getElem? hri, rfl, hK.end_yes hR (zz_at hri)⟩
    · subst hb
      exact hK.end_no hR
theorem few_congr {c : Cn} {p p' : Co → Bool} (h : ∀ x, p x = p' x) : c.few p = c.few p' := by rw [show p = p' from funext h]
end Go.Proofs.YtjekjehgmljbgaaDoor.T

/- Lists in order, without those that follow an equal one; the amounts that can be made; pure. -/
namespace Go.Proofs.YtjekjehgmljbgaaDoor.T
open Go.RowKit Go.Proofs Go.Eng
set_option linter.unusedVariables false

theorem sl_ext : ∀ {l m : List Int}, l.Pairwise (· < ·) → m.Pairwise (· < ·) → (∀ x, x ∈ l ↔ x ∈ m) → l = m
  | [], [], _, _, _ => rfl
  | [], y :: m, _, _, h => by have := (h y).2 List.mem_cons_self; cases this
  | x :: l, [], _, _, h => by have := (h x).1 List.mem_cons_self; cases this
  | x :: l, y :: m, h1, h2, h => by
    rw [List.pairwise_cons] at h1 h2
    have hxy : x = y := by
      rcases List.mem_cons.1 ((h x).1 List.mem_cons_self) with e | e
      · exact e
      · rcases List.mem_cons.1 ((h y).2 List.mem_cons_self) with e' | e'
        · exact e'.symm
        · have := h2.1 x e; have := h1.1 y e'; omega
    subst hxy
    rw [sl_ext h1.2 h2.2 fun z => ?_]
    have hz := h z
    simp only [List.mem_cons] at hz
    constructor
    · intro hm
      rcases hz.1 (.inr hm) with e | e
      · subst e; have := h1.1 _ hm; omega
      · exact e
    · intro hm
      rcases hz.2 (.inr hm) with e | e
      · subst e; have := h2.1 _ hm; omega
      · exact e
def sortL (xs : List Int) : List Int := xs.mergeSort fun x y => decide (x ≤ y)
theorem sortL_len (xs : List Int) : (sortL xs).length = xs.length := List.length_mergeSort _
theorem sortL_mem {xs : List Int} {x : Int} : x ∈ sortL xs ↔ x ∈ xs := (List.mergeSort_perm xs _).mem_iff
theorem sortL_le (xs : List Int) : (sortL xs).Pairwise (· ≤ ·) := by
  have h := List.pairwise_mergeSort (le := fun x y : Int => decide (x ≤ y)) (fun a b c h1 h2 => by simp only [decide_eq_true_eq] at *; omega) (fun a b => by simp only [Bool.or_eq_true, decide_eq_true_eq]; omega) xs
  exact h.imp fun h => by simpa using h
theorem le_get {zs : List Int} (h : zs.Pairwise (· ≤ ·)) {i j : Nat} (hij : i ≤ j) (hj : j < zs.length) : zs.toArray[i]! ≤ zs.toArray[j]! := by
  have hi : i < zs.length := by omega
  simp only [hi, hj, getElem!_pos, List.size_toArray, List.getElem_toArray]
  by_cases he : i = j
  · subst he; exact Int.le_refl _
  · exact List.pairwise_iff_getElem.1 h i j hi hj (by omega)
theorem compact_lt {zs : List Int} (h : zs.Pairwise (· ≤ ·)) : (Lib.compact zs).Pairwise (· < ·) := by
  unfold Lib.compact Lib.compactUpTo
  rw [List.pairwise_map]
  refine (List.Pairwise.filter _ List.pairwise_lt_range).imp_of_mem fun {i j} hi hj hij => ?_
  obtain ⟨hir, hik⟩ := List.mem_filter.1 hi
  obtain ⟨hjr, hjk⟩ := List.mem_filter.1 hj
  rw [List.mem_range] at hir hjr
  unfold Lib.keeps at hjk
  rw [decide_eq_true_eq] at hjk
  have h1 := le_get h (i := i) (j := j - 1) (by omega) (by omega)
  have h2 := le_get h (i := j - 1) (j := j) (by omega) hjr
  rcases hjk with h0 | hne
  · omega
  · omega
theorem compact_mem {zs : List Int} {x : Int} : x ∈ Lib.compact zs ↔ x ∈ zs := by
  unfold Lib.compact Lib.compactUpTo
  constructor
  · intro h
    obtain ⟨j, hj, rfl⟩ := List.mem_map.1 h
    have hjr := List.mem_range.1 (List.mem_filter.1 hj).1
    simp only [hjr, getElem!_pos, List.size_toArray, List.getElem_toArray]
    exact List.getElem_mem _
  · intro h
    obtain ⟨j, hj, rfl⟩ := List.getElem_of_mem h
    have key : ∀ (n j : Nat), j ≤ n → ∀ (hj : j < zs.length), zs[j] ∈ ((List.range zs.length).filter (Lib.keeps zs.toArray)).map (zs.toArray[·]!) := by
      intro n
      induction n with
      | zero =>
        intro j hjn hj
        obtain rfl : j = 0 := by omega
        refine List.mem_map.2 ⟨0, List.mem_filter.2 ⟨List.mem_range.2 hj, by unfold Lib.keeps; simp⟩, by simp [hj]⟩
      | succ n ih =>
        intro j hjn hj
        by_cases h0 : j = 0
        · exact ih j (by omega) hj
        · by_cases he : zs.toArray[j]! = zs.toArray[j - 1]!
          · have h1 := ih (j - 1) (by omega) (by omega)
            have h2 : zs[j] = zs[j - 1] := by
              have hj1 : j - 1 < zs.length := by omega
              simpa [hj, hj1] using he
            rw [h2]; exact h1
          · exact List.mem_map.2 ⟨j, List.mem_filter.2 ⟨List.mem_range.2 hj, by unfold Lib.keeps; exact decide_eq_true (.inr he)⟩, by simp [hj]⟩
    exact key j j (Nat.le_refl _) hj
/-- The amounts that can be made. -/
def Cn.mkP (c : Cn) (n : Int) : Prop := ∃ w y, c.Best w y ∧ n ∈ (c.of y).inn
open Classical in
noncomputable def Cn.madeL (c : Cn) : List Int := ((List.range 21).map fun (k : Nat) => (k : Int)).filter fun n => decide (c.mkP n)
theorem Cn.mkP_bd {c : Cn} (hok : c.Ok) {n : Int} (h : c.mkP n) : 0 ≤ n ∧ n ≤ 20 := by
  obtain ⟨w, y, hb, hm⟩ := h
  have hin := (hb.way.in hok).1
  have hoky := hok.of hin
  obtain ⟨k, hk, rfl⟩ := List.getElem_of_mem hm
  have h1 := hoky.i k (by rw [← hoky.len]; exact hk)
  have h2 := hoky.s k (by rw [← hoky.len]; exact hk)
  unfold Cn.i at h1
  rw [List.getD_eq_getElem?_getD, List.getElem?_eq_getElem hk] at h1
  simp only [Option.getD_some] at h1
  omega
theorem Cn.madeL_lt (c : Cn) : c.madeL.Pairwise (· < ·) := by
  unfold Cn.madeL
  refine List.Pairwise.filter _ ?_
  rw [List.pairwise_map]
  exact List.pairwise_lt_range.imp fun h => by omega
theorem Cn.madeL_mem {c : Cn} (hok : c.Ok) {n : Int} : n ∈ c.madeL ↔ c.mkP n := by
  unfold Cn.madeL
  simp only [List.mem_filter, decide_eq_true_eq]
  constructor
  · exact fun h => h.2
  · intro h
    obtain ⟨h0, h1⟩ := Cn.mkP_bd hok h
    exact ⟨List.mem_map.2 ⟨n.toNat, List.mem_range.2 (by omega), by omega⟩, h⟩
theorem Cn.madeL_len (c : Cn) : c.madeL.length ≤ 21 := by
  unfold Cn.madeL
  refine Nat.le_trans (List.length_filter_le _ _) ?_
  simp
/-- The amounts of the entries that were seen. -/
structure MdI (c : Cn) (l : List (EntK Co)) (seen : Array Nat) (L : List Int) : Prop where
  snd : ∀ n ∈ L, ∃ e ∈ l, n ∈ (c.of e.1).inn
  cmp : ∀ e ∈ l, e.2.2 ∈ seen → ∀ n ∈ (c.of e.1).inn, n ∈ L
  len : L.length + 3 * leftL l seen ≤ 3 * l.length
theorem MdI.nil (c : Cn) (l : List (EntK Co)) : MdI c l #[] [] := ⟨fun n h => (by cases h), fun e _ h => (by simp at h), (by rw [List.length_nil, Nat.zero_add]; exact Nat.mul_le_mul_left 3 (List.length_filter_le _ _))⟩
theorem MdI.step {c : Cn} (hok : c.Ok) {l : List (EntK Co)} {seen : Array Nat} {L : List Int} (h : MdI c l seen L) {k : Co} {v : Value} {bn : Nat} (hy : (k, v, bn) ∈ l) (hb : (l.map (·.2.2)).Nodup) (hns : bn ∉ seen) (hin : c.In k) : MdI c l (seen.push bn) (L ++ (c.of k).inn) := by
  have hlt := leftL_lt (l := l) (seen := seen) (y := (k, v, bn)) hy hns
  have h3 := hok.n3
  have hk := (hok.of hin).len
  refine ⟨fun n hn => ?_, fun e he hs n hn => ?_, ?_⟩
  · rcases List.mem_append.1 hn with hn | hn
    · exact h.snd n hn
    · exact ⟨_, hy, hn⟩
  · rcases Array.mem_push.1 hs with hs | hs
    · exact List.mem_append_left _ (h.cmp e he hs n hn)
    · have : ∀ {l : List (EntK Co)}, (l.map (·.2.2)).Nodup → e ∈ l → (k, v, bn) ∈ l → e = (k, v, bn) := by
        intro l
        induction l with
        | nil => intro _ h; cases h
        | cons z l ih =>
          intro hn a1 a2
          rw [List.map_cons, List.nodup_cons] at hn
          rcases List.mem_cons.1 a1 with e1 | e1
          · rcases List.mem_cons.1 a2 with e2 | e2
            · rw [e1, e2]
            · exact absurd (List.mem_map.2 ⟨_, e2, by rw [← e1]; exact hs.symm⟩) hn.1
          · rcases List.mem_cons.1 a2 with e2 | e2
            · exact absurd (List.mem_map.2 ⟨_, e1, by rw [← e2]; exact hs⟩) hn.1
            · exact ih hn.2 e1 e2
      have he := this hb he hy
      subst he
      exact List.mem_append_right _ hn
  · have h1 := h.len
    rw [List.length_append]
    change leftL l (seen.push bn) < leftL l seen at hlt
    have h4 : (c.of k).inn.length ≤ 3 := by rw [hk]; exact h3
    omega
theorem MdI.made {c : Cn} (hok : c.Ok) {l : List (EntK Co)} {ck : Nat} {HX : List Blk} {seen : Array Nat} {L : List Int} (h : MdI c l seen L) (hg : GoodM l ck) (hT : Tab HX l c.bestO) (hov : ∀ x ∈ l, x.2.2 ∈ seen) : Lib.compact (sortL L) = c.madeL := by
  refine sl_ext (compact_lt (sortL_le L)) c.madeL_lt fun n => ?_
  rw [compact_mem, sortL_mem, Cn.madeL_mem hok]
  constructor
  · intro hn
    obtain ⟨e, he, hne⟩ := h.snd n hn
    obtain ⟨x, _, h2, _⟩ := hT.mem hg he
    exact ⟨_, _, Cn.bestO_iff.1 h2, hne⟩
  · rintro ⟨w, y, hb, hm⟩
    obtain ⟨e, he, rfl⟩ := hT.has (Cn.bestO_iff.2 hb)
    exact h.cmp e he (hov e he) n hm
theorem Cn.made_ne {c : Cn} (hok : c.Ok) : ∃ n, c.mkP n := by
  have hb : c.Best ⟨[], 0⟩ c.co := (Cn.lv_zero.2 ⟨rfl, rfl⟩).1
  have hl := hok.len
  have h1 := hok.n1
  refine ⟨(c.of c.co).inn.getD 0 0, _, _, hb, ?_⟩
  rw [hok.co_of]
  rw [List.getD_eq_getElem?_getD, List.getElem?_eq_getElem (show 0 < c.inn.length by omega)]
  exact List.getElem_mem _
end Go.Proofs.YtjekjehgmljbgaaDoor.T

/- The amounts that can be made: the reference's walk. -/
namespace Go.Proofs.YtjekjehgmljbgaaDoor.T
open Go.RowKit Go.Proofs Go.Eng
set_option maxRecDepth 100000
set_option maxHeartbeats 1000000
set_option linter.unusedVariables false
set_option linter.unusedSimpArgs false



theorem WS_world {C : Ctx} {F : Fence} {n : Nat} {ds : List Deferred} {all : Array Oper} {Q : Exit → Env → List Blk → Prop} {rest : List Oper} {e : Env} {H : List Blk} (h : ∀ w, St C H w → WS C F n ds all Q rest e H) : WS C F n ds all Q rest e H := fun w hw a ha => h w hw w hw a ha
theorem Mem_of_ints {C : Ctx} {H : List Blk} {a : Option Addr} {n cap b o k : Nat} {xs : List Int} (h : ∀ w, St C H w → Ints w a n cap xs) (ha : a = some ⟨b, o, none⟩) (hk : k < n) : Mem C H b (o + k * 1) [.int .i64 (xs.getD k 0)] := fun w hw => by
  subst ha
  exact (h w hw).at hk
def bE (b : Bool) : List Value := [.bool b]
theorem bE_len : ∀ x, (bE x).length = 1 := fun _ => rfl
def bRow (F : Nat → Bool) : List Value := rowOf bE F 21
def setF (F : Nat → Bool) (n : Nat) : Nat → Bool := fun k => if k = n then true else F k
theorem bRow_set {F : Nat → Bool} {n : Nat} (h : n < 21) : splice (bRow F) (0 + n * 1) [.bool true] = bRow (setF F n) := by
  rw [Nat.zero_add]
  exact rowOf_splice bE_len (g := setF F n) h (by simp [bE, setF]) fun j _ hj => by simp [setF, hj]
/-- The flags after some entries. -/
def FlI (c : Cn) (rs : List Rl) (k : Nat) (F : Nat → Bool) : Prop := ∀ n, n < 21 → (F n = true ↔ ∃ j r, j < k ∧ rs[j]? = some r ∧ (n : Int) ∈ (c.of r.x).inn)
def FlJ (F0 : Nat → Bool) (xs : List Int) (i : Nat) (F : Nat → Bool) : Prop := ∀ n, n < 21 → (F n = true ↔ F0 n = true ∨ ∃ t, t < i ∧ xs.getD t 0 = (n : Int))
theorem FlJ.zero (F0 : Nat → Bool) (xs : List Int) : FlJ F0 xs 0 F0 := fun n _ => ⟨.inl, fun h => h.elim id fun ⟨t, h, _⟩ => absurd h (Nat.not_lt_zero _)⟩
theorem FlJ.step {F0 F : Nat → Bool} {xs : List Int} {i z : Nat} (h : FlJ F0 xs i F) (hz : xs.getD i 0 = (z : Int)) : FlJ F0 xs (i + 1) (setF F z) := fun n hn => by
  unfold setF
  by_cases he : n = z
  · subst he
    simp only [if_pos, true_iff]
    exact .inr ⟨i, Nat.lt_succ_self _, hz⟩
  · rw [if_neg he, h n hn]
    constructor
    · rintro (h1 | ⟨t, h1, h2⟩)
      · exact .inl h1
      · exact .inr ⟨t, by omega, h2⟩
    · rintro (h1 | ⟨t, h1, h2⟩)
      · exact .inl h1
      · by_cases ht : t = i
        · subst ht; rw [hz] at h2; exact absurd (by omega) he
        · exact .inr ⟨t, by omega, h2⟩
theorem FlI.step {c : Cn} {rs : List Rl} {k : Nat} {r : Rl} {F F2 : Nat → Bool} (h : FlI c rs k F) (hr : rs[k]? = some r) (h2 : FlJ F (c.of r.x).inn (c.of r.x).inn.length F2) : FlI c rs (k + 1) F2 := fun n hn => by
  rw [h2 n hn, h n hn]
  constructor
  · rintro (⟨j, r', h1, h3, h4⟩ | ⟨t, h1, h3⟩)
    · exact ⟨j, r', by omega, h3, h4⟩
    · refine ⟨k, r, Nat.lt_succ_self _, hr, ?_⟩
      rw [← h3, List.getD_eq_getElem?_getD, List.getElem?_eq_getElem h1]
      exact List.getElem_mem _
  · rintro ⟨j, r', h1, h3, h4⟩
    by_cases hj : j = k
    · subst hj
      rw [hr] at h3
      cases h3
      obtain ⟨t, ht, he⟩ := List.getElem_of_mem h4
      exact .inr ⟨t, ht, by rw [List.getD_eq_getElem?_getD, List.getElem?_eq_getElem ht]; exact he⟩
    · exact .inl ⟨j, r', by omega, h3, h4⟩
theorem FlI.made {c : Cn} {rs : List Rl} {F : Nat → Bool} (h : FlI c rs rs.length F) (hR : c.Rcd (rs.map Rl.zz)) {n : Nat} (hn : n < 21) : F n = true ↔ c.mkP (n : Int) := by
  rw [h n hn]
  constructor
  · rintro ⟨j, r, _, h2, h3⟩
    exact ⟨r.w, r.x, hR.best _ (List.mem_of_getElem? (zz_at h2)), h3⟩
  · rintro ⟨w, y, hb, hm⟩
    obtain ⟨j, hj⟩ := List.getElem?_of_mem (hR.all y w hb)
    obtain ⟨r, hr, hx, _⟩ := zz_of hj
    simp only at hx
    exact ⟨j, r, (List.getElem?_eq_some_iff.1 hr).1, hr, by rw [hx]; exact hm⟩
open Classical in
noncomputable def Cn.madeK (c : Cn) (n : Nat) : List Int := ((List.range n).map fun (k : Nat) => (k : Int)).filter fun n => decide (c.mkP n)
theorem Cn.madeK_yes {c : Cn} {n : Nat} (h : c.mkP (n : Int)) : c.madeK (n + 1) = c.madeK n ++ [(n : Int)] := by
  unfold Cn.madeK
  rw [List.range_succ, List.map_append, List.filter_append]
  simp [h]
theorem Cn.madeK_no {c : Cn} {n : Nat} (h : ¬ c.mkP (n : Int)) : c.madeK (n + 1) = c.madeK n := by
  unfold Cn.madeK
  rw [List.range_succ, List.map_append, List.filter_append]
  simp [h]
theorem Cn.madeK_len (c : Cn) (n : Nat) : (c.madeK n).length ≤ n := by
  unfold Cn.madeK
  refine Nat.le_trans (List.length_filter_le _ _) ?_
  simp
noncomputable def Cn.mdL (c : Cn) : List Int := if c.okB then c.madeL else []
/-- A list of amounts in new memory, and the error. -/
def MadeV (c : Cn) (v : Value) (Hn : List Blk) : Prop := ∃ a cap, v = .tuple #[.slice a c.mdL.length cap, .int .i64 c.err] ∧ NewRow 3 1 c.mdL.length (iv c.mdL) (.slice a c.mdL.length cap) Hn
theorem MadeV.bad {c : Cn} (h : c.okB = false) : MadeV c (.tuple #[.slice none 0 0, .int .i64 80]) [] := by
  have h1 : c.mdL = [] := by unfold Cn.mdL; rw [h]; rfl
  have h2 : c.err = 80 := by unfold Cn.err; rw [h]; rfl
  unfold MadeV
  rw [h1, h2]
  exact ⟨none, 0, rfl, none, 0, rfl, Nat.le_refl _, .inr ⟨rfl, rfl, rfl⟩⟩
theorem MadeV.ok {c : Cn} {a : Option Addr} {cap : Nat} {Hn : List Blk} (h : c.okB = true) (hr : NewRow 3 1 c.madeL.length (iv c.madeL) (.slice a c.madeL.length cap) Hn) : MadeV c (.tuple #[.slice a c.madeL.length cap, .int .i64 0]) Hn := by
  have h1 : c.mdL = c.madeL := by unfold Cn.mdL; rw [h]; rfl
  have h2 : c.err = 0 := by unfold Cn.err; rw [h]; rfl
  unfold MadeV
  rw [h1, h2]
  exact ⟨a, cap, rfl, hr⟩
theorem rmade_any (c : Cn) (a1 : Option Addr) (p1 : Nat) (a2 : Option Addr) (p2 : Nat) (w : World) (hn : c.n ≤ 1000000) (hm : c.inn.length ≤ 1000000) (h1 : Ints w a1 c.n p1 c.sz) (h2 : Ints w a2 c.inn.length p2 c.inn) : Ct Tryd.prog 43 #[.agg #[.slice a1 c.n p1, .slice a2 c.inn.length p2, .int .i64 c.st]] w (MadeV c) := by
  have hF := wide_wide
  refine Ct_start (args := [_]) Tryd.func43 (by rfl) Tryd.ntmps43 (by rfl) ?_
  refine W_seq ?_
  refine W_region_lit (fun ds => ?_)
  refine WS_new hF (by rfl) (y_box (by rfl)) (fun b1 => ?_)
  refine WS_det hF (by rfl) (y_assign (c := .slice _ _ _) (by rfl)) ?_
  refine WS_det hF (by rfl) (y_assign (c := .int .i64 _) (by rfl)) ?_
  refine WS_nil ?_
  refine Then_normal ?_
  refine W_seq ?_
  refine W_seq ?_
  refine W_region_lit (fun ds => ?_)
  refine WS_det hF (by rfl) (y_loadN (by rfl) Tryd.isAgg24 Tryd.sizeOf24 (Mem.own (us := [.slice _ _ _, .slice _ _ _, .int .i64 _]) 0 (by rfl) (by rfl)) (by rfl)) ?_
  refine WS_det hF (by rfl) (y_callL (by rfl) (by rfl) Tryd.call52 (fun w hw => rcans_any c a1 p1 a2 p2 w hn hm (h1.st w hw) (h2.st w hw))) ?_
  refine WS_det hF (by rfl) (y_not (by rfl)) ?_
  refine WS_nil ?_
  refine Then_normal ?_
  refine W_cond (by rfl) (fun c1 => ?_) (fun c1 => ?_)
  ·
    try simp only [Bool.not_eq_true', Bool.not_eq_false', decide_eq_true_eq, decide_eq_false_iff_not, ne_eq, Classical.not_not, Int.not_lt, Int.not_le] at c1
    refine W_seq ?_
    refine W_region_lit (fun ds => ?_)
    refine WS_det hF (by rfl) (y_assign (c := .slice _ _ _) (by rfl)) ?_
    refine WS_det hF (by rfl) (y_assign (c := .int .i64 _) (by rfl)) ?_
    refine WS_nil ?_
    refine Then_normal ?_
    refine W_ret ?_
    refine Then_ret ?_
    refine Fin_ret [.slice _ _ _, .int .i64 _] [] Tryd.results43 ⟨by rfl, by rfl, trivial⟩ HSub.nil ?_
    exact MadeV.bad c1
  ·
    try simp only [Bool.not_eq_true', Bool.not_eq_false', decide_eq_true_eq, decide_eq_false_iff_not, ne_eq, Classical.not_not, Int.not_lt, Int.not_le] at c1
    have hok := Cn.ok_iff.1 c1
    have hn3 := hok.n3
    refine W_skip ?_
    refine Then_normal ?_
    refine W_seq ?_
    refine W_region_lit (fun ds => ?_)
    refine WS_new hF (by rfl) (y_alloc Tryd.zeroValue158 (by rfl)) (fun b4 => ?_)
    refine WS_nil ?_
    refine Then_normal ?_
    refine W_seq ?_
    refine W_seq ?_
    refine W_region_lit (fun ds => ?_)
    refine WS_det hF (by rfl) (y_loadN (by rfl) Tryd.isAgg24 Tryd.sizeOf24 (Mem.own (us := [.slice _ _ _, .slice _ _ _, .int .i64 _]) 1 (by rfl) (by rfl)) (by rfl)) ?_
    refine WS_gen hF (by rfl) (y_callL (by rfl) (by rfl) Tryd.call67 (fun w hw => reached_any c a1 p1 a2 p2 w hok hn hm (h1.st w hw) (h2.st w hw))) ?_
    rintro _ _ ⟨rs, bo, cap, junk, HX, rfl, rfl, hrc, hrd, hcap⟩
    refine WS_back ?_
    refine WS_pull (b4, CB (bRow fun _ => false) 158) (by repeat (first | exact Pul.base0 | exact Pul.base | apply Pul.cons | apply Pul.app)) ?_
    refine WS_pull (bo, _) (by repeat (first | exact Pul.base0 | exact Pul.base | apply Pul.cons | apply Pul.app)) ?_
    have hlen := hrc.len
    rw [List.length_map] at hlen
    refine WS_det hF (by rfl) (y_len (by rfl) Tryd.runUnderlying131) ?_
    refine WS_det hF (by rfl) (y_move (c := .int .i64 _) (by rfl)) ?_
    refine WS_nil ?_
    refine Then_normal ?_
    refine W_block ?_
    refine W_loop (γ := Nat × (Nat → Bool)) (fun q => q.1 ≤ rs.length ∧ FlI c rs q.1 q.2) (fun q => [(4, .pointer (some ⟨b4, 0, none⟩)), (15, .slice (some ⟨bo, 0, none⟩) rs.length cap), (16, .int .i64 (rs.length : Int)), (17, .int .i64 (q.1 : Int))]) (fun q => (bo, CB (rRow c rs ++ junk) 128) :: (b4, CB (bRow q.2) 158) :: HX) (fun q => rs.length - q.1) ((0, fun _ => false)) ⟨Nat.zero_le _, fun n hn => ⟨fun h => (by cases h), fun ⟨j, _, h, _⟩ => absurd h (Nat.not_lt_zero _)⟩⟩ (by repeat (first | exact trivial | refine ⟨by rfl, ?_⟩)) (sbA) ?_
    rintro ⟨k, F⟩ e ⟨(hk : k ≤ rs.length), (hF0 : FlI c rs k F)⟩
    refine W_seq ?_
    refine W_region_lit (fun ds => ?_)
    refine WS_det hF (by rfl) (y_lss (by rfl) (by rfl)) ?_
    refine WS_nil ?_
    refine Then_normal ?_
    refine W_seq ?_
    refine W_cond (by rfl) (fun c5 => ?_) (fun c5 => ?_)
    ·
      try simp only [Bool.not_eq_true', Bool.not_eq_false', decide_eq_true_eq, decide_eq_false_iff_not, ne_eq, Classical.not_not, Int.not_lt, Int.not_le] at c5
      have hkl : k < rs.length := by omega
      obtain ⟨r, hrk⟩ : ∃ r, rs[k]? = some r := ⟨_, List.getElem?_eq_getElem hkl⟩
      have hz : (rs.map Rl.zz)[k]? = some (r.x, r.w) := zz_at hrk
      have hbr := hrc.best _ (List.mem_of_getElem? hz)
      have hin : c.In r.x := (hbr.way.in hok).1
      have hrd' := hrd r (List.mem_of_getElem? hrk)
      have hlx := (hok.of hin).len
      have hlx3 : (c.of r.x).inn.length ≤ 3 := by rw [hlx]; exact hn3
      refine W_skip ?_
      refine Then_normal ?_
      refine W_seq ?_
      refine W_block ?_
      refine W_seq ?_
      refine W_region_lit (fun ds => ?_)
      refine WS_det hF (by rfl) (y_index (k := k) (by rfl) (by rfl) (by first | rfl | omega) (by first | decide | omega) Tryd.runUnderlying131 Tryd.sizeOf128) ?_
      refine WS_det hF (by rfl) (y_loadN (by rfl) Tryd.isAgg128 Tryd.sizeOf128 (Mem.rl 0 0 (by rfl) hrk (us := [.slice _ _ _, .slice _ _ _, .int _ _, .slice _ _ _, .int _ _]) (by rfl) (by omega) (by omega)) (by rfl)) ?_
      refine WS_new hF (by rfl) (y_alloc Tryd.zeroValue128 (by rfl)) (fun b6 => ?_)
      refine WS_store hF (us := [.slice _ _ _, .slice _ _ _, .int .i64 _, .slice _ _ _, .int .i64 _]) (i := 0) (by rfl) (by rfl) Tryd.sizeOf128 (by rfl) (by rfl) (by rfl) (by first | decide | exact Nat.le_of_ble_eq_true rfl | simp) ?_
      refine WS_nil ?_
      refine Then_normal ?_
      refine W_seq ?_
      refine W_region_lit (fun ds => ?_)
      refine WS_det hF (by rfl) (y_fieldAddr (by rfl) fa128_0) ?_
      refine WS_det hF (by rfl) (y_fieldAddr (by rfl) fa24_1) ?_
      refine WS_det hF (by rfl) (y_load1 (by rfl) Tryd.isAgg22 (Mem.own1 0 (by rfl) (by rfl))) ?_
      refine WS_det hF (by rfl) (y_len (by rfl) Tryd.runUnderlying22) ?_
      refine WS_det hF (by rfl) (y_move (c := .int .i64 _) (by rfl)) ?_
      refine WS_nil ?_
      refine Then_normal ?_
      refine W_block ?_
      refine W_loop (γ := Nat × (Nat → Bool)) (fun q => q.1 ≤ (c.of r.x).inn.length ∧ FlJ F (c.of r.x).inn q.1 q.2) (fun q => [(4, .pointer (some ⟨b4, 0, none⟩)), (15, .slice (some ⟨bo, 0, none⟩) rs.length cap), (16, .int .i64 (rs.length : Int)), (17, .int .i64 (k : Int)), (23, .slice r.i (c.of r.x).inn.length r.ki), (24, .int .i64 ((c.of r.x).inn.length : Int)), (25, .int .i64 (q.1 : Int))]) (fun q => (bo, CB (rRow c rs ++ junk) 128) :: (b4, CB (bRow q.2) 158) :: HX) (fun q => (c.of r.x).inn.length - q.1) ((0, F)) ⟨Nat.zero_le _, FlJ.zero _ _⟩ (by repeat (first | exact trivial | refine ⟨by rfl, ?_⟩)) (sbA) ?_
      rintro ⟨i, F2⟩ e ⟨(hi : i ≤ (c.of r.x).inn.length), (hF2 : FlJ F (c.of r.x).inn i F2)⟩
      refine W_seq ?_
      refine W_region_lit (fun ds => ?_)
      refine WS_det hF (by rfl) (y_lss (by rfl) (by rfl)) ?_
      refine WS_nil ?_
      refine Then_normal ?_
      refine W_seq ?_
      refine W_cond (by rfl) (fun c8 => ?_) (fun c8 => ?_)
      ·
        try simp only [Bool.not_eq_true', Bool.not_eq_false', decide_eq_true_eq, decide_eq_false_iff_not, ne_eq, Classical.not_not, Int.not_lt, Int.not_le] at c8
        have hil : i < (c.of r.x).inn.length := by omega
        obtain ⟨hz0, hz20⟩ := Cn.of_bd hok hin i hil
        obtain ⟨z, hz2⟩ : ∃ z : Nat, (c.of r.x).inn.getD i 0 = (z : Int) := ⟨((c.of r.x).inn.getD i 0).toNat, by omega⟩
        have hz21 : z < 21 := by omega
        refine W_skip ?_
        refine Then_normal ?_
        refine W_seq ?_
        refine W_block ?_
        refine W_seq ?_
        refine W_region_lit (fun ds => ?_)
        refine WS_world (fun w hw => ?_)
        obtain ⟨bi, oi, hri, _⟩ := (hrd'.i _ _ w sbA hw).cell i hil
        refine WS_det hF (by rfl) (y_index (b := bi) (o := oi) (k := i) ((show ev _ _ = Value.slice r.i (c.of r.x).inn.length r.ki by rfl).trans (by rw [hri])) (by rfl) (by rfl) hil Tryd.runUnderlying22 Tryd.sizeOf3) ?_
        refine WS_det hF (by rfl) (y_load1 (v := .int .i64 (z : Int)) (by rfl) Tryd.isAgg3 (by rw [← hz2]; exact Mem_of_ints (fun w hw => hrd'.i _ _ w sbA hw) hri hil)) ?_
        refine WS_det hF (by rfl) (y_assign (c := .int .i64 _) (by rfl)) ?_
        refine WS_nil ?_
        refine Then_normal ?_
        refine W_region_lit (fun ds => ?_)
        refine WS_det hF (by rfl) (y_move (c := .int .i64 _) (by rfl)) ?_
        refine WS_det hF (by rfl) (y_indexA (k := z) (by rfl) (by rfl) (by first | rfl | omega) (by first | decide | omega) Tryd.runUnderlying158 Tryd.sizeOf4) ?_
        refine WS_store hF (us := [.bool _]) (i := 1) (by rfl) (by rfl) Tryd.sizeOf4 (by rfl) (by rfl) (by rfl) (show 0 + z * 1 + 1 ≤ (bRow F2).length by rw [show (bRow F2).length = 21 * 1 from rowOf_len bE_len _ _]; omega) ?_
        refine WS_nil ?_
        refine InB_normal ?_
        refine Then_normal ?_
        rw [bRow_set hz21]
        refine W_region_lit (fun ds => ?_)
        refine WS_det hF (by rfl) (y_add (by rfl) (by rfl) (by unfold I64; omega)) ?_
        refine WS_det hF (by rfl) (y_move (c := .int .i64 _) (by rfl)) ?_
        refine WS_nil ?_
        exact Loop_next (i + 1, setF F2 z) ⟨by omega, hF2.step hz2⟩ (by repeat (first | exact trivial | refine ⟨by rfl, ?_⟩)) sbA (by simp only; omega)
      ·
        try simp only [Bool.not_eq_true', Bool.not_eq_false', decide_eq_true_eq, decide_eq_false_iff_not, ne_eq, Classical.not_not, Int.not_lt, Int.not_le] at c8
        have hF9 : FlJ F (c.of r.x).inn (c.of r.x).inn.length F2 := by
          have : i = (c.of r.x).inn.length := by omega
          rw [this] at hF2; exact hF2
        refine W_exit ?_
        refine Then_exit ?_
        refine Loop_exit ?_
        refine InB_same ?_
        refine InB_normal ?_
        refine Then_normal ?_
        refine W_region_lit (fun ds => ?_)
        refine WS_det hF (by rfl) (y_add (by rfl) (by rfl) (by unfold I64; omega)) ?_
        refine WS_det hF (by rfl) (y_move (c := .int .i64 _) (by rfl)) ?_
        refine WS_nil ?_
        exact Loop_next (k + 1, F2) ⟨by omega, hF0.step hrk hF9⟩ (by repeat (first | exact trivial | refine ⟨by rfl, ?_⟩)) sbA (by simp only; omega)
    ·
      try simp only [Bool.not_eq_true', Bool.not_eq_false', decide_eq_true_eq, decide_eq_false_iff_not, ne_eq, Classical.not_not, Int.not_lt, Int.not_le] at c5
      have hFm : ∀ {n : Nat}, n < 21 → (F n = true ↔ c.mkP (n : Int)) := fun hn => FlI.made (by have : k = rs.length := (by omega); rw [← this]; exact hF0) hrc hn
      refine W_exit ?_
      refine Then_exit ?_
      refine Loop_exit ?_
      refine InB_same ?_
      refine Then_normal ?_
      refine W_seq ?_
      refine W_region_lit (fun ds => ?_)
      refine WS_det hF (by rfl) (y_assign (c := .slice _ _ _) (by rfl)) ?_
      refine WS_nil ?_
      refine Then_normal ?_
      refine W_seq ?_
      refine W_seq ?_
      refine W_region_lit (fun ds => ?_)
      refine WS_det hF (by rfl) (y_assign (c := .int .i64 _) (by rfl)) ?_
      refine WS_nil ?_
      refine Then_normal ?_
      refine W_block ?_
      refine W_loop (γ := Nat × Option Addr × Nat × List Blk) (fun q => q.1 ≤ 21 ∧ NewRow 3 1 (c.madeK q.1).length (iv (c.madeK q.1)) (.slice q.2.1 (c.madeK q.1).length q.2.2.1) q.2.2.2) (fun q => [(4, .pointer (some ⟨b4, 0, none⟩)), (9, .slice q.2.1 (c.madeK q.1).length q.2.2.1), (10, .int .i64 (q.1 : Int))]) (fun q => (b4, CB (bRow F) 158) :: q.2.2.2) (fun q => 21 - q.1) ((0, none, 0, [])) ⟨Nat.zero_le _, ⟨none, 0, rfl, Nat.le_refl _, .inr ⟨rfl, rfl, rfl⟩⟩⟩ (by repeat (first | exact trivial | refine ⟨by rfl, ?_⟩)) (sbA) ?_
      rintro ⟨n, a, ocap, Hr⟩ e ⟨(hn21 : n ≤ 21), (hrow : NewRow 3 1 (c.madeK n).length (iv (c.madeK n)) (.slice a (c.madeK n).length ocap) Hr)⟩
      refine W_seq ?_
      refine W_seq ?_
      refine W_region_lit (fun ds => ?_)
      refine WS_det hF (by rfl) (y_move (c := .int .i64 _) (by rfl)) ?_
      refine WS_det hF (by rfl) (y_lss (by rfl) (by rfl)) ?_
      refine WS_nil ?_
      refine Then_normal ?_
      refine W_cond (by rfl) (fun c15 => ?_) (fun c15 => ?_)
      ·
        try simp only [Bool.not_eq_true', Bool.not_eq_false', decide_eq_true_eq, decide_eq_false_iff_not, ne_eq, Classical.not_not, Int.not_lt, Int.not_le] at c15
        have hn20 : n < 21 := by omega
        have hll := c.madeK_len n
        refine W_skip ?_
        refine Then_normal ?_
        refine W_seq ?_
        refine W_block ?_
        refine W_seq ?_
        refine W_region_lit (fun ds => ?_)
        refine WS_det hF (by rfl) (y_move (c := .int .i64 _) (by rfl)) ?_
        refine WS_det hF (by rfl) (y_indexA (k := n) (by rfl) (by rfl) (by first | rfl | omega) (by first | decide | omega) Tryd.runUnderlying158 Tryd.sizeOf4) ?_
        refine WS_det hF (by rfl) (y_load1 (by rfl) Tryd.isAgg4 (Mem.rowAt bE_len 0 (by rfl) hn20 rfl (j := 0) rfl (by omega))) ?_
        refine WS_nil ?_
        refine Then_normal ?_
        refine W_cond (by rfl) (fun c17 => ?_) (fun c17 => ?_)
        ·
          try simp only [Bool.not_eq_true', Bool.not_eq_false', decide_eq_true_eq, decide_eq_false_iff_not, ne_eq, Classical.not_not, Int.not_lt, Int.not_le] at c17
          have hL := Cn.madeK_yes ((hFm hn20).1 c17)
          refine W_region_lit (fun ds => ?_)
          refine WS_det hF (by rfl) (y_move (c := .slice _ _ _) (by rfl)) ?_
          refine WS_det hF (by rfl) (y_move (c := .int .i64 _) (by rfl)) ?_
          refine WS_newS hF (by rfl) (y_buildSliceL bs22_1_0 (by rfl)) (fun b2 => ?_)
          refine WS_appendN hF (H1 := (_ :: _ :: [])) (Hn := Hr) (news := [.int .i64 (n : Int)]) (by rfl) (by rfl) (by rfl) Tryd.underlying22 infInt (by rfl) (by rfl) hrow (iv_len _) (.inr ⟨_, _, rfl, Mem.own1 0 (by rfl) (by rfl)⟩) (by rfl) (by rfl) (by omega) (by omega) (by omega) ?_
          intro a3 cap3 H3 hr3
          have hrow3 : NewRow 3 1 (c.madeK (n + 1)).length (iv (c.madeK (n + 1))) (.slice a3 (c.madeK (n + 1)).length cap3) H3 := by
            rw [hL, List.length_append]
            rw [show iv (c.madeK n ++ [(n : Int)]) = iv (c.madeK n) ++ [Value.int .i64 (n : Int)] by simp [iv]]
            exact hr3
          refine WS_det hF (by rfl) (y_assign (c := .slice _ _ _) (by rfl)) ?_
          refine WS_nil ?_
          refine InB_normal ?_
          refine Then_normal ?_
          refine W_region_lit (fun ds => ?_)
          refine WS_det hF (by rfl) (y_move (c := .int .i64 _) (by rfl)) ?_
          refine WS_det hF (by rfl) (y_add (by rfl) (by rfl) (by unfold I64; omega)) ?_
          refine WS_det hF (by rfl) (y_assign (c := .int .i64 _) (by rfl)) ?_
          refine WS_nil ?_
          exact Loop_next (n + 1, a3, cap3, H3) ⟨by omega, hrow3⟩ (by simp only [hL, List.length_append, List.length_singleton]; repeat (first | exact trivial | refine ⟨by rfl, ?_⟩)) sbA (by simp only; omega)
        ·
          try simp only [Bool.not_eq_true', Bool.not_eq_false', decide_eq_true_eq, decide_eq_false_iff_not, ne_eq, Classical.not_not, Int.not_lt, Int.not_le] at c17
          have hL := Cn.madeK_no (fun h => by have := (hFm hn20).2 h; rw [c17] at this; cases this)
          refine W_skip ?_
          refine InB_normal ?_
          refine Then_normal ?_
          refine W_region_lit (fun ds => ?_)
          refine WS_det hF (by rfl) (y_move (c := .int .i64 _) (by rfl)) ?_
          refine WS_det hF (by rfl) (y_add (by rfl) (by rfl) (by unfold I64; omega)) ?_
          refine WS_det hF (by rfl) (y_assign (c := .int .i64 _) (by rfl)) ?_
          refine WS_nil ?_
          exact Loop_next (n + 1, a, ocap, Hr) ⟨by omega, by simp only [hL]; exact hrow⟩ (by simp only [hL]; repeat (first | exact trivial | refine ⟨by rfl, ?_⟩)) sbA (by simp only; omega)
      ·
        try simp only [Bool.not_eq_true', Bool.not_eq_false', decide_eq_true_eq, decide_eq_false_iff_not, ne_eq, Classical.not_not, Int.not_lt, Int.not_le] at c15
        obtain rfl : n = 21 := by omega
        refine W_exit ?_
        refine Then_exit ?_
        refine Loop_exit ?_
        refine InB_same ?_
        refine Then_normal ?_
        refine W_seq ?_
        refine W_region_lit (fun ds => ?_)
        refine WS_det hF (by rfl) (y_move (c := .slice _ _ _) (by rfl)) ?_
        refine WS_det hF (by rfl) (y_assign (c := .slice _ _ _) (by rfl)) ?_
        refine WS_det hF (by rfl) (y_assign (c := .int .i64 _) (by rfl)) ?_
        refine WS_nil ?_
        refine Then_normal ?_
        refine W_ret ?_
        refine Fin_ret [.slice _ _ _, .int .i64 _] Hr Tryd.results43 ⟨by rfl, by rfl, trivial⟩ (HSub.sub sbA) ?_
        exact MadeV.ok c1 hrow
end Go.Proofs.YtjekjehgmljbgaaDoor.T

/- The amount that takes longest: the reference's walk. -/
namespace Go.Proofs.YtjekjehgmljbgaaDoor.T
open Go.RowKit Go.Proofs Go.Eng
set_option maxRecDepth 100000
set_option maxHeartbeats 1000000
set_option linter.unusedVariables false
set_option linter.unusedSimpArgs false



noncomputable def Cn.fl (c : Cn) (n : Int) : Int := match c.few (c.someP n) with | some w => (w.l.length : Int) | none => 0
noncomputable def Cn.farS (c : Cn) (b : Int × Int) (n : Int) : Int × Int := if b.2 < c.fl n then (n, c.fl n) else b
noncomputable def Cn.farT (c : Cn) (k : Nat) : Int × Int := (c.madeL.take k).foldl c.farS (0, -1)
theorem Cn.farT_succ {c : Cn} {k : Nat} (h : k < c.madeL.length) : c.farT (k + 1) = c.farS (c.farT k) (c.madeL.getD k 0) := by
  unfold Cn.farT
  rw [List.take_add_one, List.getElem?_eq_getElem h]
  simp only [Option.toList_some]
  rw [List.foldl_append]
  simp [List.getD_eq_getElem?_getD, h]
def FarV (c : Cn) (v : Value) : Prop := v = .tuple #[.int .i64 (if c.okB then (c.farT c.madeL.length).1 else 0), .int .i64 (if c.okB then (c.farT c.madeL.length).2 else 0), .int .i64 c.err]
theorem FarV.bad {c : Cn} {e : Int} (h : c.okB = false) (he : c.err = e) : FarV c (.tuple #[.int .i64 0, .int .i64 0, .int .i64 e]) := by
  unfold FarV
  rw [h, he]
  rfl
theorem FarV.ok {c : Cn} (h : c.okB = true) (he : c.err = 0) : FarV c (.tuple #[.int .i64 (c.farT c.madeL.length).1, .int .i64 (c.farT c.madeL.length).2, .int .i64 0]) := by
  unfold FarV
  rw [h, he]
  rfl
theorem Cn.someP_iff {c : Cn} {n : Int} {x : Co} : c.someP n x = true ↔ n ∈ (c.of x).inn := by unfold Cn.someP; exact decide_eq_true_iff
theorem Cn.few_ne {c : Cn} {xs : List (Co × Wy)} (hR : c.Rcd xs) {p : Co → Bool} {k : Co} {v : Wy} (hp : p k = true) (hb : c.Best v k) : c.few p ≠ none := by
  obtain ⟨a, ha, hs, hm⟩ := exists_min (fun w => ∃ k, p k = true ∧ c.Best w k) Wy.lt (fun v => v.l.length) Wy.lt_irrefl Wy.lt_trans (xs.map Prod.snd) ⟨v, List.mem_map.2 ⟨_, hR.all k v hb, rfl⟩, k, hp, hb⟩
  rw [Cn.few_some ⟨hs, fun k v hk hv => hm v (List.mem_map.2 ⟨_, hR.all k v hv, rfl⟩) ⟨k, hk, hv⟩⟩]
  intro h; cases h
theorem Cn.made_pos {c : Cn} (hok : c.Ok) : 0 < c.madeL.length := by
  obtain ⟨n, hn⟩ := Cn.made_ne hok
  exact List.length_pos_of_mem ((Cn.madeL_mem hok).2 hn)
theorem Cn.made_at {c : Cn} (hok : c.Ok) {k : Nat} (hk : k < c.madeL.length) : c.mkP (c.madeL.getD k 0) := by
  rw [List.getD_eq_getElem?_getD, List.getElem?_eq_getElem hk]
  exact (Cn.madeL_mem hok).1 (List.getElem_mem hk)
theorem rfar_any (c : Cn) (a1 : Option Addr) (p1 : Nat) (a2 : Option Addr) (p2 : Nat) (w : World) (hn : c.n ≤ 1000000) (hm : c.inn.length ≤ 1000000) (h1 : Ints w a1 c.n p1 c.sz) (h2 : Ints w a2 c.inn.length p2 c.inn) : Ct Tryd.prog 47 #[.agg #[.slice a1 c.n p1, .slice a2 c.inn.length p2, .int .i64 c.st]] w fun v _ => FarV c v := by
  have hF := wide_wide
  refine Ct_start (args := [_]) Tryd.func47 (by rfl) Tryd.ntmps47 (by rfl) ?_
  refine W_seq ?_
  refine W_region_lit (fun ds => ?_)
  refine WS_new hF (by rfl) (y_box (by rfl)) (fun b1 => ?_)
  refine WS_det hF (by rfl) (y_assign (c := .int .i64 _) (by rfl)) ?_
  refine WS_det hF (by rfl) (y_assign (c := .int .i64 _) (by rfl)) ?_
  refine WS_det hF (by rfl) (y_assign (c := .int .i64 _) (by rfl)) ?_
  refine WS_nil ?_
  refine Then_normal ?_
  refine W_seq ?_
  refine W_region_lit (fun ds => ?_)
  refine WS_det hF (by rfl) (y_loadN (by rfl) Tryd.isAgg24 Tryd.sizeOf24 (Mem.own (us := [.slice _ _ _, .slice _ _ _, .int .i64 _]) 0 (by rfl) (by rfl)) (by rfl)) ?_
  refine WS_gen hF (by rfl) (y_callL (by rfl) (by rfl) Tryd.call43 (fun w hw => rmade_any c a1 p1 a2 p2 w hn hm (h1.st w hw) (h2.st w hw))) ?_
  rintro _ Hm ⟨a, cap, rfl, hrow⟩
  refine WS_det hF (by rfl) (y_move (c := .tuple _) (by rfl)) ?_
  refine WS_det hF (by rfl) (y_extract (c := .slice _ _ _) (by rfl) (by rfl)) ?_
  refine WS_det hF (by rfl) (y_extract (c := .int .i64 _) (by rfl) (by rfl)) ?_
  refine WS_det hF (by rfl) (y_assign (c := .slice _ _ _) (by rfl)) ?_
  refine WS_det hF (by rfl) (y_assign (c := .int .i64 _) (by rfl)) ?_
  refine WS_nil ?_
  refine Then_normal ?_
  refine W_seq ?_
  refine W_seq ?_
  refine W_region_lit (fun ds => ?_)
  refine WS_det hF (by rfl) (y_move (c := .int .i64 _) (by rfl)) ?_
  refine WS_det hF (by rfl) (y_neq (by rfl) (by rfl)) ?_
  refine WS_nil ?_
  refine Then_normal ?_
  refine W_cond (by rfl) (fun c2 => ?_) (fun c2 => ?_)
  ·
    try simp only [Bool.not_eq_true', Bool.not_eq_false', decide_eq_true_eq, decide_eq_false_iff_not, ne_eq, Classical.not_not, Int.not_lt, Int.not_le] at c2
    refine W_seq ?_
    refine W_region_lit (fun ds => ?_)
    refine WS_det hF (by rfl) (y_move (c := .int .i64 _) (by rfl)) ?_
    refine WS_det hF (by rfl) (y_assign (c := .int .i64 _) (by rfl)) ?_
    refine WS_det hF (by rfl) (y_assign (c := .int .i64 _) (by rfl)) ?_
    refine WS_det hF (by rfl) (y_assign (c := .int .i64 _) (by rfl)) ?_
    refine WS_nil ?_
    refine Then_normal ?_
    refine W_ret ?_
    refine Then_ret ?_
    refine Fin_ret [.int .i64 _, .int .i64 _, .int .i64 _] [] Tryd.results47 ⟨by rfl, by rfl, by rfl, trivial⟩ HSub.nil ?_
    exact FarV.bad (Cn.err_no c2).1 rfl
  ·
    try simp only [Bool.not_eq_true', Bool.not_eq_false', decide_eq_true_eq, decide_eq_false_iff_not, ne_eq, Classical.not_not, Int.not_lt, Int.not_le] at c2
    have hokB := Cn.err_iff.1 c2
    have hok := Cn.ok_iff.1 hokB
    have hmd : c.mdL = c.madeL := by unfold Cn.mdL; rw [hokB]; rfl
    rw [hmd] at hrow ⊢
    have hml := c.madeL_len
    obtain ⟨bm, jm, rfl, rfl, hjl, hjc⟩ := NewRow.head hrow (Cn.made_pos hok)
    refine W_skip ?_
    refine Then_normal ?_
    refine W_seq ?_
    refine W_region_lit (fun ds => ?_)
    refine WS_det hF (by rfl) (y_loadN (by rfl) Tryd.isAgg24 Tryd.sizeOf24 (Mem.own (us := [.slice _ _ _, .slice _ _ _, .int .i64 _]) 1 (by rfl) (by rfl)) (by rfl)) ?_
    refine WS_gen hF (by rfl) (y_callL (by rfl) (by rfl) Tryd.call67 (fun w hw => reached_any c a1 p1 a2 p2 w hok hn hm (h1.st w hw) (h2.st w hw))) ?_
    rintro _ _ ⟨rs, bo, rcap, junk, HX, rfl, rfl, hrc, hrd, hcap⟩
    refine WS_pull (bm, CB (iv c.madeL ++ jm) 3) (by repeat (first | exact Pul.base0 | exact Pul.base | apply Pul.cons | apply Pul.app)) ?_
    refine WS_pull (bo, _) (by repeat (first | exact Pul.base0 | exact Pul.base | apply Pul.cons | apply Pul.app)) ?_
    refine WS_det hF (by rfl) (y_assign (c := .slice _ _ _) (by rfl)) ?_
    refine WS_nil ?_
    refine Then_normal ?_
    refine W_seq ?_
    refine W_region_lit (fun ds => ?_)
    refine WS_det hF (by rfl) (y_assign (c := .int .i64 _) (by rfl)) ?_
    refine WS_det hF (by rfl) (y_assign (c := .int .i64 _) (by rfl)) ?_
    refine WS_nil ?_
    refine Then_normal ?_
    refine W_seq ?_
    refine W_seq ?_
    refine W_region_lit (fun ds => ?_)
    refine WS_det hF (by rfl) (y_move (c := .slice _ _ _) (by rfl)) ?_
    refine WS_det hF (by rfl) (y_len (by rfl) Tryd.runUnderlying22) ?_
    refine WS_det hF (by rfl) (y_move (c := .int .i64 _) (by rfl)) ?_
    refine WS_nil ?_
    refine Then_normal ?_
    refine W_block ?_
    refine W_loop (γ := Nat) (fun k => k ≤ c.madeL.length) (fun k => [(7, .slice (some ⟨bo, 0, none⟩) rs.length rcap), (8, .int .i64 (c.farT k).1), (9, .int .i64 (c.farT k).2), (24, .slice (some ⟨bm, 0, none⟩) c.madeL.length cap), (25, .int .i64 (c.madeL.length : Int)), (26, .int .i64 (k : Int))]) (fun k => (bo, CB (rRow c rs ++ junk) 128) :: (bm, CB (iv c.madeL ++ jm) 3) :: HX) (fun k => c.madeL.length - k) (0) (Nat.zero_le _) (by repeat (first | exact trivial | refine ⟨by rfl, ?_⟩)) (sbA) ?_
    intro k e hk
    refine W_seq ?_
    refine W_region_lit (fun ds => ?_)
    refine WS_det hF (by rfl) (y_lss (by rfl) (by rfl)) ?_
    refine WS_nil ?_
    refine Then_normal ?_
    refine W_seq ?_
    refine W_cond (by rfl) (fun c7 => ?_) (fun c7 => ?_)
    ·
      try simp only [Bool.not_eq_true', Bool.not_eq_false', decide_eq_true_eq, decide_eq_false_iff_not, ne_eq, Classical.not_not, Int.not_lt, Int.not_le] at c7
      have hkl : k < c.madeL.length := by omega
      obtain ⟨n, hn⟩ : ∃ n, n = c.madeL.getD k 0 := ⟨_, rfl⟩
      have hmk := Cn.made_at hok hkl
      rw [← hn] at hmk
      have hnb := Cn.mkP_bd hok hmk
      have hts := Cn.farT_succ hkl
      rw [← hn] at hts
      have hpp : c.few (Am.p c ⟨n, -1, []⟩) = c.few (c.someP n) := few_congr fun x => by
        unfold Am.p
        rw [if_neg (show ¬ (0 : Int) ≤ -1 by decide), if_pos (show 0 ≤ n by omega)]
      refine W_skip ?_
      refine Then_normal ?_
      refine W_seq ?_
      refine W_block ?_
      refine W_seq ?_
      refine W_region_lit (fun ds => ?_)
      refine WS_det hF (by rfl) (y_index (k := k) (by rfl) (by rfl) (by first | rfl | omega) (by first | decide | omega) Tryd.runUnderlying22 Tryd.sizeOf3) ?_
      refine WS_det hF (by rfl) (y_load1 (by rfl) Tryd.isAgg3 (Mem.own (us := [.int .i64 n]) 1 (by rfl) (drop_iv (by omega) hn.symm))) ?_
      refine WS_det hF (by rfl) (y_assign (c := .int .i64 _) (by rfl)) ?_
      refine WS_nil ?_
      refine Then_normal ?_
      refine W_seq ?_
      refine W_region_lit (fun ds => ?_)
      refine WS_det hF (by rfl) (y_move (c := .slice _ _ _) (by rfl)) ?_
      refine WS_det hF (by rfl) (y_move (c := .int .i64 _) (by rfl)) ?_
      refine WS_det hF (by rfl) (y_buildL bd134_0_1 (by rfl)) ?_
      refine WS_gen hF (by rfl) (y_callL (by rfl) (by rfl) Tryd.call66 (fun w hw => rfewest_any c rs (some ⟨bo, 0, none⟩) rcap ⟨n, -1, []⟩ none 0 w hok hrc (rRow_rws 0 (by rfl) hcap w hw) (fun r hr => ⟨(hrd r hr).i _ _ w sbA hw, (hrd r hr).p _ _ w sbA hw⟩) (Ints.nil w none 0) (Nat.zero_le _) (fun _ h => by have : n < 0 := h; omega))) ?_
      rintro _ HL ⟨fb, q, rfl, hfy, hfn⟩
      refine WS_back ?_
      have hfb : fb = true := by
        cases fb with
        | true => rfl
        | false =>
          obtain ⟨wx, y, hb, hm⟩ := hmk
          exact absurd (hpp.symm.trans (hfn rfl)) (Cn.few_ne hrc (Cn.someP_iff.2 hm) hb)
      subst hfb
      obtain ⟨r, hr, rfl, hy⟩ := hfy rfl
      rw [hpp] at hy
      have hfl : c.fl n = (r.w.l.length : Int) := by unfold Cn.fl; rw [hy]
      refine WS_det hF (by rfl) (y_move (c := .tuple _) (by rfl)) ?_
      refine WS_det hF (by rfl) (y_extract (c := .agg _) (by rfl) (by rfl)) ?_
      refine WS_det hF (by rfl) (y_extract (c := .bool _) (by rfl) (by rfl)) ?_
      refine WS_new hF (by rfl) (y_alloc Tryd.zeroValue128 (by rfl)) (fun b12 => ?_)
      refine WS_store hF (i := 0) (by rfl) (by rfl) Tryd.sizeOf128 (by rfl) (by rfl) (by rfl) (by first | decide | exact Nat.le_of_ble_eq_true rfl | simp) ?_
      refine WS_det hF (by rfl) (y_assign (c := .bool _) (by rfl)) ?_
      refine WS_nil ?_
      refine Then_normal ?_
      refine W_seq ?_
      refine W_region_lit (fun ds => ?_)
      refine WS_det hF (by rfl) (y_fieldAddr (by rfl) fa128_1) ?_
      refine WS_det hF (by rfl) (y_load1 (by rfl) Tryd.isAgg27 (Mem.own1 0 (by rfl) (by rfl))) ?_
      refine WS_det hF (by rfl) (y_len (by rfl) Tryd.runUnderlying27) ?_
      refine WS_det hF (by rfl) (y_move (c := .int .i64 _) (by rfl)) ?_
      refine WS_det hF (by rfl) (y_gtr (by rfl) (by rfl)) ?_
      refine WS_nil ?_
      refine Then_normal ?_
      refine W_cond (by rfl) (fun c10 => ?_) (fun c10 => ?_)
      ·
        try simp only [Bool.not_eq_true', Bool.not_eq_false', decide_eq_true_eq, decide_eq_false_iff_not, ne_eq, Classical.not_not, Int.not_lt, Int.not_le] at c10
        have hT1 : c.farT (k + 1) = (n, (r.w.l.length : Int)) := by rw [hts]; unfold Cn.farS; rw [hfl]; exact if_pos c10
        refine W_draw0 hF Trydmixed [] (by decide +kernel) (fun ds => ?_)
        refine P_det (by rfl) (Over_nil (y_move (c := .int .i64 _) (by rfl))) ?_
        refine P_det (by rfl) (Over_nil (y_fieldAddr (by rfl) fa128_1)) ?_
        refine P_det (by rfl) (Over_nil (y_load1 (by rfl) Tryd.isAgg27 (Mem.own1 0 (by rfl) (by rfl)))) ?_
        refine P_det (by rfl) (Over_nil (y_len (by rfl) Tryd.runUnderlying27)) ?_
        refine P_det (by rfl) (Over_nil (y_assign (c := .int .i64 _) (by rfl))) ?_
        refine P_det (by rfl) (Over_nil (y_assign (c := .int .i64 _) (by rfl))) ?_
        refine PW_end (by rfl) ?_
        refine OverAll_nil ?_
        rintro -
        refine InB_normal ?_
        refine Then_normal ?_
        refine W_region_lit (fun ds => ?_)
        refine WS_det hF (by rfl) (y_add (by rfl) (by rfl) (by unfold I64; omega)) ?_
        refine WS_det hF (by rfl) (y_move (c := .int .i64 _) (by rfl)) ?_
        refine WS_nil ?_
        exact Loop_next (k + 1) (by omega) (by rw [hT1]; repeat (first | exact trivial | refine ⟨by rfl, ?_⟩)) sbA (by omega)
      ·
        try simp only [Bool.not_eq_true', Bool.not_eq_false', decide_eq_true_eq, decide_eq_false_iff_not, ne_eq, Classical.not_not, Int.not_lt, Int.not_le] at c10
        have hT1 : c.farT (k + 1) = c.farT k := by rw [hts]; unfold Cn.farS; rw [hfl]; exact if_neg (fun h => absurd h (Int.not_lt.2 c10))
        refine W_skip ?_
        refine InB_normal ?_
        refine Then_normal ?_
        refine W_region_lit (fun ds => ?_)
        refine WS_det hF (by rfl) (y_add (by rfl) (by rfl) (by unfold I64; omega)) ?_
        refine WS_det hF (by rfl) (y_move (c := .int .i64 _) (by rfl)) ?_
        refine WS_nil ?_
        exact Loop_next (k + 1) (by omega) (by rw [hT1]; repeat (first | exact trivial | refine ⟨by rfl, ?_⟩)) sbA (by omega)
    ·
      try simp only [Bool.not_eq_true', Bool.not_eq_false', decide_eq_true_eq, decide_eq_false_iff_not, ne_eq, Classical.not_not, Int.not_lt, Int.not_le] at c7
      obtain rfl : k = c.madeL.length := by omega
      refine W_exit ?_
      refine Then_exit ?_
      refine Loop_exit ?_
      refine InB_same ?_
      refine Then_normal ?_
      refine W_seq ?_
      refine W_region_lit (fun ds => ?_)
      refine WS_det hF (by rfl) (y_move (c := .int .i64 _) (by rfl)) ?_
      refine WS_det hF (by rfl) (y_move (c := .int .i64 _) (by rfl)) ?_
      refine WS_det hF (by rfl) (y_assign (c := .int .i64 _) (by rfl)) ?_
      refine WS_det hF (by rfl) (y_assign (c := .int .i64 _) (by rfl)) ?_
      refine WS_det hF (by rfl) (y_assign (c := .int .i64 _) (by rfl)) ?_
      refine WS_nil ?_
      refine Then_normal ?_
      refine W_ret ?_
      refine Fin_ret [.int .i64 _, .int .i64 _, .int .i64 _] [] Tryd.results47 ⟨by rfl, by rfl, by rfl, trivial⟩ HSub.nil ?_
      exact FarV.ok hokB c2
end Go.Proofs.YtjekjehgmljbgaaDoor.T

/- A region whose order is open, state by state: what is done already, whatever its order. No project text. -/
namespace Go.Eng
open Go.RowKit
section
variable {C : Ctx} {F : Fence} {n : Nat} {ds : List Deferred} {ops : Array Oper} {fuel : Nat} {listed : Array Bool} {e : Env} {H H' H0 M' L : List Blk} {M : Env → List Blk → Prop} {x : Blk}
theorem St.hsub {w : World} (hs : HSub H H') (hw : St C H w) : St C H' w := ⟨hw.1, hs _ _ hw.2, hw.3⟩
theorem PulL.base : (L ++ M').Perm (L ++ M') := List.Perm.refl _
theorem PulL.cons {y : Blk} (h : H.Perm (L ++ M')) : (y :: H).Perm (L ++ (y :: M')) := (h.cons y).trans List.perm_middle.symm
theorem PulL.app {X : List Blk} (h : H.Perm (L ++ M')) : (X ++ H).Perm (L ++ (X ++ M')) := (h.append_left X).trans (by rw [← List.append_assoc, ← List.append_assoc]; exact List.perm_append_comm.append_right M')
theorem PulE.one : L.Perm ([] ++ L) := List.Perm.refl _
theorem PulE.hd {M : List Blk} : (L ++ M).Perm (M ++ L) := List.perm_append_comm
theorem PulE.snd {X : List Blk} : (X ++ L).Perm (X ++ L) := List.Perm.refl _
theorem PulE.cons {y : Blk} (h : H.Perm (M' ++ L)) : (y :: H).Perm ((y :: M') ++ L) := h.cons y
theorem PulE.app {X : List Blk} (h : H.Perm (M' ++ L)) : (X ++ H).Perm ((X ++ M') ++ L) := by rw [List.append_assoc]; exact h.append_left X
end
end Go.Eng

namespace Go.Proofs.YtjekjehgmljbgaaDoor.T
open Go.RowKit Go.Proofs Go.Eng Go.Shelf
set_option maxRecDepth 100000
set_option maxHeartbeats 1000000
set_option linter.unusedVariables false
set_option linter.unusedSimpArgs false



def soR : Go.Shelf.Ren := ⟨fun n => match n with
  | 53 => 125
  | 59 => 188
  | 63 => 163
  | 64 => 123
  | 68 => 105
  | 70 => 182
  | 71 => 183
  | 72 => 184
  | 73 => 185
  | 74 => 186
  | 75 => 187
  | 76 => 189
  | 77 => 190
  | 78 => 161
  | 79 => 162
  | 88 => 201
  | 89 => 178
  | 90 => 179
  | 91 => 202
  | 92 => 203
  | 96 => 206
  | _ => 0, fun n => match n with
  | 0 => 0
  | 3 => 3
  | 4 => 4
  | 5 => 5
  | 9 => 9
  | 22 => 22
  | 23 => 3
  | 44 => 231
  | 51 => 199
  | 60 => 226
  | 61 => 227
  | 67 => 234
  | 69 => 236
  | 75 => 247
  | 79 => 251
  | 83 => 264
  | 84 => 87
  | _ => 0, fun x => x⟩
theorem soL : SlLaysN.n53 Tryd.prog soR where
  mixed := by kernel_rfl
  f53 := ⟨Tryd.f125.name, by kernel_rfl, (Tryd.func125).trans (congrArg some (by kernel_rfl))⟩
  f59 := ⟨Tryd.f188.name, by kernel_rfl, (Tryd.func188).trans (congrArg some (by kernel_rfl))⟩
  f63 := ⟨Tryd.f163.name, by kernel_rfl, (Tryd.func163).trans (congrArg some (by kernel_rfl))⟩
  f64 := (Tryd.func123).trans (congrArg some (by kernel_rfl))
  f68 := ⟨Tryd.f105.name, by kernel_rfl, (Tryd.func105).trans (congrArg some (by kernel_rfl))⟩
  f70 := ⟨Tryd.f182.name, by kernel_rfl, (Tryd.func182).trans (congrArg some (by kernel_rfl))⟩
  f71 := ⟨Tryd.f183.name, by kernel_rfl, (Tryd.func183).trans (congrArg some (by kernel_rfl))⟩
  f72 := ⟨Tryd.f184.name, by kernel_rfl, (Tryd.func184).trans (congrArg some (by kernel_rfl))⟩
  f73 := ⟨Tryd.f185.name, by kernel_rfl, (Tryd.func185).trans (congrArg some (by kernel_rfl))⟩
  f74 := ⟨Tryd.f186.name, by kernel_rfl, (Tryd.func186).trans (congrArg some (by kernel_rfl))⟩
  f75 := ⟨Tryd.f187.name, by kernel_rfl, (Tryd.func187).trans (congrArg some (by kernel_rfl))⟩
  f76 := ⟨Tryd.f189.name, by kernel_rfl, (Tryd.func189).trans (congrArg some (by kernel_rfl))⟩
  f77 := ⟨Tryd.f190.name, by kernel_rfl, (Tryd.func190).trans (congrArg some (by kernel_rfl))⟩
  f78 := (Tryd.func161).trans (congrArg some (by kernel_rfl))
  f79 := (Tryd.func162).trans (congrArg some (by kernel_rfl))
  f88 := ⟨Tryd.f201.name, by kernel_rfl, (Tryd.func201).trans (congrArg some (by kernel_rfl))⟩
  f89 := (Tryd.func178).trans (congrArg some (by kernel_rfl))
  f90 := (Tryd.func179).trans (congrArg some (by kernel_rfl))
  f91 := ⟨Tryd.f202.name, by kernel_rfl, (Tryd.func202).trans (congrArg some (by kernel_rfl))⟩
  f92 := ⟨Tryd.f203.name, by kernel_rfl, (Tryd.func203).trans (congrArg some (by kernel_rfl))⟩
  f96 := ⟨Tryd.f206.name, by kernel_rfl, (Tryd.func206).trans (congrArg some (by kernel_rfl))⟩
  t0 := by kernel_rfl
  a0 := fun w => by kernel_rfl
  z0 := fun w => by kernel_rfl
  v0 := fun w => by kernel_rfl
  t3 := by kernel_rfl
  a3 := fun w => by kernel_rfl
  z3 := fun w => by kernel_rfl
  v3 := fun w => by kernel_rfl
  t4 := by kernel_rfl
  a4 := fun w => by kernel_rfl
  z4 := fun w => by kernel_rfl
  v4 := fun w => by kernel_rfl
  t5 := by kernel_rfl
  a5 := fun w => by kernel_rfl
  z5 := fun w => by kernel_rfl
  v5 := fun w => by kernel_rfl
  t9 := by kernel_rfl
  a9 := fun w => by kernel_rfl
  z9 := fun w => by kernel_rfl
  v9 := fun w => by kernel_rfl
  t22 := by kernel_rfl
  a22 := fun w => by kernel_rfl
  z22 := fun w => by kernel_rfl
  v22 := fun w => by kernel_rfl
  t23 := by kernel_rfl
  a23 := fun w => by kernel_rfl
  z23 := fun w => by kernel_rfl
  v23 := fun w => by kernel_rfl
  t44 := by kernel_rfl
  a44 := fun w => by kernel_rfl
  z44 := fun w => by kernel_rfl
  v44 := fun w => by kernel_rfl
  t51 := by kernel_rfl
  a51 := fun w => by kernel_rfl
  z51 := fun w => by kernel_rfl
  v51 := fun w => by kernel_rfl
  t60 := by kernel_rfl
  a60 := fun w => by kernel_rfl
  z60 := fun w => by kernel_rfl
  v60 := fun w => by kernel_rfl
  t61 := by kernel_rfl
  a61 := fun w => by kernel_rfl
  z61 := fun w => by kernel_rfl
  v61 := fun w => by kernel_rfl
  t67 := by kernel_rfl
  a67 := fun w => by kernel_rfl
  z67 := fun w => by kernel_rfl
  v67 := fun w => by kernel_rfl
  t69 := by kernel_rfl
  a69 := fun w => by kernel_rfl
  z69 := fun w => by kernel_rfl
  v69 := fun w => by kernel_rfl
  t75 := by kernel_rfl
  a75 := fun w => by kernel_rfl
  z75 := fun w => by kernel_rfl
  v75 := fun w => by kernel_rfl
  t79 := by kernel_rfl
  a79 := fun w => by kernel_rfl
  z79 := fun w => by kernel_rfl
  v79 := fun w => by kernel_rfl
  t83 := by kernel_rfl
  a83 := fun w => by kernel_rfl
  z83 := fun w => by kernel_rfl
  v83 := fun w => by kernel_rfl
  t84 := by kernel_rfl
  a84 := fun w => by kernel_rfl
  z84 := fun w => by kernel_rfl
  v84 := fun w => by kernel_rfl
def coR : Go.Shelf.Ren := ⟨fun n => match n with
  | 43 => 126
  | _ => 0, fun n => match n with
  | 0 => 0
  | 3 => 3
  | 4 => 4
  | 22 => 22
  | 23 => 3
  | _ => 0, fun x => x⟩
theorem coL : SlLaysN.n43 Tryd.prog coR where
  mixed := by kernel_rfl
  f43 := ⟨Tryd.f126.name, by kernel_rfl, (Tryd.func126).trans (congrArg some (by kernel_rfl))⟩
  t0 := by kernel_rfl
  a0 := fun w => by kernel_rfl
  z0 := fun w => by kernel_rfl
  v0 := fun w => by kernel_rfl
  t3 := by kernel_rfl
  a3 := fun w => by kernel_rfl
  z3 := fun w => by kernel_rfl
  v3 := fun w => by kernel_rfl
  t4 := by kernel_rfl
  a4 := fun w => by kernel_rfl
  z4 := fun w => by kernel_rfl
  v4 := fun w => by kernel_rfl
  t22 := by kernel_rfl
  a22 := fun w => by kernel_rfl
  z22 := fun w => by kernel_rfl
  v22 := fun w => by kernel_rfl
  t23 := by kernel_rfl
  a23 := fun w => by kernel_rfl
  z23 := fun w => by kernel_rfl
  v23 := fun w => by kernel_rfl
  i23 := by kernel_rfl
theorem swap_map {w : World} {b T : Nat} {vs us : List Value} {f : Array Value → Array Value} (h : w.heap[b]? = some (CB vs T)) (hf : f vs.toArray = us.toArray) : Swap [(b, CB vs T)] [(b, CB us T)] w (Sort.mapBlock w b f) :=
  ⟨rfl, rfl, rfl, rfl, by simp [Sort.mapBlock], fun k hk => by
    have hk' : b ≠ k := fun e => hk (by simp [e])
    simp [Sort.mapBlock, Array.getElem?_modify, hk'], fun x hx => by
    simp only [List.mem_singleton] at hx
    subst hx
    simp only [Sort.mapBlock, Array.getElem?_modify, if_pos, h]
    show some (Sort.onCells f (CB vs T)) = some (CB us T)
    unfold CB
    simp only [Sort.onCells, hf], fun x hx => by
    simp only [List.mem_singleton] at hx
    subst hx
    unfold CB
    simp⟩
theorem st_mapRow {C : Ctx} {X : List Blk} {w : World} {b T : Nat} {vs us : List Value} {f : Array Value → Array Value} (h : St C ((b, CB vs T) :: X) w) (hf : f vs.toArray = us.toArray) : St C ((b, CB us T) :: X) (Sort.mapBlock w b f) := by
  have hs := swap_map (f := f) (h.get (i := 0) rfl) hf
  exact ⟨swap_below (X := X) hs h.2 h.1, swap_ok (X := X) hs h.2, swap_marks (X := X) hs h.2 h.3⟩
theorem st_ahead {C : Ctx} {H : List Blk} {w : World} (h : St C H w) : ∀ n, St C H (Sort.ahead w n)
  | 0 => h
  | n + 1 => by rw [← Sort.ahead_drew]; exact (st_ahead h n).drew
theorem st_more {C : Ctx} {H : List Blk} {w : World} (h : St C H w) (os : Array Obj) : St C H (Sort.grow w os) := by
  have hb : Below w.heap.size w (Sort.grow w os) := ⟨rfl, rfl, rfl, by simp [Sort.grow], fun k hk => by simp [Sort.grow, Array.getElem?_append_left hk]⟩
  exact h.grow (Hn := []) hb (HOk.nil _ _)
theorem put_iv {xs zs : List Int} {junk : List Value} (hl : zs.length = xs.length) : Sort.putCells (Value.int .i64) 0 zs.toArray (iv xs ++ junk).toArray = (iv zs ++ junk).toArray := by
  have hix : (iv xs).length = xs.length := List.length_map _
  have hiz : (iv zs).length = zs.length := List.length_map _
  apply Array.ext
  · simp [Sort.putCells, hix, hiz, hl]
  · intro k h1 h2
    simp only [Sort.putCells, Array.getElem_mapIdx, List.getElem_toArray, List.size_toArray, Nat.zero_add, Nat.zero_le, true_and, Nat.sub_zero]
    by_cases hk : k < zs.length
    · rw [if_pos hk, List.getElem_append_left (by omega)]
      simp [iv, hk]
    · rw [if_neg hk, List.getElem_append_right (by omega), List.getElem_append_right (by omega)]
      congr 1
      omega
theorem holds_iv {w : World} {b T : Nat} {xs : List Int} {junk : List Value} (h : w.heap[b]? = some (CB (iv xs ++ junk) T)) : Sort.Holds (Value.int .i64) w b 0 xs.toArray := fun j hj => by
  simp only [List.size_toArray] at hj
  have h2 : At w b 0 (iv xs) := at_block (rest := junk) h rfl
  refine ⟨?_, ?_⟩
  · have := h2.get j (.int .i64 xs[j]) (by simp [iv, hj])
    simpa [hj] using this
  · unfold World.frozen?
    rw [h]
    unfold CB
    simp
theorem sort_cs (w0 : World) (ds0 out0 : List Deferred) (b T cap : Nat) (xs : List Int) (junk : List Value) (G : List Blk) (hn : xs.length ≤ 1000000) :
    Cs ⟨Tryd.prog, w0, ds0, out0⟩ 125 #[.slice (some ⟨b, 0, none⟩) xs.length cap] ((b, CB (iv xs ++ junk) T) :: G) fun v Hn => v = .tuple #[] ∧ Hn = (b, CB (iv (sortL xs) ++ junk) T) :: G := fun w hw => by
  have hh := hw.get (i := 0) rfl
  refine Calls.mono (AnyG.slices_Sort_int soL b 0 cap xs w (holds_iv hh) (Array.getElem?_eq_some_iff.1 hh).1 (by omega)) ?_
  rintro e w' ⟨rfl, n, os, rfl⟩
  exact ⟨_, _, rfl, st_more (st_mapRow (st_ahead hw n) (put_iv (by simp))) os, rfl, rfl⟩
theorem compact_cs (w0 : World) (ds0 out0 : List Deferred) (b T cap : Nat) (xs : List Int) (junk : List Value) (G : List Blk) (hn : xs.length ≤ 1000000) (hc : xs.length ≤ cap) :
    Cs ⟨Tryd.prog, w0, ds0, out0⟩ 126 #[.slice (some ⟨b, 0, none⟩) xs.length cap] ((b, CB (iv xs ++ junk) T) :: G) fun v Hn => v = .slice (some ⟨b, 0, none⟩) (Lib.compact xs).length cap ∧ ∃ j2 : List Value, j2.length = junk.length + (xs.length - (Lib.compact xs).length) ∧ Hn = (b, CB (iv (Lib.compact xs) ++ j2) T) :: G := fun w hw => by
  have hh := hw.get (i := 0) rfl
  refine Calls.mono (AnyG.slices_Compact_int coL b 0 cap xs w (holds_iv hh) (by omega) hc) ?_
  rintro e w' ⟨rfl, q, rfl⟩
  have hcl : (Lib.compact xs).length ≤ xs.length := by
    unfold Lib.compact Lib.compactUpTo
    rw [List.length_map]
    refine Nat.le_trans (List.length_filter_le _ _) ?_
    simp
  have h1 := st_mapRow (st_ahead hw q) (put_iv (xs := xs) (zs := Lib.compact xs ++ List.replicate (xs.length - (Lib.compact xs).length) 0) (junk := junk) (by rw [List.length_append, List.length_replicate]; omega))
  refine ⟨_, _, rfl, h1, rfl, iv (List.replicate (xs.length - (Lib.compact xs).length) 0) ++ junk, ?_, ?_⟩
  · rw [List.length_append]
    simp only [iv, List.length_map, List.length_replicate]
    omega
  · rw [show iv (Lib.compact xs ++ List.replicate (xs.length - (Lib.compact xs).length) 0) = iv (Lib.compact xs) ++ iv (List.replicate (xs.length - (Lib.compact xs).length) 0) from List.map_append, List.append_assoc]
end Go.Proofs.YtjekjehgmljbgaaDoor.T
