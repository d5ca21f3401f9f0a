/- Proved: for every input, with no condition, the law CanBefore returns true and the input reads as it did (Rows.CanBeforeSaid). -/
import Derived.Test.YtjekjehgmljbgaaDoorMb3
import Derived.Test.YtjekjehgmljbgaaDoorRows
import Derived.WalkKit
import Derived.ProofKit
import Derived.OpenShut
import Derived.Lib.SmallJoins
import Derived.ChangeOld
import Derived.Below
import Derived.Test.YtjekjehgmljbgaaDoorMb2
import Derived.Test.YtjekjehgmljbgaaDoorTie
import Derived.Test.YtjekjehgmljbgaaDoorCards
import Derived.LaidMore
import Derived.Stop.Joined
import Derived.SevenTiedAt
set_option linter.unusedVariables false
set_option linter.unusedSimpArgs false
/- The reference's Before: its walks, part one. -/
namespace Go.Proofs.YtjekjehgmljbgaaDoor.T
open Go.RowKit Go.Proofs Go.Eng
set_option maxRecDepth 100000
set_option maxHeartbeats 1000000
set_option linter.unusedVariables false
set_option linter.unusedSimpArgs false

theorem bs40_0  : ∀ w, (Instr.buildSlice 40 0 #[]).run Tryd.prog w = .ok (.slice (some ⟨w.heap.size, 0, none⟩) 0 0) (w.alloc (CB [] 24)) := fun w => by kernel_rfl

section
variable {C : Ctx} {e : Env} {H : List Blk} {d : Option Tmp} {ty : TypeId} {pos : String} {af : Array Edge}
theorem ye_slice_lo {x lo : Operand} {T E : TypeId} {a : Option Addr} {len cap l sz : Nat} {n : Int} {kk : IntKind} (hx : ev e x = .slice a len cap) (hlo : ev e lo = .int kk n) (hn : n = (l : Int)) (hl : l ≤ len)
    (hT : ∀ w, (underlying T).run C.P w = .ok (.slice E) w) (hE : ∀ w, (sizeOf E).run C.P w = .ok sz w) :
    YE C ⟨d, .slice T x (some lo) none none, ty, pos, af, none⟩ e H (.slice (shiftA a l sz cap) (len - l) (cap - l)) := ⟨fun w _ => by
  subst hn
  simp [execOp, hx, hlo, Instr.sliceAt, Instr.slice, Instr.sliceBounds, Instr.sliceBound, asIntOf, hT, hE, shiftA, hl], fun w => rfl⟩
theorem ye_slice_hi {x hi : Operand} {T E : TypeId} {a : Option Addr} {len cap h sz : Nat} {n : Int} {kk : IntKind} (hx : ev e x = .slice a len cap) (hhi : ev e hi = .int kk n) (hn : n = (h : Int)) (hh : h ≤ cap)
    (hT : ∀ w, (underlying T).run C.P w = .ok (.slice E) w) (hE : ∀ w, (sizeOf E).run C.P w = .ok sz w) :
    YE C ⟨d, .slice T x none (some hi) none, ty, pos, af, none⟩ e H (.slice (shiftA a 0 sz cap) h cap) := ⟨fun w _ => by
  subst hn
  simp [execOp, hx, hhi, Instr.sliceAt, Instr.slice, Instr.sliceBounds, Instr.sliceBound, asIntOf, hT, hE, shiftA, hh], fun w => rfl⟩
end
theorem shift_zero {a : Option Addr} {sz cap : Nat} : (∃ b o, a = some ⟨b, o, none⟩) → shiftA a 0 sz cap = a := by
  rintro ⟨b, o, rfl⟩
  by_cases h : cap = 0
  · unfold shiftA; rw [if_pos h]
  · rw [shift_some h, Nat.zero_mul, Nat.add_zero]
section
variable {α : Type} {enc : α → List Value} {sz : Nat} {d : α} {w : World} {a : Option Addr} {n cap : Nat} {xs : List α}
theorem Rws.pre (h : Rws enc sz d w a n cap xs) {k : Nat} (hk : k ≤ n) : Rws enc sz d w (shiftA a 0 sz cap) k cap (xs.take k) :=
  ⟨by rw [List.length_take, h.len]; omega, Nat.le_trans hk h.le, fun j hj => by
    obtain ⟨b, o, rfl, hc⟩ := h.cell j (by omega)
    refine ⟨b, o, shift_zero ⟨_, _, rfl⟩, ?_⟩
    have : (xs.take k).getD j d = xs.getD j d := by simp [List.getD_eq_getElem?_getD, hj]
    rw [this]; exact hc⟩
theorem Rws.suf (h : Rws enc sz d w a n cap xs) {k : Nat} (hk : k ≤ n) : Rws enc sz d w (shiftA a k sz cap) (n - k) (cap - k) (xs.drop k) :=
  ⟨by rw [List.length_drop, h.len], Nat.sub_le_sub_right h.le k, fun j hj => by
    obtain ⟨b, o, rfl, hc⟩ := h.cell (k + j) (by omega)
    have hle := h.le
    refine ⟨b, o + k * sz, shift_some (by omega), ?_⟩
    have : (xs.drop k).getD j d = xs.getD (k + j) d := by simp [List.getD_eq_getElem?_getD]
    rw [this, show o + k * sz + j * sz = o + (k + j) * sz by rw [Nat.add_mul]; omega]
    exact hc⟩
end
theorem rowOf_flat {α : Type} (enc : α → List Value) (d : α) : ∀ xs : List α, rowOf enc (fun k => xs.getD k d) xs.length = xs.flatMap enc := fun xs => by
  unfold rowOf
  have : (List.range xs.length).map (fun k => xs.getD k d) = xs := by
    apply List.ext_getElem
    · simp
    · intro i h1 h2
      simp at h1
      simp [List.getD_eq_getElem?_getD, h1]
  conv => rhs; rw [← this]
  rw [List.flatMap_map]
def lexI : List Int → List Int → Bool
  | x :: xs, y :: ys => if x = y then lexI xs ys else decide (x < y)
  | _, _ => false
theorem lexI_step {xs ys : List Int} {k : Nat} (h : k < xs.length) (h' : k < ys.length) : lexI (xs.drop k) (ys.drop k) = if xs.getD k 0 = ys.getD k 0 then lexI (xs.drop (k + 1)) (ys.drop (k + 1)) else decide (xs.getD k 0 < ys.getD k 0) := by
  rw [List.drop_eq_getElem_cons h, List.drop_eq_getElem_cons h']
  simp [lexI, h, h', List.getD_eq_getElem?_getD]
theorem lexI_co {c : Cn} (hok : c.Ok) {x y : Co} (hx : c.In x) (hy : c.In y) : lexI (c.of x).inn (c.of y).inn = decide (x.lt y) := by
  have h1 := hok.n1
  have h3 := hok.n3
  have zx := hx.z
  have zy := hy.z
  rw [Bool.eq_iff_iff, decide_eq_true_eq]
  unfold Cn.of Co.lt
  obtain h | h | h : c.n = 1 ∨ c.n = 2 ∨ c.n = 3 := by omega
  · have a1 : x.c = 0 := zx 2 (by omega) (by omega)
    have a2 : x.d = 0 := zx 3 (by omega) (by omega)
    have a3 : y.c = 0 := zy 2 (by omega) (by omega)
    have a4 : y.d = 0 := zy 3 (by omega) (by omega)
    simp only [h, List.take_succ_cons, List.take_zero, lexI, a1, a2, a3, a4]
    split <;> simp <;> omega
  · have a2 : x.d = 0 := zx 3 (by omega) (by omega)
    have a4 : y.d = 0 := zy 3 (by omega) (by omega)
    simp only [h, List.take_succ_cons, List.take_zero, lexI, a2, a4]
    (repeat' split) <;> simp <;> omega
  · simp only [h, List.take_succ_cons, List.take_zero, lexI]
    (repeat' split) <;> simp <;> omega
theorem rfirst_any (xa : Option Addr) (xc : Nat) (xs : List Int) (ya : Option Addr) (yc : Nat) (ys : List Int) (w : World) (hn : xs.length ≤ 1000000) (hl : ys.length = xs.length) (hx : Ints w xa xs.length xc xs) (hy : Ints w ya ys.length yc ys) :
    Ct Tryd.prog 124 #[.slice xa xs.length xc, .slice ya ys.length yc] w fun v _ => v = .bool (lexI xs ys) := by
  have hF := wide_wide
  refine Ct_start (args := [_, _]) Tryd.func124 (by rfl) Tryd.ntmps124 (by rfl) ?_
  refine W_seq ?_
  refine W_region_lit (fun ds => ?_)
  refine WS_det hF (by rfl) (y_assign (c := .bool _) (by rfl)) ?_
  refine WS_nil ?_
  refine Then_normal ?_
  refine W_seq ?_
  refine W_seq ?_
  refine W_region_lit (fun ds => ?_)
  refine WS_det hF (by rfl) (y_assign (c := .int .i64 _) (by rfl)) ?_
  refine WS_nil ?_
  refine Then_normal ?_
  refine W_block ?_
  refine W_loop (γ := Nat) (fun k => k ≤ xs.length ∧ lexI (xs.drop k) (ys.drop k) = lexI xs ys) (fun k => [(0, .slice xa xs.length xc), (1, .slice ya ys.length yc), (5, .int .i64 (k : Int))]) (fun _ => _) (fun k => xs.length - k) (0) ⟨Nat.zero_le _, by simp⟩ (by repeat (first | exact trivial | refine ⟨by rfl, ?_⟩)) (List.Sublist.refl _) ?_
  intro k e hk
  refine W_seq ?_
  refine W_seq ?_
  refine W_region_lit (fun ds => ?_)
  refine WS_det hF (by rfl) (y_move (c := .int .i64 _) (by rfl)) ?_
  refine WS_det hF (by rfl) (y_move (c := .slice _ _ _) (by rfl)) ?_
  refine WS_det hF (by rfl) (y_len (by rfl) Tryd.runUnderlying22) ?_
  refine WS_det hF (by rfl) (y_lss (by rfl) (by rfl)) ?_
  refine WS_nil ?_
  refine Then_normal ?_
  refine W_cond (by rfl) (fun c2 => ?_) (fun c2 => ?_)
  ·
    try simp only [Bool.not_eq_true', Bool.not_eq_false', decide_eq_true_eq, decide_eq_false_iff_not, ne_eq, Classical.not_not, Int.not_lt, Int.not_le] at c2
    obtain ⟨b, o, rfl, hc⟩ := hx.cell k (by omega)
    obtain ⟨b', o', rfl, hc'⟩ := hy.cell k (by omega)
    refine W_skip ?_
    refine Then_normal ?_
    refine W_seq ?_
    refine W_block ?_
    refine W_seq ?_
    refine W_draw0 hF Trydmixed [] (by decide +kernel) (fun ds => ?_)
    refine P_det (by rfl) (Over_nil (y_move (c := .slice _ _ _) (by rfl))) ?_
    refine P_det (by rfl) (Over_nil (y_move (c := .int .i64 _) (by rfl))) ?_
    refine P_det (by rfl) (Over_nil (y_index (k := k) (by rfl) (by rfl) (by first | rfl | omega) (by first | decide | omega) Tryd.runUnderlying22 Tryd.sizeOf3)) ?_
    refine P_det (by rfl) (Over_nil (y_load1 (by rfl) Tryd.isAgg3 (by first | exact Mem.old1 (by assumption) | exact Mem.oldAt1 (by assumption) (by rfl) | exact Mem.old (by assumption) | exact Mem.oldAtL1 (by assumption) (by rfl) (by rfl)))) ?_
    refine P_det (by rfl) (Over_nil (y_move (c := .slice _ _ _) (by rfl))) ?_
    refine P_det (by rfl) (Over_nil (y_move (c := .int .i64 _) (by rfl))) ?_
    refine P_det (by rfl) (Over_nil (y_index (k := k) (by rfl) (by rfl) (by first | rfl | omega) (by first | decide | omega) Tryd.runUnderlying22 Tryd.sizeOf3)) ?_
    refine P_det (by rfl) (Over_nil (y_load1 (by rfl) Tryd.isAgg3 (by first | exact Mem.old1 (by assumption) | exact Mem.oldAt1 (by assumption) (by rfl) | exact Mem.old (by assumption) | exact Mem.oldAtL1 (by assumption) (by rfl) (by rfl)))) ?_
    refine P_det (by rfl) (Over_nil (y_neq (by rfl) (by rfl))) ?_
    refine PW_end (by rfl) ?_
    refine OverAll_nil ?_
    rintro -
    refine Then_normal ?_
    refine W_cond (by rfl) (fun c4 => ?_) (fun c4 => ?_)
    ·
      try simp only [Bool.not_eq_true', Bool.not_eq_false', decide_eq_true_eq, decide_eq_false_iff_not, ne_eq, Classical.not_not, Int.not_lt, Int.not_le] at c4
      refine W_seq ?_
      refine W_draw0 hF Trydmixed [] (by decide +kernel) (fun ds => ?_)
      refine P_det (by rfl) (Over_nil (y_move (c := .slice _ _ _) (by rfl))) ?_
      refine P_det (by rfl) (Over_nil (y_move (c := .int .i64 _) (by rfl))) ?_
      refine P_det (by rfl) (Over_nil (y_index (k := k) (by rfl) (by rfl) (by first | rfl | omega) (by first | decide | omega) Tryd.runUnderlying22 Tryd.sizeOf3)) ?_
      refine P_det (by rfl) (Over_nil (y_load1 (by rfl) Tryd.isAgg3 (by first | exact Mem.old1 (by assumption) | exact Mem.oldAt1 (by assumption) (by rfl) | exact Mem.old (by assumption) | exact Mem.oldAtL1 (by assumption) (by rfl) (by rfl)))) ?_
      refine P_det (by rfl) (Over_nil (y_move (c := .slice _ _ _) (by rfl))) ?_
      refine P_det (by rfl) (Over_nil (y_move (c := .int .i64 _) (by rfl))) ?_
      refine P_det (by rfl) (Over_nil (y_index (k := k) (by rfl) (by rfl) (by first | rfl | omega) (by first | decide | omega) Tryd.runUnderlying22 Tryd.sizeOf3)) ?_
      refine P_det (by rfl) (Over_nil (y_load1 (by rfl) Tryd.isAgg3 (by first | exact Mem.old1 (by assumption) | exact Mem.oldAt1 (by assumption) (by rfl) | exact Mem.old (by assumption) | exact Mem.oldAtL1 (by assumption) (by rfl) (by rfl)))) ?_
      refine P_det (by rfl) (Over_nil (y_lss (by rfl) (by rfl))) ?_
      refine P_det (by rfl) (Over_nil (y_assign (c := .bool _) (by rfl))) ?_
      refine PW_end (by rfl) ?_
      refine OverAll_nil ?_
      rintro -
      refine Then_normal ?_
      refine W_ret ?_
      refine InB_ret ?_
      refine Then_ret ?_
      refine Loop_ret ?_
      refine InB_ret ?_
      refine Then_ret ?_
      refine Fin_ret [.bool _] [] Tryd.results124 ⟨by rfl, trivial⟩ HSub.nil ?_
      rw [← hk.2, lexI_step (by omega) (by omega), if_neg c4]; rfl
    ·
      try simp only [Bool.not_eq_true', Bool.not_eq_false', decide_eq_true_eq, decide_eq_false_iff_not, ne_eq, Classical.not_not, Int.not_lt, Int.not_le] at c4
      refine W_skip ?_
      refine InB_normal ?_
      refine Then_normal ?_
      refine W_region_lit (fun ds => ?_)
      refine WS_det hF (by rfl) (y_move (c := .int .i64 _) (by rfl)) ?_
      refine WS_det hF (by rfl) (y_add (by rfl) (by rfl) (by unfold I64; omega)) ?_
      refine WS_det hF (by rfl) (y_assign (c := .int .i64 _) (by rfl)) ?_
      refine WS_nil ?_
      exact Loop_next (k + 1) ⟨by omega, by have h := hk.2; rw [lexI_step (by omega) (by omega), if_pos c4] at h; exact h⟩ (by repeat (first | exact trivial | refine ⟨by rfl, ?_⟩)) (by repeat (first | exact List.Sublist.refl _ | exact List.nil_sublist _ | apply List.Sublist.cons_cons | apply List.Sublist.cons)) (by omega)
  ·
    try simp only [Bool.not_eq_true', Bool.not_eq_false', decide_eq_true_eq, decide_eq_false_iff_not, ne_eq, Classical.not_not, Int.not_lt, Int.not_le] at c2
    refine W_exit ?_
    refine Then_exit ?_
    refine Loop_exit ?_
    refine InB_same ?_
    refine Then_normal ?_
    refine W_seq ?_
    refine W_region_lit (fun ds => ?_)
    refine WS_det hF (by rfl) (y_assign (c := .bool _) (by rfl)) ?_
    refine WS_nil ?_
    refine Then_normal ?_
    refine W_ret ?_
    refine Fin_ret [.bool _] [] Tryd.results124 ⟨by rfl, trivial⟩ HSub.nil ?_
    obtain rfl : k = xs.length := by omega
    rw [← hk.2, List.drop_length]; rfl
def blIns (bs : List Bl) (k : Nat) (y : Bl) : List Bl := bs.take k ++ y :: bs.drop k
theorem blRow_fm (c : Cn) (bs : List Bl) : blRow c bs = bs.flatMap (Bl.cells c) := rowOf_flat _ _ _
theorem bl_one (c : Cn) (bs : List Bl) : (blRow c bs).all Value.oneCell' = true := by
  rw [blRow_fm, List.all_eq_true]
  intro v hv
  obtain ⟨x, _, hx⟩ := List.mem_flatMap.1 hv
  simp only [Bl.cells, List.mem_cons, List.not_mem_nil, or_false] at hx
  rcases hx with rfl | rfl | rfl <;> rfl
structure Bl.Rd (c : Cn) (w : World) (b : Bl) : Prop where
  inn : c.In b.x
  i : Ints w b.i (c.of b.x).inn.length b.ki (c.of b.x).inn
theorem radded_any (c : Cn) (hok : c.Ok) (bs : List Bl) (y : Bl) (a : Option Addr) (cap m : Nat) (w : World) (hb : Rws (Bl.cells c) 3 Bl.z w a bs.length cap bs) (hl : bs.length ≤ 1000) (hi : ∀ b ∈ bs, b.Rd c w) (hy : y.Rd c w) (hkm : m ≤ bs.length) (hk1 : ∀ j, j < m → (bs.getD j Bl.z).x.lt y.x) (hk2 : m < bs.length → ¬ (bs.getD m Bl.z).x.lt y.x) :
    Ct Tryd.prog 91 #[.slice a bs.length cap, .agg (y.cells c).toArray] w fun v Hn => ∃ a' cap', v = .slice a' (bs.length + 1) cap' ∧ NewRow 24 3 (bs.length + 1) (blRow c (blIns bs m y)) (.slice a' (bs.length + 1) cap') Hn := by
  have hn3 := hok.n3
  have hbc := hb.le
  have hmem : ∀ j, j < bs.length → bs.getD j Bl.z ∈ bs := fun j hj => by rw [List.getD_eq_getElem?_getD, List.getElem?_eq_getElem hj]; exact List.getElem_mem _
  have hF := wide_wide
  refine Ct_start (args := [_, _]) Tryd.func91 (by rfl) Tryd.ntmps91 (by rfl) ?_
  refine W_seq ?_
  refine W_region_lit (fun ds => ?_)
  refine WS_new hF (by rfl) (y_box (by rfl)) (fun b1 => ?_)
  refine WS_det hF (by rfl) (y_assign (c := .slice _ _ _) (by rfl)) ?_
  refine WS_nil ?_
  refine Then_normal ?_
  refine W_seq ?_
  refine W_region_lit (fun ds => ?_)
  refine WS_det hF (by rfl) (y_assign (c := .int .i64 _) (by rfl)) ?_
  refine WS_nil ?_
  refine Then_normal ?_
  refine W_seq ?_
  refine W_block ?_
  refine W_loop (γ := Nat) (fun k => k ≤ m) (fun k => [(0, .slice a bs.length cap), (3, .pointer (some ⟨b1, 0, none⟩)), (5, .int .i64 (k : Int))]) (fun _ => _) (fun k => m + 1 - k) (0) (Nat.zero_le _) (by repeat (first | exact trivial | refine ⟨by rfl, ?_⟩)) (List.Sublist.refl _) ?_
  intro k e hk
  refine W_seq ?_
  refine W_seq ?_
  refine W_draw0 hF Trydmixed [] (by decide +kernel) (fun ds => ?_)
  refine P_det (by rfl) (Over_nil (y_move (c := .int .i64 _) (by rfl))) ?_
  refine P_det (by rfl) (Over_nil (y_move (c := .slice _ _ _) (by rfl))) ?_
  refine P_det (by rfl) (Over_nil (y_len (by rfl) Tryd.runUnderlying40)) ?_
  refine P_det (by rfl) (Over_nil (y_lss (by rfl) (by rfl))) ?_
  refine P_det (by rfl) (Over_nil (y_move (c := .bool _) (by rfl))) ?_
  refine P_split 10 (by rfl) (fun g2_4 => ?_) (fun g2_4 => ?_)
  ·
    try simp only [Bool.not_eq_true', Bool.not_eq_false', decide_eq_true_eq, decide_eq_false_iff_not, ne_eq, Classical.not_not, Int.not_lt, Int.not_le] at g2_4
    have hjl : k < bs.length := by omega
    obtain ⟨b, o, rfl, hc⟩ := hb.cell k hjl
    have hbj := hi _ (hmem k hjl)
    refine P_det (by rfl) (Over_nil (y_move (c := .slice _ _ _) (by rfl))) ?_
    refine P_det (by rfl) (Over_nil (y_move (c := .int .i64 _) (by rfl))) ?_
    refine P_det (by rfl) (Over_nil (y_index (k := k) (by rfl) (by rfl) (by first | rfl | omega) (by first | decide | omega) Tryd.runUnderlying40 Tryd.sizeOf24)) ?_
    refine P_det (by rfl) (Over_nil (y_fieldAddr (by rfl) fa24_1)) ?_
    refine P_det (by rfl) (Over_nil (y_load1 (by rfl) Tryd.isAgg22 (Mem.old ⟨hc.2.1, trivial⟩))) ?_
    refine P_det (by rfl) (Over_nil (y_fieldAddr (by rfl) fa24_1)) ?_
    refine P_det (by rfl) (Over_nil (y_load1 (by rfl) Tryd.isAgg22 (Mem.own1 0 (by rfl) (by rfl)))) ?_
    refine P_det (by rfl) (Over_nil (y_callL (by rfl) (by rfl) Tryd.call124 (fun w hw => Ct_eq (rfirst_any _ _ (c.of (bs.getD k Bl.z).x).inn _ _ (c.of y.x).inn w (by rw [c.of_len _ hn3]; omega) (by rw [c.of_len _ hn3, c.of_len _ hn3]) (hbj.i.st w hw) (hy.i.st w hw)) (congrArg Value.bool (lexI_co hok hbj.inn hy.inn))))) ?_
    refine P_det (by rfl) (Over_nil (by first | exact y_pick_t (c := .bool _) (by rfl) (by rfl) | exact y_pick_f (c := .bool _) (by rfl) (by rfl))) ?_
    refine PW_end (by rfl) ?_
    refine OverAll_nil ?_
    rintro -
    refine Then_normal ?_
    refine W_cond (by rfl) (fun c2 => ?_) (fun c2 => ?_)
    ·
      try simp only [Bool.not_eq_true', Bool.not_eq_false', decide_eq_true_eq, decide_eq_false_iff_not, ne_eq, Classical.not_not, Int.not_lt, Int.not_le] at c2
      have hjk : k < m := by
        refine Nat.lt_of_le_of_ne hk fun e => ?_
        subst e
        exact hk2 (by omega) c2
      refine W_skip ?_
      refine Then_normal ?_
      refine W_block ?_
      refine W_region_lit (fun ds => ?_)
      refine WS_det hF (by rfl) (y_move (c := .int .i64 _) (by rfl)) ?_
      refine WS_det hF (by rfl) (y_add (by rfl) (by rfl) (by unfold I64; omega)) ?_
      refine WS_det hF (by rfl) (y_assign (c := .int .i64 _) (by rfl)) ?_
      refine WS_nil ?_
      refine InB_normal ?_
      exact Loop_next (k + 1) (by omega) (by repeat (first | exact trivial | refine ⟨by rfl, ?_⟩)) sbA (by omega)
    ·
      try simp only [Bool.not_eq_true', Bool.not_eq_false', decide_eq_true_eq, decide_eq_false_iff_not, ne_eq, Classical.not_not, Int.not_lt, Int.not_le] at c2
      obtain rfl : k = m := by
        refine Classical.byContradiction fun hne => ?_
        have hlt : k < m := by omega
        first
          | exact c2 (hk1 k hlt)
          | omega
      refine W_exit ?_
      refine Then_exit ?_
      refine Loop_exit ?_
      refine InB_same ?_
      refine Then_normal ?_
      refine W_seq ?_
      refine W_tailH 12 Trydmixed (fun e2 H2 => ∃ a' cap' Hn', NewRow 24 3 (bs.length + 1) (blRow c (blIns bs k y)) (.slice a' (bs.length + 1) cap') Hn' ∧ Slots e2 [(33, .slice a' (bs.length + 1) cap')] ∧ HSub H2 Hn') (by decide +kernel) (fun ds e2 H2 hmid => ?_) (fun ds => ?_)
      ·
        obtain ⟨a', cap', Hn', hr9, hsl, hsb⟩ := hmid
        rw [← hsl.sets]
        refine WS_sub hsb ?_
        refine WS_det hF (by rfl) (y_assign (c := .slice _ _ _) (by rfl)) ?_
        refine WS_nil ?_
        refine Then_normal ?_
        refine W_ret ?_
        refine Fin_ret [.slice _ _ _] Hn' Tryd.results91 ⟨by rfl, trivial⟩ (HSub.sub sbA) ?_
        exact ⟨a', cap', rfl, hr9⟩
      ·
        refine WH_take 1 (by decide +kernel) (by rfl) (by decide +kernel) (by decide +kernel) (by rfl) (ye_move (c := .slice _ _ _) (by rfl)) ?_
        refine WH_take 2 (by decide +kernel) (by rfl) (by decide +kernel) (by decide +kernel) (by rfl) (ye_move (c := .int .i64 _) (by rfl)) ?_
        refine WH_take 3 (by decide +kernel) (by rfl) (by decide +kernel) (by decide +kernel) (by rfl) (ye_slice_hi  (by rfl) (by rfl) (by first | rfl | omega) (by first | decide | omega) Tryd.runUnderlying40 Tryd.sizeOf24) ?_
        refine WH_take 5 (by decide +kernel) (by rfl) (by decide +kernel) (by decide +kernel) (by rfl) (ye_loadN (by rfl) Tryd.isAgg24 Tryd.sizeOf24 (Mem.own (us := [.slice _ _ _, .slice _ _ _, .int .i64 _]) 0 (by rfl) (by rfl)) (by rfl)) ?_
        refine WH_take 8 (by decide +kernel) (by rfl) (by decide +kernel) (by decide +kernel) (by rfl) (ye_move (c := .slice _ _ _) (by rfl)) ?_
        refine WH_take 9 (by decide +kernel) (by rfl) (by decide +kernel) (by decide +kernel) (by rfl) (ye_move (c := .int .i64 _) (by rfl)) ?_
        refine WH_take 10 (by decide +kernel) (by rfl) (by decide +kernel) (by decide +kernel) (by rfl) (ye_slice_lo  (by rfl) (by rfl) (by first | rfl | omega) (by first | decide | omega) Tryd.runUnderlying40 Tryd.sizeOf24) ?_
        refine WH_step2 0 6 (by decide +kernel) (fun _ h => St.sub h sbA) (by rfl) (by rfl) ?_ ?_
        ·
          refine WS_newS hF (by rfl) (y_buildSliceL bs40_0 (by rfl)) (fun bz => ?_)
          refine WS_nil ?_
          refine WH_step2 4 6 (by decide +kernel) (fun _ h => St.sub h sbA) (by rfl) (by rfl) ?_ ?_
          ·
            refine WS_gen hF (by rfl) (y_append0 (by rfl) (by rfl) Tryd.underlying40 infCans (by rfl) (Rws.src (bl_len c) (hb.pre hkm)) (by rw [rowOf_len (bl_len c)]) (by omega) (by omega)) ?_
            rintro _ H1 hr1
            obtain ⟨a5, cap5, rfl, hr1⟩ := NewRow.sl hr1
            refine WS_nil ?_
            refine WH_step1 6 (by decide +kernel) (fun _ h => St.sub h sbA) (by rfl) ?_
            ·
              refine WS_newS hF (by rfl) (y_buildSliceL bs40_1_0 (by rfl)) (fun by_ => ?_)
              refine WS_nil ?_
              refine WH_step1 7 (by decide +kernel) (fun _ h => St.sub h sbA) (by rfl) ?_
              ·
                refine WS_pullE H1 (by repeat (first | exact PulE.hd | exact PulE.snd | exact PulE.one | apply PulE.cons | apply PulE.app)) ?_
                refine WS_appendN hF (H1 := (_ :: _ :: _ :: [])) (Hn := H1) (news := y.cells c) (by rfl) (by rfl) (by rfl) Tryd.underlying40 infCans (by rfl) (by rfl) hr1 (rowOf_len (bl_len c) _ _) (.inr ⟨by_, 0, rfl, Mem.own (us := y.cells c) 0 (by rfl) (by rfl)⟩) (by rfl) (by rfl) (by omega) (by omega) (by omega) ?_
                intro a6 cap6 H6 hr6
                obtain ⟨_, _, he6, hR6⟩ := NewRow.row hr6 (by rw [List.length_append, rowOf_len (bl_len c), Nat.add_mul]; rfl) (by omega)
                cases he6
                refine WS_nil ?_
                refine WH_step1 11 (by decide +kernel) (fun _ h => St.sub h sbA) (by rfl) ?_
                ·
                  refine WS_appendE hF (H1 := (_ :: _ :: _ :: [])) (Hn := H6) (by rfl) (by rfl) (by rfl) Tryd.underlying40 infCans (by rfl) (by rfl) hR6 (Rws.src (bl_len c) (hb.suf hkm)) (by rw [rowOf_len (bl_len c)]) (by rw [show bs.length - k = (bs.drop k).length from List.length_drop.symm]; exact bl_one c _) (by omega) (by omega) ?_
                  intro a7 cap7 H7 hR7
                  have hr9 : NewRow 24 3 (bs.length + 1) (blRow c (blIns bs k y)) (.slice a7 (bs.length + 1) cap7) H7 := by
                    have e1 : rowOf (Bl.cells c) (fun i => (bs.take k).getD i Bl.z) k = (bs.take k).flatMap (Bl.cells c) := by
                      have := rowOf_flat (Bl.cells c) Bl.z (bs.take k)
                      rwa [show (bs.take k).length = k by rw [List.length_take]; omega] at this
                    have e2 : rowOf (Bl.cells c) (fun i => (bs.drop k).getD i Bl.z) (bs.length - k) = (bs.drop k).flatMap (Bl.cells c) := by
                      have := rowOf_flat (Bl.cells c) Bl.z (bs.drop k)
                      rwa [List.length_drop] at this
                    have hrow := Row.newRow hR7 (by omega)
                    rw [show k + 1 + (bs.length - k) = bs.length + 1 by omega, e1, e2] at hrow
                    rw [blRow_fm]
                    unfold blIns
                    rw [List.flatMap_append, List.flatMap_cons, ← List.append_assoc]
                    exact hrow
                  rw [show k + 1 + (bs.length - k) = bs.length + 1 by omega]
                  refine WS_nil ?_
                  refine WH_done (by decide +kernel) (fun _ h => St.sub h sbA) ?_
                  exact ⟨_, _, _, hr9, (by repeat (first | exact trivial | refine ⟨by rfl, ?_⟩ | refine ⟨congrArg (Value.int _) (by first | omega | (simp only; omega) | (push_cast; omega)), ?_⟩)), HSub.sub sbA⟩
          ·
            refine WS_newS hF (by rfl) (y_buildSliceL bs40_1_0 (by rfl)) (fun by_ => ?_)
            refine WS_nil ?_
            refine WH_step1 4 (by decide +kernel) (fun _ h => St.sub h sbA) (by rfl) ?_
            ·
              refine WS_gen hF (by rfl) (y_append0 (by rfl) (by rfl) Tryd.underlying40 infCans (by rfl) (Rws.src (bl_len c) (hb.pre hkm)) (by rw [rowOf_len (bl_len c)]) (by omega) (by omega)) ?_
              rintro _ H1 hr1
              obtain ⟨a5, cap5, rfl, hr1⟩ := NewRow.sl hr1
              refine WS_nil ?_
              refine WH_step1 7 (by decide +kernel) (fun _ h => St.sub h sbA) (by rfl) ?_
              ·
                refine WS_pullE H1 (by repeat (first | exact PulE.hd | exact PulE.snd | exact PulE.one | apply PulE.cons | apply PulE.app)) ?_
                refine WS_appendN hF (H1 := (_ :: _ :: _ :: [])) (Hn := H1) (news := y.cells c) (by rfl) (by rfl) (by rfl) Tryd.underlying40 infCans (by rfl) (by rfl) hr1 (rowOf_len (bl_len c) _ _) (.inr ⟨by_, 0, rfl, Mem.own (us := y.cells c) 0 (by rfl) (by rfl)⟩) (by rfl) (by rfl) (by omega) (by omega) (by omega) ?_
                intro a6 cap6 H6 hr6
                obtain ⟨_, _, he6, hR6⟩ := NewRow.row hr6 (by rw [List.length_append, rowOf_len (bl_len c), Nat.add_mul]; rfl) (by omega)
                cases he6
                refine WS_nil ?_
                refine WH_step1 11 (by decide +kernel) (fun _ h => St.sub h sbA) (by rfl) ?_
                ·
                  refine WS_appendE hF (H1 := (_ :: _ :: _ :: [])) (Hn := H6) (by rfl) (by rfl) (by rfl) Tryd.underlying40 infCans (by rfl) (by rfl) hR6 (Rws.src (bl_len c) (hb.suf hkm)) (by rw [rowOf_len (bl_len c)]) (by rw [show bs.length - k = (bs.drop k).length from List.length_drop.symm]; exact bl_one c _) (by omega) (by omega) ?_
                  intro a7 cap7 H7 hR7
                  have hr9 : NewRow 24 3 (bs.length + 1) (blRow c (blIns bs k y)) (.slice a7 (bs.length + 1) cap7) H7 := by
                    have e1 : rowOf (Bl.cells c) (fun i => (bs.take k).getD i Bl.z) k = (bs.take k).flatMap (Bl.cells c) := by
                      have := rowOf_flat (Bl.cells c) Bl.z (bs.take k)
                      rwa [show (bs.take k).length = k by rw [List.length_take]; omega] at this
                    have e2 : rowOf (Bl.cells c) (fun i => (bs.drop k).getD i Bl.z) (bs.length - k) = (bs.drop k).flatMap (Bl.cells c) := by
                      have := rowOf_flat (Bl.cells c) Bl.z (bs.drop k)
                      rwa [List.length_drop] at this
                    have hrow := Row.newRow hR7 (by omega)
                    rw [show k + 1 + (bs.length - k) = bs.length + 1 by omega, e1, e2] at hrow
                    rw [blRow_fm]
                    unfold blIns
                    rw [List.flatMap_append, List.flatMap_cons, ← List.append_assoc]
                    exact hrow
                  rw [show k + 1 + (bs.length - k) = bs.length + 1 by omega]
                  refine WS_nil ?_
                  refine WH_done (by decide +kernel) (fun _ h => St.sub h sbA) ?_
                  exact ⟨_, _, _, hr9, (by repeat (first | exact trivial | refine ⟨by rfl, ?_⟩ | refine ⟨congrArg (Value.int _) (by first | omega | (simp only; omega) | (push_cast; omega)), ?_⟩)), HSub.sub sbA⟩
        ·
          refine WS_newS hF (by rfl) (y_buildSliceL bs40_1_0 (by rfl)) (fun by_ => ?_)
          refine WS_nil ?_
          refine WH_step1 0 (by decide +kernel) (fun _ h => St.sub h sbA) (by rfl) ?_
          ·
            refine WS_newS hF (by rfl) (y_buildSliceL bs40_0 (by rfl)) (fun bz => ?_)
            refine WS_nil ?_
            refine WH_step1 4 (by decide +kernel) (fun _ h => St.sub h sbA) (by rfl) ?_
            ·
              refine WS_gen hF (by rfl) (y_append0 (by rfl) (by rfl) Tryd.underlying40 infCans (by rfl) (Rws.src (bl_len c) (hb.pre hkm)) (by rw [rowOf_len (bl_len c)]) (by omega) (by omega)) ?_
              rintro _ H1 hr1
              obtain ⟨a5, cap5, rfl, hr1⟩ := NewRow.sl hr1
              refine WS_nil ?_
              refine WH_step1 7 (by decide +kernel) (fun _ h => St.sub h sbA) (by rfl) ?_
              ·
                refine WS_pullE H1 (by repeat (first | exact PulE.hd | exact PulE.snd | exact PulE.one | apply PulE.cons | apply PulE.app)) ?_
                refine WS_appendN hF (H1 := (_ :: _ :: _ :: [])) (Hn := H1) (news := y.cells c) (by rfl) (by rfl) (by rfl) Tryd.underlying40 infCans (by rfl) (by rfl) hr1 (rowOf_len (bl_len c) _ _) (.inr ⟨by_, 0, rfl, Mem.own (us := y.cells c) 1 (by rfl) (by rfl)⟩) (by rfl) (by rfl) (by omega) (by omega) (by omega) ?_
                intro a6 cap6 H6 hr6
                obtain ⟨_, _, he6, hR6⟩ := NewRow.row hr6 (by rw [List.length_append, rowOf_len (bl_len c), Nat.add_mul]; rfl) (by omega)
                cases he6
                refine WS_nil ?_
                refine WH_step1 11 (by decide +kernel) (fun _ h => St.sub h sbA) (by rfl) ?_
                ·
                  refine WS_appendE hF (H1 := (_ :: _ :: _ :: [])) (Hn := H6) (by rfl) (by rfl) (by rfl) Tryd.underlying40 infCans (by rfl) (by rfl) hR6 (Rws.src (bl_len c) (hb.suf hkm)) (by rw [rowOf_len (bl_len c)]) (by rw [show bs.length - k = (bs.drop k).length from List.length_drop.symm]; exact bl_one c _) (by omega) (by omega) ?_
                  intro a7 cap7 H7 hR7
                  have hr9 : NewRow 24 3 (bs.length + 1) (blRow c (blIns bs k y)) (.slice a7 (bs.length + 1) cap7) H7 := by
                    have e1 : rowOf (Bl.cells c) (fun i => (bs.take k).getD i Bl.z) k = (bs.take k).flatMap (Bl.cells c) := by
                      have := rowOf_flat (Bl.cells c) Bl.z (bs.take k)
                      rwa [show (bs.take k).length = k by rw [List.length_take]; omega] at this
                    have e2 : rowOf (Bl.cells c) (fun i => (bs.drop k).getD i Bl.z) (bs.length - k) = (bs.drop k).flatMap (Bl.cells c) := by
                      have := rowOf_flat (Bl.cells c) Bl.z (bs.drop k)
                      rwa [List.length_drop] at this
                    have hrow := Row.newRow hR7 (by omega)
                    rw [show k + 1 + (bs.length - k) = bs.length + 1 by omega, e1, e2] at hrow
                    rw [blRow_fm]
                    unfold blIns
                    rw [List.flatMap_append, List.flatMap_cons, ← List.append_assoc]
                    exact hrow
                  rw [show k + 1 + (bs.length - k) = bs.length + 1 by omega]
                  refine WS_nil ?_
                  refine WH_done (by decide +kernel) (fun _ h => St.sub h sbA) ?_
                  exact ⟨_, _, _, hr9, (by repeat (first | exact trivial | refine ⟨by rfl, ?_⟩ | refine ⟨congrArg (Value.int _) (by first | omega | (simp only; omega) | (push_cast; omega)), ?_⟩)), HSub.sub sbA⟩
  ·
    try simp only [Bool.not_eq_true', Bool.not_eq_false', decide_eq_true_eq, decide_eq_false_iff_not, ne_eq, Classical.not_not, Int.not_lt, Int.not_le] at g2_4
    refine P_no (by rfl) ?_
    refine P_no (by rfl) ?_
    refine P_no (by rfl) ?_
    refine P_no (by rfl) ?_
    refine P_no (by rfl) ?_
    refine P_no (by rfl) ?_
    refine P_no (by rfl) ?_
    refine P_no (by rfl) ?_
    refine P_det (by rfl) (Over_nil (by first | exact y_pick_t (c := .bool _) (by rfl) (by rfl) | exact y_pick_f (c := .bool _) (by rfl) (by rfl))) ?_
    refine PW_end (by rfl) ?_
    refine OverAll_nil ?_
    rintro -
    refine Then_normal ?_
    refine W_cond (by rfl) (fun c2 => ?_) (fun c2 => ?_)
    · cases c2
    ·
      try simp only [Bool.not_eq_true', Bool.not_eq_false', decide_eq_true_eq, decide_eq_false_iff_not, ne_eq, Classical.not_not, Int.not_lt, Int.not_le] at c2
      obtain rfl : k = m := by
        refine Classical.byContradiction fun hne => ?_
        have hlt : k < m := by omega
        first
          | exact c2 (hk1 k hlt)
          | omega
      refine W_exit ?_
      refine Then_exit ?_
      refine Loop_exit ?_
      refine InB_same ?_
      refine Then_normal ?_
      refine W_seq ?_
      refine W_tailH 12 Trydmixed (fun e2 H2 => ∃ a' cap' Hn', NewRow 24 3 (bs.length + 1) (blRow c (blIns bs k y)) (.slice a' (bs.length + 1) cap') Hn' ∧ Slots e2 [(33, .slice a' (bs.length + 1) cap')] ∧ HSub H2 Hn') (by decide +kernel) (fun ds e2 H2 hmid => ?_) (fun ds => ?_)
      ·
        obtain ⟨a', cap', Hn', hr9, hsl, hsb⟩ := hmid
        rw [← hsl.sets]
        refine WS_sub hsb ?_
        refine WS_det hF (by rfl) (y_assign (c := .slice _ _ _) (by rfl)) ?_
        refine WS_nil ?_
        refine Then_normal ?_
        refine W_ret ?_
        refine Fin_ret [.slice _ _ _] Hn' Tryd.results91 ⟨by rfl, trivial⟩ (HSub.sub sbA) ?_
        exact ⟨a', cap', rfl, hr9⟩
      ·
        refine WH_take 1 (by decide +kernel) (by rfl) (by decide +kernel) (by decide +kernel) (by rfl) (ye_move (c := .slice _ _ _) (by rfl)) ?_
        refine WH_take 2 (by decide +kernel) (by rfl) (by decide +kernel) (by decide +kernel) (by rfl) (ye_move (c := .int .i64 _) (by rfl)) ?_
        refine WH_take 3 (by decide +kernel) (by rfl) (by decide +kernel) (by decide +kernel) (by rfl) (ye_slice_hi  (by rfl) (by rfl) (by first | rfl | omega) (by first | decide | omega) Tryd.runUnderlying40 Tryd.sizeOf24) ?_
        refine WH_take 5 (by decide +kernel) (by rfl) (by decide +kernel) (by decide +kernel) (by rfl) (ye_loadN (by rfl) Tryd.isAgg24 Tryd.sizeOf24 (Mem.own (us := [.slice _ _ _, .slice _ _ _, .int .i64 _]) 0 (by rfl) (by rfl)) (by rfl)) ?_
        refine WH_take 8 (by decide +kernel) (by rfl) (by decide +kernel) (by decide +kernel) (by rfl) (ye_move (c := .slice _ _ _) (by rfl)) ?_
        refine WH_take 9 (by decide +kernel) (by rfl) (by decide +kernel) (by decide +kernel) (by rfl) (ye_move (c := .int .i64 _) (by rfl)) ?_
        refine WH_take 10 (by decide +kernel) (by rfl) (by decide +kernel) (by decide +kernel) (by rfl) (ye_slice_lo  (by rfl) (by rfl) (by first | rfl | omega) (by first | decide | omega) Tryd.runUnderlying40 Tryd.sizeOf24) ?_
        refine WH_step2 0 6 (by decide +kernel) (fun _ h => St.sub h sbA) (by rfl) (by rfl) ?_ ?_
        ·
          refine WS_newS hF (by rfl) (y_buildSliceL bs40_0 (by rfl)) (fun bz => ?_)
          refine WS_nil ?_
          refine WH_step2 4 6 (by decide +kernel) (fun _ h => St.sub h sbA) (by rfl) (by rfl) ?_ ?_
          ·
            refine WS_gen hF (by rfl) (y_append0 (by rfl) (by rfl) Tryd.underlying40 infCans (by rfl) (Rws.src (bl_len c) (hb.pre hkm)) (by rw [rowOf_len (bl_len c)]) (by omega) (by omega)) ?_
            rintro _ H1 hr1
            obtain ⟨a5, cap5, rfl, hr1⟩ := NewRow.sl hr1
            refine WS_nil ?_
            refine WH_step1 6 (by decide +kernel) (fun _ h => St.sub h sbA) (by rfl) ?_
            ·
              refine WS_newS hF (by rfl) (y_buildSliceL bs40_1_0 (by rfl)) (fun by_ => ?_)
              refine WS_nil ?_
              refine WH_step1 7 (by decide +kernel) (fun _ h => St.sub h sbA) (by rfl) ?_
              ·
                refine WS_pullE H1 (by repeat (first | exact PulE.hd | exact PulE.snd | exact PulE.one | apply PulE.cons | apply PulE.app)) ?_
                refine WS_appendN hF (H1 := (_ :: _ :: _ :: [])) (Hn := H1) (news := y.cells c) (by rfl) (by rfl) (by rfl) Tryd.underlying40 infCans (by rfl) (by rfl) hr1 (rowOf_len (bl_len c) _ _) (.inr ⟨by_, 0, rfl, Mem.own (us := y.cells c) 0 (by rfl) (by rfl)⟩) (by rfl) (by rfl) (by omega) (by omega) (by omega) ?_
                intro a6 cap6 H6 hr6
                obtain ⟨_, _, he6, hR6⟩ := NewRow.row hr6 (by rw [List.length_append, rowOf_len (bl_len c), Nat.add_mul]; rfl) (by omega)
                cases he6
                refine WS_nil ?_
                refine WH_step1 11 (by decide +kernel) (fun _ h => St.sub h sbA) (by rfl) ?_
                ·
                  refine WS_appendE hF (H1 := (_ :: _ :: _ :: [])) (Hn := H6) (by rfl) (by rfl) (by rfl) Tryd.underlying40 infCans (by rfl) (by rfl) hR6 (Rws.src (bl_len c) (hb.suf hkm)) (by rw [rowOf_len (bl_len c)]) (by rw [show bs.length - k = (bs.drop k).length from List.length_drop.symm]; exact bl_one c _) (by omega) (by omega) ?_
                  intro a7 cap7 H7 hR7
                  have hr9 : NewRow 24 3 (bs.length + 1) (blRow c (blIns bs k y)) (.slice a7 (bs.length + 1) cap7) H7 := by
                    have e1 : rowOf (Bl.cells c) (fun i => (bs.take k).getD i Bl.z) k = (bs.take k).flatMap (Bl.cells c) := by
                      have := rowOf_flat (Bl.cells c) Bl.z (bs.take k)
                      rwa [show (bs.take k).length = k by rw [List.length_take]; omega] at this
                    have e2 : rowOf (Bl.cells c) (fun i => (bs.drop k).getD i Bl.z) (bs.length - k) = (bs.drop k).flatMap (Bl.cells c) := by
                      have := rowOf_flat (Bl.cells c) Bl.z (bs.drop k)
                      rwa [List.length_drop] at this
                    have hrow := Row.newRow hR7 (by omega)
                    rw [show k + 1 + (bs.length - k) = bs.length + 1 by omega, e1, e2] at hrow
                    rw [blRow_fm]
                    unfold blIns
                    rw [List.flatMap_append, List.flatMap_cons, ← List.append_assoc]
                    exact hrow
                  rw [show k + 1 + (bs.length - k) = bs.length + 1 by omega]
                  refine WS_nil ?_
                  refine WH_done (by decide +kernel) (fun _ h => St.sub h sbA) ?_
                  exact ⟨_, _, _, hr9, (by repeat (first | exact trivial | refine ⟨by rfl, ?_⟩ | refine ⟨congrArg (Value.int _) (by first | omega | (simp only; omega) | (push_cast; omega)), ?_⟩)), HSub.sub sbA⟩
          ·
            refine WS_newS hF (by rfl) (y_buildSliceL bs40_1_0 (by rfl)) (fun by_ => ?_)
            refine WS_nil ?_
            refine WH_step1 4 (by decide +kernel) (fun _ h => St.sub h sbA) (by rfl) ?_
            ·
              refine WS_gen hF (by rfl) (y_append0 (by rfl) (by rfl) Tryd.underlying40 infCans (by rfl) (Rws.src (bl_len c) (hb.pre hkm)) (by rw [rowOf_len (bl_len c)]) (by omega) (by omega)) ?_
              rintro _ H1 hr1
              obtain ⟨a5, cap5, rfl, hr1⟩ := NewRow.sl hr1
              refine WS_nil ?_
              refine WH_step1 7 (by decide +kernel) (fun _ h => St.sub h sbA) (by rfl) ?_
              ·
                refine WS_pullE H1 (by repeat (first | exact PulE.hd | exact PulE.snd | exact PulE.one | apply PulE.cons | apply PulE.app)) ?_
                refine WS_appendN hF (H1 := (_ :: _ :: _ :: [])) (Hn := H1) (news := y.cells c) (by rfl) (by rfl) (by rfl) Tryd.underlying40 infCans (by rfl) (by rfl) hr1 (rowOf_len (bl_len c) _ _) (.inr ⟨by_, 0, rfl, Mem.own (us := y.cells c) 0 (by rfl) (by rfl)⟩) (by rfl) (by rfl) (by omega) (by omega) (by omega) ?_
                intro a6 cap6 H6 hr6
                obtain ⟨_, _, he6, hR6⟩ := NewRow.row hr6 (by rw [List.length_append, rowOf_len (bl_len c), Nat.add_mul]; rfl) (by omega)
                cases he6
                refine WS_nil ?_
                refine WH_step1 11 (by decide +kernel) (fun _ h => St.sub h sbA) (by rfl) ?_
                ·
                  refine WS_appendE hF (H1 := (_ :: _ :: _ :: [])) (Hn := H6) (by rfl) (by rfl) (by rfl) Tryd.underlying40 infCans (by rfl) (by rfl) hR6 (Rws.src (bl_len c) (hb.suf hkm)) (by rw [rowOf_len (bl_len c)]) (by rw [show bs.length - k = (bs.drop k).length from List.length_drop.symm]; exact bl_one c _) (by omega) (by omega) ?_
                  intro a7 cap7 H7 hR7
                  have hr9 : NewRow 24 3 (bs.length + 1) (blRow c (blIns bs k y)) (.slice a7 (bs.length + 1) cap7) H7 := by
                    have e1 : rowOf (Bl.cells c) (fun i => (bs.take k).getD i Bl.z) k = (bs.take k).flatMap (Bl.cells c) := by
                      have := rowOf_flat (Bl.cells c) Bl.z (bs.take k)
                      rwa [show (bs.take k).length = k by rw [List.length_take]; omega] at this
                    have e2 : rowOf (Bl.cells c) (fun i => (bs.drop k).getD i Bl.z) (bs.length - k) = (bs.drop k).flatMap (Bl.cells c) := by
                      have := rowOf_flat (Bl.cells c) Bl.z (bs.drop k)
                      rwa [List.length_drop] at this
                    have hrow := Row.newRow hR7 (by omega)
                    rw [show k + 1 + (bs.length - k) = bs.length + 1 by omega, e1, e2] at hrow
                    rw [blRow_fm]
                    unfold blIns
                    rw [List.flatMap_append, List.flatMap_cons, ← List.append_assoc]
                    exact hrow
                  rw [show k + 1 + (bs.length - k) = bs.length + 1 by omega]
                  refine WS_nil ?_
                  refine WH_done (by decide +kernel) (fun _ h => St.sub h sbA) ?_
                  exact ⟨_, _, _, hr9, (by repeat (first | exact trivial | refine ⟨by rfl, ?_⟩ | refine ⟨congrArg (Value.int _) (by first | omega | (simp only; omega) | (push_cast; omega)), ?_⟩)), HSub.sub sbA⟩
        ·
          refine WS_newS hF (by rfl) (y_buildSliceL bs40_1_0 (by rfl)) (fun by_ => ?_)
          refine WS_nil ?_
          refine WH_step1 0 (by decide +kernel) (fun _ h => St.sub h sbA) (by rfl) ?_
          ·
            refine WS_newS hF (by rfl) (y_buildSliceL bs40_0 (by rfl)) (fun bz => ?_)
            refine WS_nil ?_
            refine WH_step1 4 (by decide +kernel) (fun _ h => St.sub h sbA) (by rfl) ?_
            ·
              refine WS_gen hF (by rfl) (y_append0 (by rfl) (by rfl) Tryd.underlying40 infCans (by rfl) (Rws.src (bl_len c) (hb.pre hkm)) (by rw [rowOf_len (bl_len c)]) (by omega) (by omega)) ?_
              rintro _ H1 hr1
              obtain ⟨a5, cap5, rfl, hr1⟩ := NewRow.sl hr1
              refine WS_nil ?_
              refine WH_step1 7 (by decide +kernel) (fun _ h => St.sub h sbA) (by rfl) ?_
              ·
                refine WS_pullE H1 (by repeat (first | exact PulE.hd | exact PulE.snd | exact PulE.one | apply PulE.cons | apply PulE.app)) ?_
                refine WS_appendN hF (H1 := (_ :: _ :: _ :: [])) (Hn := H1) (news := y.cells c) (by rfl) (by rfl) (by rfl) Tryd.underlying40 infCans (by rfl) (by rfl) hr1 (rowOf_len (bl_len c) _ _) (.inr ⟨by_, 0, rfl, Mem.own (us := y.cells c) 1 (by rfl) (by rfl)⟩) (by rfl) (by rfl) (by omega) (by omega) (by omega) ?_
                intro a6 cap6 H6 hr6
                obtain ⟨_, _, he6, hR6⟩ := NewRow.row hr6 (by rw [List.length_append, rowOf_len (bl_len c), Nat.add_mul]; rfl) (by omega)
                cases he6
                refine WS_nil ?_
                refine WH_step1 11 (by decide +kernel) (fun _ h => St.sub h sbA) (by rfl) ?_
                ·
                  refine WS_appendE hF (H1 := (_ :: _ :: _ :: [])) (Hn := H6) (by rfl) (by rfl) (by rfl) Tryd.underlying40 infCans (by rfl) (by rfl) hR6 (Rws.src (bl_len c) (hb.suf hkm)) (by rw [rowOf_len (bl_len c)]) (by rw [show bs.length - k = (bs.drop k).length from List.length_drop.symm]; exact bl_one c _) (by omega) (by omega) ?_
                  intro a7 cap7 H7 hR7
                  have hr9 : NewRow 24 3 (bs.length + 1) (blRow c (blIns bs k y)) (.slice a7 (bs.length + 1) cap7) H7 := by
                    have e1 : rowOf (Bl.cells c) (fun i => (bs.take k).getD i Bl.z) k = (bs.take k).flatMap (Bl.cells c) := by
                      have := rowOf_flat (Bl.cells c) Bl.z (bs.take k)
                      rwa [show (bs.take k).length = k by rw [List.length_take]; omega] at this
                    have e2 : rowOf (Bl.cells c) (fun i => (bs.drop k).getD i Bl.z) (bs.length - k) = (bs.drop k).flatMap (Bl.cells c) := by
                      have := rowOf_flat (Bl.cells c) Bl.z (bs.drop k)
                      rwa [List.length_drop] at this
                    have hrow := Row.newRow hR7 (by omega)
                    rw [show k + 1 + (bs.length - k) = bs.length + 1 by omega, e1, e2] at hrow
                    rw [blRow_fm]
                    unfold blIns
                    rw [List.flatMap_append, List.flatMap_cons, ← List.append_assoc]
                    exact hrow
                  rw [show k + 1 + (bs.length - k) = bs.length + 1 by omega]
                  refine WS_nil ?_
                  refine WH_done (by decide +kernel) (fun _ h => St.sub h sbA) ?_
                  exact ⟨_, _, _, hr9, (by repeat (first | exact trivial | refine ⟨by rfl, ?_⟩ | refine ⟨congrArg (Value.int _) (by first | omega | (simp only; omega) | (push_cast; omega)), ?_⟩)), HSub.sub sbA⟩
end Go.Proofs.YtjekjehgmljbgaaDoor.T

/- The reference's candidates for cans before; pure. -/
namespace Go.Proofs.YtjekjehgmljbgaaDoor.T
open Go.RowKit Go.Proofs Go.Eng
set_option maxRecDepth 100000
set_option maxHeartbeats 1000000
set_option linter.unusedVariables false
set_option linter.unusedSimpArgs false

def setI (l : List Int) (k : Nat) (v : Int) : List Int := if k = 0 then l else l.set (k - 1) v
theorem setI_len (l : List Int) (k : Nat) (v : Int) : (setI l k v).length = l.length := by
  unfold setI; split
  · rfl
  · exact List.length_set
theorem setI_get (l : List Int) (k j : Nat) (v : Int) (hk : k ≤ l.length) (hj : j < l.length) : (setI l k v).getD j 0 = if j + 1 = k then v else l.getD j 0 := by
  unfold setI
  split
  · rename_i h; rw [if_neg (by omega)]
  · rename_i h
    simp only [List.getD_eq_getElem?_getD, List.getElem?_set]
    by_cases e : k - 1 = j
    · rw [if_pos e, if_pos (show j + 1 = k by omega), if_pos (by omega)]; rfl
    · rw [if_neg e, if_neg (show ¬ j + 1 = k by omega)]
def Cn.ci (c : Cn) (f t : Nat) (a b : Int) : List Int := setI (setI c.inn f b) t a
def Cn.cand (c : Cn) (f t : Nat) (a b : Int) : Cn := ⟨c.sz, c.ci f t a b, c.st + sumL c.inn - sumL (c.ci f t a b)⟩
theorem Cn.ci_len (c : Cn) (f t : Nat) (a b : Int) : (c.ci f t a b).length = c.inn.length := by unfold Cn.ci; rw [setI_len, setI_len]
theorem Cn.ci_get {c : Cn} {f t : Nat} (a b : Int) (hok : c.Ok) (hp : c.Fp f t) {j : Nat} (hj : j < c.n) : (c.ci f t a b).getD j 0 = if j + 1 = t then a else if j + 1 = f then b else c.i j := by
  have hl := hok.len
  have h1 := hp.fb
  have h2 := hp.tb
  unfold Cn.ci
  rw [setI_get _ _ _ _ (by rw [setI_len]; omega) (by rw [setI_len]; omega), setI_get _ _ _ _ (by omega) (by omega)]
  rfl
theorem sum3 (l : List Int) (h : l.length ≤ 3) : sumL l = l.getD 0 0 + l.getD 1 0 + l.getD 2 0 := by
  match l, h with
  | [], _ => rfl
  | [_], _ => simp [sumL]
  | [_, _], _ => simp [sumL]
  | [_, _, _], _ => simp [sumL]; omega
  | _ :: _ :: _ :: _ :: _, h => simp only [List.length_cons] at h; omega
theorem Cn.cand_sm {c : Cn} {f t : Nat} (a b : Int) (hok : c.Ok) : (c.cand f t a b).co.sm = c.co.sm := by
  have h3 := hok.n3
  have hl := hok.len
  have h1 := sum3 c.inn (by omega)
  have h2 := sum3 (c.ci f t a b) (by rw [c.ci_len]; omega)
  show (c.st + sumL c.inn - sumL (c.ci f t a b)) + (c.ci f t a b).getD 0 0 + (c.ci f t a b).getD 1 0 + (c.ci f t a b).getD 2 0 = c.st + c.inn.getD 0 0 + c.inn.getD 1 0 + c.inn.getD 2 0
  omega
theorem Cn.cand_g {c : Cn} {f t : Nat} (a b : Int) (hok : c.Ok) (hp : c.Fp f t) {k : Nat} (h0 : 0 < k) (hk : k ≤ c.n) : (c.cand f t a b).co.g k = if k = t then a else if k = f then b else c.co.g k := by
  have h3 := hok.n3
  obtain ⟨j, rfl⟩ : ∃ j, k = j + 1 := ⟨k - 1, by omega⟩
  rw [(c.cand f t a b).co_g j (by omega), c.co_g j (by omega)]
  exact Cn.ci_get a b hok hp (by omega)
theorem Cn.cand_z {c : Cn} {f t : Nat} (a b : Int) (hok : c.Ok) {k : Nat} (hk : c.n < k) (hk4 : k < 4) : (c.cand f t a b).co.g k = 0 := by
  have hl := hok.len
  obtain ⟨j, rfl⟩ : ∃ j, k = j + 1 := ⟨k - 1, by omega⟩
  rw [(c.cand f t a b).co_g j (by omega)]
  show (c.ci f t a b).getD j 0 = 0
  rw [List.getD_eq_getElem?_getD, List.getElem?_eq_none (by rw [c.ci_len]; omega)]
  rfl
theorem Cn.cand_ok {c : Cn} {f t : Nat} {a b : Int} (hok : c.Ok) : (c.cand f t a b).okB = true ↔ c.In (c.cand f t a b).co := by
  have h3 := hok.n3
  rw [Cn.ok_iff]
  constructor
  · intro h
    have := h.co_in
    exact ⟨this.lo, this.hi, this.z⟩
  · intro h
    refine ⟨hok.n1, hok.n3, (c.ci_len f t a b).trans hok.len, h.lo 0 (by decide), h.hi 0 (Nat.zero_le _), hok.s, fun k hk => ?_⟩
    have hk' : k < c.n := hk
    have h1 := h.lo (k + 1) (by omega)
    have h2 := h.hi (k + 1) (by omega)
    rw [(c.cand f t a b).co_g k (by omega)] at h1 h2
    exact ⟨h1, h2⟩
theorem Cn.cand_of {c : Cn} {f t : Nat} {a b : Int} (h : (c.cand f t a b).Ok) : c.of (c.cand f t a b).co = c.cand f t a b := h.co_of
/-- What was in the two cans. -/
def Cn.jx (f t : Nat) (x : Co) : Int := (if t = 0 then 0 else x.g t) * 21 + (if f = 0 then 0 else x.g f)
theorem Cn.IsBef.parts {c : Cn} {f t : Nat} {x : Co} (h : c.IsBef f t x) (hok : c.Ok) (hp : c.Fp f t) : (0 ≤ (if t = 0 then 0 else x.g t) ∧ (if t = 0 then 0 else x.g t) ≤ 20) ∧ 0 ≤ (if f = 0 then 0 else x.g f) ∧ (if f = 0 then 0 else x.g f) ≤ 20 := by
  have h3 := hok.n3
  have h1 := hp.fb
  have h2 := hp.tb
  have key : ∀ k, k ≤ c.n → 0 ≤ (if k = 0 then 0 else x.g k) ∧ (if k = 0 then 0 else x.g k) ≤ 20 := fun k hk => by
    by_cases h0 : k = 0
    · rw [if_pos h0]; exact ⟨Int.le_refl _, by decide⟩
    · rw [if_neg h0]
      have a1 := h.inn.lo k (by omega)
      have a2 := h.inn.hi k hk
      obtain ⟨j, rfl⟩ : ∃ j, k = j + 1 := ⟨k - 1, by omega⟩
      rw [c.room_s] at a2
      have := hok.s j (by omega)
      omega
  exact ⟨key t h2, key f h1⟩
theorem Cn.IsBef.jx_split {c : Cn} {f t : Nat} {x : Co} (h : c.IsBef f t x) (hok : c.Ok) (hp : c.Fp f t) {a b : Nat} (hb : b ≤ 20) (hj : Cn.jx f t x = ((a * 21 + b : Nat) : Int)) : (if t = 0 then 0 else x.g t) = (a : Int) ∧ (if f = 0 then 0 else x.g f) = (b : Int) := by
  obtain ⟨⟨h1, h2⟩, h3, h4⟩ := h.parts hok hp
  unfold Cn.jx at hj
  omega
theorem Cn.IsBef.cand {c : Cn} {f t : Nat} {x : Co} (h : c.IsBef f t x) (hok : c.Ok) (hp : c.Fp f t) {a b : Nat} (hb : b ≤ 20) (hj : Cn.jx f t x = ((a * 21 + b : Nat) : Int)) : x = (c.cand f t a b).co := by
  have h3 := hok.n3
  obtain ⟨h1, h2⟩ := h.jx_split hok hp hb hj
  obtain ⟨_, _, hk⟩ := h.gs hok hp
  have hg : ∀ k, 0 < k → k < 4 → x.g k = (c.cand f t a b).co.g k := fun k h0 hk4 => by
    by_cases hkn : k ≤ c.n
    · rw [Cn.cand_g _ _ hok hp h0 hkn]
      split
      · rename_i e; subst e; rw [if_neg (by omega)] at h1; exact h1
      · split
        · rename_i e; subst e; rw [if_neg (by omega)] at h2; exact h2
        · exact (hk k hk4 (by assumption) (by assumption)).symm
    · rw [h.inn.z k (by omega) hk4, Cn.cand_z _ _ hok (by omega) hk4]
  have hs := (h.sm hok hp).trans (Cn.cand_sm (f := f) (t := t) a b hok).symm
  refine Co.ext4 fun k hk4 => ?_
  by_cases h0 : k = 0
  · subst h0
    have g1 := hg 1 (by decide) (by decide)
    have g2 := hg 2 (by decide) (by decide)
    have g3 := hg 3 (by decide) (by decide)
    rw [Co.sm_g, Co.sm_g] at hs
    omega
  · exact hg k (by omega) hk4
theorem Cn.cand_jx {c : Cn} {f t : Nat} (hok : c.Ok) (hp : c.Fp f t) {a b : Nat} (hns : ¬ ((f = 0 ∧ 0 < b) ∨ (t = 0 ∧ 0 < a))) : Cn.jx f t (c.cand f t a b).co = ((a * 21 + b : Nat) : Int) := by
  have h3 := hok.n3
  have h1 := hp.fb
  have h2 := hp.tb
  have hne := hp.ne
  unfold Cn.jx
  have e1 : (if t = 0 then (0 : Int) else (c.cand f t a b).co.g t) = a := by
    split
    · omega
    · rw [Cn.cand_g _ _ hok hp (by omega) h2, if_pos rfl]
  have e2 : (if f = 0 then (0 : Int) else (c.cand f t a b).co.g f) = b := by
    split
    · omega
    · rw [Cn.cand_g _ _ hok hp (by omega) h1, if_neg hne, if_pos rfl]
  rw [e1, e2]
  push_cast
  rfl
/-- So many candidates were looked at. -/
structure Cn.RbI (c : Cn) (f t J : Nat) (L : List Co) : Prop where
  srt : L.Pairwise Co.lt
  mem : ∀ x, x ∈ L ↔ c.IsBef f t x ∧ Cn.jx f t x < (J : Int)
theorem Cn.RbI.nil {c : Cn} {f t : Nat} (hok : c.Ok) (hp : c.Fp f t) : c.RbI f t 0 [] := ⟨List.Pairwise.nil, fun x => ⟨fun h => (by cases h), fun ⟨h1, h2⟩ => by
  obtain ⟨⟨a1, _⟩, a2, _⟩ := h1.parts hok hp
  unfold Cn.jx at h2
  omega⟩⟩
theorem Cn.RbI.skip {c : Cn} {f t J : Nat} {L : List Co} (h : c.RbI f t J L) (hno : ∀ x, c.IsBef f t x → Cn.jx f t x = (J : Int) → False) : c.RbI f t (J + 1) L := ⟨h.srt, fun x => (h.mem x).trans ⟨fun ⟨h1, h2⟩ => ⟨h1, by push_cast; omega⟩, fun ⟨h1, h2⟩ => ⟨h1, by
  have := hno x h1
  push_cast at h2
  refine Classical.byContradiction fun h3 => this (by omega)⟩⟩⟩
theorem ins_at (L : List Co) (x : Co) : ∃ k, k ≤ L.length ∧ (∀ j, j < k → (L.getD j Co.z).lt x) ∧ (k < L.length → ¬ (L.getD k Co.z).lt x) := by
  induction L with
  | nil => exact ⟨0, Nat.le_refl _, fun j h => (by omega), fun h => absurd h (Nat.lt_irrefl _)⟩
  | cons y L ih =>
    by_cases hy : y.lt x
    · obtain ⟨k, h1, h2, h3⟩ := ih
      refine ⟨k + 1, by simp only [List.length_cons]; omega, fun j hj => ?_, fun h => ?_⟩
      · cases j with
        | zero => exact hy
        | succ j => exact h2 j (by omega)
      · exact h3 (by simp only [List.length_cons] at h; omega)
    · exact ⟨0, Nat.zero_le _, fun j h => (by omega), fun _ => hy⟩
theorem Cn.RbI.add {c : Cn} {f t a b : Nat} {L : List Co} {x : Co} (hok : c.Ok) (hp : c.Fp f t) (hb : b ≤ 20) (h : c.RbI f t (a * 21 + b) L) (hx : c.IsBef f t x) (hj : Cn.jx f t x = ((a * 21 + b : Nat) : Int)) {k : Nat} (hk : k ≤ L.length) (h1 : ∀ j, j < k → (L.getD j Co.z).lt x) (h2 : k < L.length → ¬ (L.getD k Co.z).lt x) :
    c.RbI f t (a * 21 + (b + 1)) (L.take k ++ x :: L.drop k) := by
  have hnx : x ∉ L := fun h3 => by have := ((h.mem x).1 h3).2; omega
  have hmem : ∀ j (hj : j < L.length), L[j] ∈ L := fun j hj => List.getElem_mem hj
  have hcross : ∀ z ∈ L.drop k, x.lt z := fun z hz => by
    obtain ⟨i, hi, rfl⟩ := List.getElem_of_mem hz
    rw [List.length_drop] at hi
    rw [List.getElem_drop]
    have hkl : k < L.length := by omega
    have h3 := h2 hkl
    have hzk : x.lt L[k] := by
      have hne : x ≠ L[k] := fun e => hnx (e ▸ hmem k hkl)
      rcases hx.tot ((h.mem _).1 (hmem k hkl)).1 hok hp hne with h4 | h4
      · exact h4
      · rw [List.getD_eq_getElem?_getD, List.getElem?_eq_getElem hkl] at h3
        exact absurd h4 h3
    by_cases hi0 : i = 0
    · subst hi0; exact hzk
    · have := h.srt
      rw [List.pairwise_iff_getElem] at this
      exact Co.lt_tr hzk (this k (k + i) hkl (by omega) (by omega))
  refine ⟨?_, fun z => ?_⟩
  · rw [List.pairwise_append, List.pairwise_cons]
    refine ⟨h.srt.sublist (List.take_sublist _ _), ⟨hcross, h.srt.sublist (List.drop_sublist _ _)⟩, fun u hu v hv => ?_⟩
    have hux : u.lt x := by
      obtain ⟨i, hi, rfl⟩ := List.getElem_of_mem hu
      rw [List.length_take] at hi
      rw [List.getElem_take]
      have := h1 i (by omega)
      rwa [List.getD_eq_getElem?_getD, List.getElem?_eq_getElem (by omega)] at this
    rcases List.mem_cons.1 hv with rfl | hv
    · exact hux
    · exact Co.lt_tr hux (hcross v hv)
  · rw [List.mem_append, List.mem_cons]
    have hz : z ∈ L ↔ z ∈ L.take k ∨ z ∈ L.drop k := by
      conv => lhs; rw [← List.take_append_drop k L]
      exact List.mem_append
    constructor
    · rintro (h3 | rfl | h3)
      · obtain ⟨h4, h5⟩ := (h.mem z).1 (hz.2 (.inl h3)); exact ⟨h4, by omega⟩
      · exact ⟨hx, by omega⟩
      · obtain ⟨h4, h5⟩ := (h.mem z).1 (hz.2 (.inr h3)); exact ⟨h4, by omega⟩
    · rintro ⟨h3, h4⟩
      by_cases h5 : Cn.jx f t z = ((a * 21 + b : Nat) : Int)
      · exact .inr (.inl ((h3.cand hok hp hb h5).trans (hx.cand hok hp hb hj).symm))
      · have := (h.mem z).2 ⟨h3, by omega⟩
        rcases hz.1 this with h6 | h6
        · exact .inl h6
        · exact .inr (.inr h6)
theorem Cn.RbI.done {c : Cn} {f t : Nat} {L : List Co} (hok : c.Ok) (hp : c.Fp f t) (h : c.RbI f t (21 * 21) L) : c.BefS f t L := ⟨h.srt, fun x => (h.mem x).trans ⟨fun h => h.1, fun h1 => ⟨h1, by
  obtain ⟨⟨_, a1⟩, _, a2⟩ := h1.parts hok hp
  unfold Cn.jx
  omega⟩⟩⟩
theorem Cn.RbI.len {c : Cn} {f t J : Nat} {L : List Co} (hok : c.Ok) (hp : c.Fp f t) (h : c.RbI f t J L) : L.length ≤ 1000 := by
  have hnd : (L.map fun x => (c.amt x f t).toNat).Nodup := by
    rw [List.nodup_iff_pairwise_ne, List.pairwise_map]
    refine h.srt.imp_of_mem fun {x y} hx hy hlt e => ?_
    have h1 := ((h.mem x).1 hx).1.old hok hp
    have h2 := ((h.mem y).1 hy).1.old hok hp
    rw [e] at h1
    exact absurd hlt (by rw [h1.trans h2.symm]; exact Co.lt_irr _)
  have hsub : ∀ z ∈ L.map (fun x => (c.amt x f t).toNat), z < 21 := fun z hz => by
    obtain ⟨x, hx, rfl⟩ := List.mem_map.1 hz
    have := ((h.mem x).1 hx).1.amt hok hp
    omega
  have := nodup_bd hnd hsub
  rw [List.length_map] at this
  omega
/-- The test, told of the content. -/
theorem Cn.cand_isBef {c : Cn} {f t : Nat} {a b : Int} (hok : c.Ok) (hp : c.Fp f t) (hv : c.vldB ⟨(f : Int), (t : Int)⟩ = true) (hcd : (c.cand f t a b).okB = true) : (c.cand f t a b).poE ⟨(f : Int), (t : Int)⟩ = 0 ∧ (c.cand f t a b).poC ⟨(f : Int), (t : Int)⟩ = c ↔ c.IsBef f t (c.cand f t a b).co := by
  have hin := (Cn.cand_ok hok).1 hcd
  have h3 := hok.n3
  constructor
  · rintro ⟨h1, h2⟩
    have hcan : c.canB (c.cand f t a b).co f t = true := by
      refine Classical.byContradiction fun h => ?_
      rw [Cn.poE_no (c := c.cand f t a b) hcd hv h] at h1
      cases h1
    refine ⟨hin, hcan, ?_⟩
    rw [(Cn.poE_yes (c := c.cand f t a b) hcd hv hcan).2] at h2
    have h4 : c.of (c.to (c.cand f t a b).co f t) = c := h2
    have h5 : c.In (c.to (c.cand f t a b).co f t) := hin.to h3 hp.fb hp.tb (Int.le_of_lt (Cn.canB_iff.1 hcan).2)
    rw [← hok.of_co h5, h4]
  · intro h
    obtain ⟨h1, h2⟩ := Cn.poE_yes (c := c.cand f t a b) hcd hv h.can
    refine ⟨h1, h2.trans ?_⟩
    show c.of (c.to (c.cand f t a b).co f t) = c
    rw [h.to, hok.co_of]
end Go.Proofs.YtjekjehgmljbgaaDoor.T

/- The reference's Before: its walk. -/
namespace Go.Proofs.YtjekjehgmljbgaaDoor.T
open Go.RowKit Go.Proofs Go.Eng
set_option maxRecDepth 100000
set_option maxHeartbeats 1000000
set_option linter.unusedVariables false
set_option linter.unusedSimpArgs false



theorem sum_bd3 {l : List Int} {m : Int} (h : l.length ≤ 3) (hb : ∀ k, k < l.length → 0 ≤ l.getD k 0 ∧ l.getD k 0 ≤ 600) : 0 ≤ sumL l ∧ sumL l ≤ 1800 := by
  rw [sum3 l h]
  have key : ∀ k, 0 ≤ l.getD k 0 ∧ l.getD k 0 ≤ 600 := fun k => by
    by_cases hk : k < l.length
    · exact hb k hk
    · rw [List.getD_eq_getElem?_getD, List.getElem?_eq_none (by omega)]; exact ⟨Int.le_refl _, by decide⟩
  have h0 := key 0
  have h1 := key 1
  have h2 := key 2
  omega
theorem Cn.ci_bd {c : Cn} {f t : Nat} {a b : Nat} (hok : c.Ok) (hp : c.Fp f t) (ha : a ≤ 20) (hb : b ≤ 20) : ∀ k, k < (c.ci f t a b).length → 0 ≤ (c.ci f t a b).getD k 0 ∧ (c.ci f t a b).getD k 0 ≤ 600 := fun k hk => by
  rw [c.ci_len, hok.len] at hk
  rw [Cn.ci_get _ _ hok hp hk]
  have h1 := hok.i k hk
  have h2 := hok.s k hk
  split
  · omega
  · split <;> omega
theorem poC_bd {c : Cn} {p : Po} (hok : c.Ok) : (c.poC p).n ≤ 1000000 ∧ (c.poC p).inn.length ≤ 1000000 := by
  have h3 := hok.n3
  unfold Cn.poC
  split
  · split
    · rw [c.of_len _ h3]; exact ⟨by show c.n ≤ _; omega, by omega⟩
    · exact ⟨Nat.zero_le _, Nat.zero_le _⟩
  · exact ⟨Nat.zero_le _, Nat.zero_le _⟩
deriving instance DecidableEq for Cn
theorem cn_eq {c d : Cn} : (decide (c.sz = d.sz) && decide (c.inn = d.inn) && decide (c.st = d.st)) = decide (c = d) := by
  obtain ⟨a, b, s⟩ := c
  obtain ⟨a', b', s'⟩ := d
  rw [Bool.eq_iff_iff]
  simp [and_assoc]
theorem radded_v (c : Cn) (hok : c.Ok) (bs : List Bl) (y : Bl) (u : List Value) (hu : u = y.cells c) (a : Option Addr) (cap m : Nat) (w : World) (hb : Rws (Bl.cells c) 3 Bl.z w a bs.length cap bs) (hl : bs.length ≤ 1000) (hi : ∀ b ∈ bs, b.Rd c w) (hy : y.Rd c w) (hkm : m ≤ bs.length) (hk1 : ∀ j, j < m → (bs.getD j Bl.z).x.lt y.x) (hk2 : m < bs.length → ¬ (bs.getD m Bl.z).x.lt y.x) :
    Ct Tryd.prog 91 #[.slice a bs.length cap, .agg u.toArray] w fun v Hn => ∃ a' cap', v = .slice a' (bs.length + 1) cap' ∧ NewRow 24 3 (bs.length + 1) (blRow c (blIns bs m y)) (.slice a' (bs.length + 1) cap') Hn := by
  subst hu
  exact radded_any c hok bs y a cap m w hb hl hi hy hkm hk1 hk2
theorem rcsum_v (c : Cn) (I : List Int) (a1 : Option Addr) (p1 : Nat) (a2 : Option Addr) (p2 : Nat) (w : World) (hl : I.length ≤ 1000) (hs : 0 ≤ c.st ∧ c.st ≤ 600) (hbd : ∀ k, k < I.length → 0 ≤ I.getD k 0 ∧ I.getD k 0 ≤ 600) (h2 : Ints w a2 I.length p2 I) : Ct Tryd.prog 90 #[.agg #[.slice a1 c.n p1, .slice a2 I.length p2, .int .i64 c.st]] w fun v _ => v = .int .i64 (c.st + sumL I) := rcsum_any ⟨c.sz, I, c.st⟩ a1 p1 a2 p2 w hl hs hbd h2
theorem WS_push {C : Ctx} {F : Fence} {n : Nat} {ds : List Deferred} {all : Array Oper} {Q : Exit → Env → List Blk → Prop} {rest : List Oper} {e : Env} {M M' : List Blk} {x : Blk} (hp : M.Perm (x :: M')) (h : WS C F n ds all Q rest e M) : WS C F n ds all Q rest e (x :: M') := fun w hw a ha => h w ⟨hw.1, hw.2.perm hp, hw.3⟩ a ha
theorem perm_bi {x : Blk} {A B D : List Blk} : ((A ++ (B ++ [x])) ++ D).Perm (x :: (A ++ (B ++ D))) := by
  simpa [List.append_assoc] using (List.perm_middle (l₁ := A ++ B) (l₂ := D) (a := x))
theorem blIns_len (bs : List Bl) (m : Nat) (y : Bl) (h : m ≤ bs.length) : (blIns bs m y).length = bs.length + 1 := by
  unfold blIns
  rw [List.length_append, List.length_cons, List.length_take, List.length_drop]; omega
theorem bl_getx (bs : List Bl) (j : Nat) : (bs.map Bl.x).getD j Co.z = (bs.getD j Bl.z).x := by
  by_cases h : j < bs.length
  · simp [List.getD_eq_getElem?_getD, h]
  · simp [List.getD_eq_getElem?_getD, h]; rfl
theorem rcbefore_any (c : Cn) (a1 : Option Addr) (p1 : Nat) (a2 : Option Addr) (p2 : Nat) (p : Po) (w : World) (hn : c.n ≤ 1000000) (hm : c.inn.length ≤ 1000000) (h1 : Ints w a1 c.n p1 c.sz) (h2 : Ints w a2 c.inn.length p2 c.inn) : Ct Tryd.prog 38 #[.agg #[.slice a1 c.n p1, .slice a2 c.inn.length p2, .int .i64 c.st], .agg p.cells.toArray] w (BefV c p) := by
  obtain ⟨pf, pt⟩ := p
  have hF := wide_wide
  refine Ct_start (args := [_, _]) Tryd.func38 (by rfl) Tryd.ntmps38 (by rfl) ?_
  refine W_seq ?_
  refine W_region_lit (fun ds => ?_)
  refine WS_new hF (by rfl) (y_box (by rfl)) (fun b1 => ?_)
  refine WS_new hF (by rfl) (y_box (by rfl)) (fun b2 => ?_)
  refine WS_det hF (by rfl) (y_assign (c := .slice _ _ _) (by rfl)) ?_
  refine WS_det hF (by rfl) (y_assign (c := .int .i64 _) (by rfl)) ?_
  refine WS_nil ?_
  refine Then_normal ?_
  refine W_seq ?_
  refine W_seq ?_
  refine W_region_lit (fun ds => ?_)
  refine WS_det hF (by rfl) (y_loadN (by rfl) Tryd.isAgg24 Tryd.sizeOf24 (Mem.own (us := [.slice _ _ _, .slice _ _ _, .int .i64 _]) 1 (by rfl) (by rfl)) (by rfl)) ?_
  refine WS_det hF (by rfl) (y_callL (by rfl) (by rfl) Tryd.call52 (fun w hw => rcans_any c a1 p1 a2 p2 w hn hm (h1.st w hw) (h2.st w hw))) ?_
  refine WS_det hF (by rfl) (y_not (by rfl)) ?_
  refine WS_nil ?_
  refine Then_normal ?_
  refine W_cond (by rfl) (fun c1 => ?_) (fun c1 => ?_)
  ·
    try simp only [Bool.not_eq_true', Bool.not_eq_false', decide_eq_true_eq, decide_eq_false_iff_not, ne_eq, Classical.not_not, Int.not_lt, Int.not_le] at c1
    refine W_seq ?_
    refine W_region_lit (fun ds => ?_)
    refine WS_det hF (by rfl) (y_assign (c := .slice _ _ _) (by rfl)) ?_
    refine WS_det hF (by rfl) (y_assign (c := .int .i64 _) (by rfl)) ?_
    refine WS_nil ?_
    refine Then_normal ?_
    refine W_ret ?_
    refine Then_ret ?_
    refine Fin_ret [.slice _ _ _, .int .i64 _] [] Tryd.results38 ⟨by rfl, by rfl, trivial⟩ HSub.nil ?_
    exact BefV.emp (by unfold Cn.Bef; rw [if_neg (by rw [c1]; decide)]; exact ⟨rfl, rfl⟩)
  ·
    try simp only [Bool.not_eq_true', Bool.not_eq_false', decide_eq_true_eq, decide_eq_false_iff_not, ne_eq, Classical.not_not, Int.not_lt, Int.not_le] at c1
    have hokB := c1
    have hok := Cn.ok_iff.1 hokB
    have hn3 := hok.n3
    have hlen := hok.len
    obtain ⟨hib1, hib2⟩ := hok.inn_bd
    have hst0 := hok.st0
    have hst1 := hok.st1
    refine W_skip ?_
    refine Then_normal ?_
    refine W_seq ?_
    refine W_seq ?_
    refine W_region_lit (fun ds => ?_)
    refine WS_det hF (by rfl) (y_loadN (by rfl) Tryd.isAgg24 Tryd.sizeOf24 (Mem.own (us := [.slice _ _ _, .slice _ _ _, .int .i64 _]) 1 (by rfl) (by rfl)) (by rfl)) ?_
    refine WS_det hF (by rfl) (y_loadN (by rfl) Tryd.isAgg26 Tryd.sizeOf26 (Mem.own (us := [.int .i64 _, .int .i64 _]) 0 (by rfl) (by rfl)) (by rfl)) ?_
    refine WS_det hF (by rfl) (y_callL (by rfl) (by rfl) Tryd.call53 (fun w hw => rpouring_any c a1 p1 a2 p2 ⟨pf, pt⟩ w)) ?_
    refine WS_det hF (by rfl) (y_not (by rfl)) ?_
    refine WS_nil ?_
    refine Then_normal ?_
    refine W_cond (by rfl) (fun c3 => ?_) (fun c3 => ?_)
    ·
      try simp only [Bool.not_eq_true', Bool.not_eq_false', decide_eq_true_eq, decide_eq_false_iff_not, ne_eq, Classical.not_not, Int.not_lt, Int.not_le] at c3
      refine W_seq ?_
      refine W_region_lit (fun ds => ?_)
      refine WS_det hF (by rfl) (y_assign (c := .slice _ _ _) (by rfl)) ?_
      refine WS_det hF (by rfl) (y_assign (c := .int .i64 _) (by rfl)) ?_
      refine WS_nil ?_
      refine Then_normal ?_
      refine W_ret ?_
      refine Then_ret ?_
      refine Fin_ret [.slice _ _ _, .int .i64 _] [] Tryd.results38 ⟨by rfl, by rfl, trivial⟩ HSub.nil ?_
      exact BefV.emp (by unfold Cn.Bef; rw [if_pos hokB, if_neg (by rw [c3]; decide)]; exact ⟨rfl, rfl⟩)
    ·
      try simp only [Bool.not_eq_true', Bool.not_eq_false', decide_eq_true_eq, decide_eq_false_iff_not, ne_eq, Classical.not_not, Int.not_lt, Int.not_le] at c3
      have hvB := c3
      obtain ⟨⟨hf0, hf1⟩, ⟨ht0, ht1⟩, hne⟩ := Cn.vld_iff.1 c3
      simp only at hf0 hf1 ht0 ht1 hne
      obtain ⟨f, rfl⟩ := Int.eq_ofNat_of_zero_le hf0
      obtain ⟨t, rfl⟩ := Int.eq_ofNat_of_zero_le ht0
      have hf : f ≤ c.n := by omega
      have ht : t ≤ c.n := by omega
      have hft : f ≠ t := by omega
      have hp : c.Fp f t := ⟨hf, ht, hft⟩
      refine W_skip ?_
      refine Then_normal ?_
      refine W_seq ?_
      refine W_region_lit (fun ds => ?_)
      refine WS_det hF (by rfl) (y_assign (c := .slice _ _ _) (by rfl)) ?_
      refine WS_nil ?_
      refine Then_normal ?_
      refine W_seq ?_
      refine W_seq ?_
      refine W_region_lit (fun ds => ?_)
      refine WS_det hF (by rfl) (y_assign (c := .int .i64 _) (by rfl)) ?_
      refine WS_nil ?_
      refine Then_normal ?_
      refine W_block ?_
      refine W_loop (γ := Nat × List Bl × Option Addr × Nat × List Blk × List Blk) (fun q => q.1 ≤ 21 ∧ c.RbI f t (q.1 * 21) (q.2.1.map Bl.x) ∧ NewRow 24 3 q.2.1.length (blRow c q.2.1) (.slice q.2.2.1 q.2.1.length q.2.2.2.1) q.2.2.2.2.1 ∧ (∀ b ∈ q.2.1, b.RdH c q.2.2.2.2.2) ∧ Shp q.2.2.2.2.2 q.2.2.2.2.2) (fun q => [(2, .pointer (some ⟨b1, 0, none⟩)), (3, .pointer (some ⟨b2, 0, none⟩)), (6, .slice q.2.2.1 q.2.1.length q.2.2.2.1), (7, .int .i64 (q.1 : Int))]) (fun q => (b2, CB [.int .i64 (f : Int), .int .i64 (t : Int)] 26) :: (b1, CB [.slice a1 c.n p1, .slice a2 c.inn.length p2, .int .i64 c.st] 24) :: (q.2.2.2.2.2 ++ q.2.2.2.2.1)) (fun q => 21 - q.1) ((0, [], none, 0, [], [])) ⟨Nat.zero_le _, by rw [Nat.zero_mul]; exact Cn.RbI.nil hok hp, ⟨none, 0, rfl, Nat.le_refl _, .inr ⟨rfl, rfl, rfl⟩⟩, fun b h => (by cases h), .nil⟩ (by repeat (first | exact trivial | refine ⟨by rfl, ?_⟩)) ((by simp only [List.append_nil]; exact sbA)) ?_
      rintro ⟨a, bs0, oa0, oc0, Hr0, HX0⟩ e ⟨(ha : a ≤ 21), (hI0 : c.RbI f t (a * 21) (bs0.map Bl.x)), (hrow0 : NewRow 24 3 bs0.length (blRow c bs0) (.slice oa0 bs0.length oc0) Hr0), (hrd0 : ∀ b ∈ bs0, b.RdH c HX0), (hsh0 : Shp HX0 HX0)⟩
      refine W_seq ?_
      refine W_seq ?_
      refine W_region_lit (fun ds => ?_)
      refine WS_det hF (by rfl) (y_move (c := .int .i64 _) (by rfl)) ?_
      refine WS_det hF (by rfl) (y_leq (by rfl) (by rfl)) ?_
      refine WS_nil ?_
      refine Then_normal ?_
      refine W_cond (by rfl) (fun c7 => ?_) (fun c7 => ?_)
      ·
        try simp only [Bool.not_eq_true', Bool.not_eq_false', decide_eq_true_eq, decide_eq_false_iff_not, ne_eq, Classical.not_not, Int.not_lt, Int.not_le] at c7
        have ha20 : a ≤ 20 := by omega
        refine W_skip ?_
        refine Then_normal ?_
        refine W_seq ?_
        refine W_block ?_
        refine W_seq ?_
        refine W_region_lit (fun ds => ?_)
        refine WS_det hF (by rfl) (y_assign (c := .int .i64 _) (by rfl)) ?_
        refine WS_nil ?_
        refine Then_normal ?_
        refine W_block ?_
        refine W_loop (γ := Nat × List Bl × Option Addr × Nat × List Blk × List Blk) (fun q => q.1 ≤ 21 ∧ c.RbI f t (a * 21 + q.1) (q.2.1.map Bl.x) ∧ NewRow 24 3 q.2.1.length (blRow c q.2.1) (.slice q.2.2.1 q.2.1.length q.2.2.2.1) q.2.2.2.2.1 ∧ (∀ b ∈ q.2.1, b.RdH c q.2.2.2.2.2) ∧ Shp q.2.2.2.2.2 q.2.2.2.2.2) (fun q => [(2, .pointer (some ⟨b1, 0, none⟩)), (3, .pointer (some ⟨b2, 0, none⟩)), (6, .slice q.2.2.1 q.2.1.length q.2.2.2.1), (7, .int .i64 (a : Int)), (8, .int .i64 (q.1 : Int))]) (fun q => (b2, CB [.int .i64 (f : Int), .int .i64 (t : Int)] 26) :: (b1, CB [.slice a1 c.n p1, .slice a2 c.inn.length p2, .int .i64 c.st] 24) :: (q.2.2.2.2.2 ++ q.2.2.2.2.1)) (fun q => 21 - q.1) ((0, bs0, oa0, oc0, Hr0, HX0)) ⟨Nat.zero_le _, hI0, hrow0, hrd0, hsh0⟩ (by repeat (first | exact trivial | refine ⟨by rfl, ?_⟩)) (sbA) ?_
        rintro ⟨b, bs, oa, oc, Hr, HX⟩ e ⟨(hb : b ≤ 21), (hI : c.RbI f t (a * 21 + b) (bs.map Bl.x)), (hrow : NewRow 24 3 bs.length (blRow c bs) (.slice oa bs.length oc) Hr), (hrd : ∀ b ∈ bs, b.RdH c HX), (hsh : Shp HX HX)⟩
        refine W_seq ?_
        refine W_seq ?_
        refine W_region_lit (fun ds => ?_)
        refine WS_det hF (by rfl) (y_move (c := .int .i64 _) (by rfl)) ?_
        refine WS_det hF (by rfl) (y_leq (by rfl) (by rfl)) ?_
        refine WS_nil ?_
        refine Then_normal ?_
        refine W_cond (by rfl) (fun c10 => ?_) (fun c10 => ?_)
        ·
          try simp only [Bool.not_eq_true', Bool.not_eq_false', decide_eq_true_eq, decide_eq_false_iff_not, ne_eq, Classical.not_not, Int.not_lt, Int.not_le] at c10
          have hb20 : b ≤ 20 := by omega
          have hbl := hI.len hok hp
          rw [List.length_map] at hbl
          refine W_skip ?_
          refine Then_normal ?_
          refine W_seq ?_
          refine W_block ?_
          refine W_seq ?_
          refine W_region_lit (fun ds => ?_)
          refine WS_det hF (by rfl) (y_loadN (by rfl) Tryd.isAgg24 Tryd.sizeOf24 (Mem.own (us := [.slice _ _ _, .slice _ _ _, .int .i64 _]) 1 (by rfl) (by rfl)) (by rfl)) ?_
          refine WS_gen hF (by rfl) (y_callL (by rfl) (by rfl) Tryd.call10 (fun w hw => rctwin_any c a1 p1 a2 p2 w hn hm (h1.st w hw) (h2.st w hw))) ?_
          rintro _ _ ⟨z1, q1, z2, q2, H1, H2, rfl, hr1, hr2, rfl⟩
          refine WS_back ?_
          obtain ⟨bi, ji, rfl, rfl, hjl, hjc⟩ := NewRow.head hr2 (by have := hok.n1; omega)
          refine WS_pull (bi, CB (iv c.inn ++ ji) 3) (by repeat (first | exact Pul.base0 | exact Pul.base | apply Pul.cons | apply Pul.app)) ?_
          have hcl := c.ci_len f t (a : Int) (b : Int)
          refine WS_new hF (by rfl) (y_alloc Tryd.zeroValue24 (by rfl)) (fun bo => ?_)
          refine WS_store hF (us := [.slice _ _ _, .slice _ _ _, .int .i64 _]) (i := 0) (by rfl) (by rfl) Tryd.sizeOf24 (by rfl) (by rfl) (by rfl) (by first | decide | exact Nat.le_of_ble_eq_true rfl | simp) ?_
          refine WS_nil ?_
          refine Then_normal ?_
          refine W_J1 (γ := Unit) (fun _ => ¬ ((f = 0 ∧ 0 < b) ∨ (t = 0 ∧ 0 < a))) [(2, .pointer _), (3, .pointer _), (6, .slice _ _ _), (7, .int .i64 _), (8, .int .i64 _), (9, .pointer _)] (fun _ => []) (fun _ => (bo, CB [.slice z1 c.n q1, .slice (some ⟨bi, 0, none⟩) (c.ci f t (a : Int) (b : Int)).length q2, .int .i64 c.st] 24) :: (bi, CB (iv c.inn ++ ji) 3) :: (b2, CB [.int .i64 (f : Int), .int .i64 (t : Int)] 26) :: (b1, CB [.slice a1 c.n p1, .slice a2 c.inn.length p2, .int .i64 c.st] 24) :: (HX ++ (Hr ++ H1))) slt ?_ ?_
          ·
            rintro _ e hns
            obtain ⟨I1, hI1e⟩ : ∃ I1, I1 = setI c.inn f (b : Int) := ⟨_, rfl⟩
            have hI1l : I1.length = c.inn.length := by rw [hI1e, setI_len]
            obtain ⟨I2, hI2e⟩ : ∃ I2, I2 = c.ci f t (a : Int) (b : Int) := ⟨_, rfl⟩
            have hI2l : I2.length = c.inn.length := by rw [hI2e, hcl]
            rw [← hI2e]
            rw [← hI2e] at hcl
            refine W_J2 (γ := Unit) (fun _ => True) [(2, .pointer _), (3, .pointer _), (6, .slice _ _ _), (7, .int .i64 _), (8, .int .i64 _), (9, .pointer _)] (fun _ => []) (fun _ => (bo, CB [.slice z1 c.n q1, .slice (some ⟨bi, 0, none⟩) I2.length q2, .int .i64 c.st] 24) :: (bi, CB (iv I2 ++ ji) 3) :: (b2, CB [.int .i64 (f : Int), .int .i64 (t : Int)] 26) :: (b1, CB [.slice a1 c.n p1, .slice a2 c.inn.length p2, .int .i64 c.st] 24) :: (HX ++ (Hr ++ H1))) slt ?_ ?_
            ·
              rintro _ e _
              refine W_seq ?_
              have hibd : ∀ k, k < I2.length → 0 ≤ I2.getD k 0 ∧ I2.getD k 0 ≤ 600 := by rw [hI2e]; exact Cn.ci_bd hok hp ha20 hb20
              have hsb1 := sum_bd3 (l := I2) (m := 0) (by omega) hibd
              have hsb2 := sum_bd3 (l := c.inn) (m := 0) (by omega) hib2
              have hjl2 : (iv I2 ++ ji).length = q2 * 1 := by
                rw [List.length_append] at hjl ⊢
                unfold iv at hjl ⊢
                rw [List.length_map] at hjl ⊢
                omega
              have hnb : NewRow 3 1 I2.length (iv I2) (.slice (some ⟨bi, 0, none⟩) I2.length q2) [(bi, CB (iv I2 ++ ji) 3)] := NewRow.mk rfl hjl2 (by omega) (by have := hok.n1; omega)
              apply W_drawMT 9 hF Trydmixed [] [] [] (by rfl) (by decide +kernel) (by decide) HSub.refl
              intro ds
              refine P_det (by rfl) (Over_nil (y_loadN (by rfl) Tryd.isAgg24 Tryd.sizeOf24 (Mem.own (us := [.slice _ _ _, .slice _ _ _, .int .i64 _]) 3 (by rfl) (by rfl)) (by rfl))) ?_
              refine P_det (by rfl) (Over_nil (y_callL (by rfl) (by rfl) Tryd.call90 (fun w hw => rcsum_any c a1 p1 a2 p2 w hib1 ⟨hst0, hst1⟩ hib2 (h2.st w hw)))) ?_
              refine P_det (by rfl) (Over_nil (y_loadN (by rfl) Tryd.isAgg24 Tryd.sizeOf24 (Mem.own (us := [.slice _ _ _, .slice _ _ _, .int .i64 _]) 0 (by rfl) (by rfl)) (by rfl))) ?_
              refine P_det (by rfl) (Over_nil (y_callL (by rfl) (by rfl) Tryd.call90 (fun w hw => rcsum_v c I2 z1 q1 (some ⟨bi, 0, none⟩) q2 w (by omega) ⟨hst0, hst1⟩ hibd (Ints.mem (xs := I2) (rest := ji) 1 (by rfl) (by rfl) (by omega) w hw)))) ?_
              refine P_det (by rfl) (Over_nil (y_fieldAddr (by rfl) fa24_2)) ?_
              refine P_det (by rfl) (Over_nil (y_load1 (by rfl) Tryd.isAgg3 (Mem.own1 0 (by rfl) (by rfl)))) ?_
              refine P_det (by rfl) (Over_nil (y_sub (by rfl) (by rfl) (by unfold I64; omega))) ?_
              refine P_det (by rfl) (Over_nil (y_sub (by rfl) (by rfl) (by unfold I64; omega))) ?_
              refine P_det (by rfl) (Over_nil (y_fieldAddr (by rfl) fa24_2)) ?_
              refine PW_end (by rfl) ?_
              refine OverAll_nil ?_
              rintro -
              refine WS_store hF (us := [.int .i64 _]) (i := 0) (by rfl) (by rfl) Tryd.sizeOf3 (by rfl) (by rfl) (by rfl) (by first | decide | exact Nat.le_of_ble_eq_true rfl | simp) ?_
              refine WS_nil ?_
              refine Then_normal ?_
              refine W_seq ?_
              refine W_seq ?_
              obtain ⟨D, hD⟩ : ∃ D : Cn, D = c.cand f t (a : Int) (b : Int) := ⟨_, rfl⟩
              have hDe : D = ⟨c.sz, I2, D.st⟩ := by rw [hD, hI2e]; rfl
              have hDi : D.inn = I2 := by rw [hDe]
              have hDs : D.sz = c.sz := by rw [hDe]
              have hDl : D.inn.length = c.inn.length := by rw [hDi, hI2l]
              have hDn : D.n = c.n := by unfold Cn.n; rw [hDs]
              have hDst : c.st + sumL c.inn - (c.st + sumL I2 - c.st) = D.st := by rw [hD, hI2e]; show _ = c.st + sumL c.inn - sumL (c.ci f t a b); omega
              have hDsz : ∀ (C : Ctx) (H : List Blk) (w : World), H1.Sublist H → St C H w → Ints w z1 D.n q1 D.sz := fun C H w hs hw => by rw [hDn, hDs]; exact NewRow.ints hr1 rfl hs w hw
              refine W_pull (bo, CB [.slice z1 c.n q1, .slice (some ⟨bi, 0, none⟩) I2.length q2, .int .i64 (c.st + sumL c.inn - (c.st + sumL I2 - c.st))] 24) (by repeat (first | exact Pul.base0 | exact Pul.base | apply Pul.cons | apply Pul.app)) ?_
              rw [show CB [.slice z1 c.n q1, .slice (some ⟨bi, 0, none⟩) I2.length q2, .int .i64 (c.st + sumL c.inn - (c.st + sumL I2 - c.st))] 24 = CB [.slice z1 D.n q1, .slice (some ⟨bi, 0, none⟩) D.inn.length q2, .int .i64 D.st] 24 by rw [hDst, hDi, hDn], show iv I2 ++ ji = iv D.inn ++ ji by rw [hDi]]
              rw [← hDi] at hnb
              refine W_region_lit (fun ds => ?_)
              refine WS_det hF (by rfl) (y_loadN (by rfl) Tryd.isAgg24 Tryd.sizeOf24 (Mem.own (us := [.slice _ _ _, .slice _ _ _, .int .i64 _]) 0 (by rfl) (by rfl)) (by rfl)) ?_
              refine WS_det hF (by rfl) (y_callL (by rfl) (by rfl) Tryd.call52 (fun w hw => rcans_any D z1 q1 (some ⟨bi, 0, none⟩) q2 w (by omega) (by omega) (hDsz _ _ w sbA hw) (Ints.mem (xs := D.inn) (rest := ji) 1 (by rfl) (by rfl) (by omega) w hw))) ?_
              refine WS_det hF (by rfl) (y_not (by rfl)) ?_
              refine WS_nil ?_
              refine Then_normal ?_
              refine W_cond (by rfl) (fun c19 => ?_) (fun c19 => ?_)
              ·
                try simp only [Bool.not_eq_true', Bool.not_eq_false', decide_eq_true_eq, decide_eq_false_iff_not, ne_eq, Classical.not_not, Int.not_lt, Int.not_le] at c19
                have hI2 : c.RbI f t (a * 21 + b + 1) (bs.map Bl.x) := hI.skip fun x hx hj => by
                  have e := hx.cand hok hp hb20 hj
                  have h3 := (Cn.cand_ok (f := f) (t := t) (a := (a : Int)) (b := (b : Int)) hok).2 (e ▸ hx.inn)
                  rw [← hD] at h3
                  rw [h3] at c19
                  cases c19
                refine W_exit ?_
                refine Then_exit ?_
                refine InB_same ?_
                refine Then_normal ?_
                refine W_region_lit (fun ds => ?_)
                refine WS_det hF (by rfl) (y_move (c := .int .i64 _) (by rfl)) ?_
                refine WS_det hF (by rfl) (y_add (by rfl) (by rfl) (by unfold I64; omega)) ?_
                refine WS_det hF (by rfl) (y_assign (c := .int .i64 _) (by rfl)) ?_
                refine WS_nil ?_
                exact Loop_next (b + 1, bs, oa, oc, Hr, HX) ⟨by simp only; omega, hI2, hrow, hrd, hsh⟩ (by repeat (first | exact trivial | refine ⟨by rfl, ?_⟩)) sbA (by simp only; omega)
              ·
                try simp only [Bool.not_eq_true', Bool.not_eq_false', decide_eq_true_eq, decide_eq_false_iff_not, ne_eq, Classical.not_not, Int.not_lt, Int.not_le] at c19
                have hokD := Cn.ok_iff.1 c19
                have hcd : (c.cand f t (a : Int) (b : Int)).okB = true := by rw [← hD]; exact c19
                have hiff := Cn.cand_isBef hok hp hvB hcd
                rw [← hD] at hiff
                have hDof : c.of D.co = D := by rw [hD]; exact Cn.cand_of (by rw [← hD]; exact hokD)
                refine W_skip ?_
                refine Then_normal ?_
                refine W_seq ?_
                refine W_region_lit (fun ds => ?_)
                refine WS_det hF (by rfl) (y_loadN (by rfl) Tryd.isAgg24 Tryd.sizeOf24 (Mem.own (us := [.slice _ _ _, .slice _ _ _, .int .i64 _]) 0 (by rfl) (by rfl)) (by rfl)) ?_
                refine WS_det hF (by rfl) (y_loadN (by rfl) Tryd.isAgg26 Tryd.sizeOf26 (Mem.own (us := [.int .i64 _, .int .i64 _]) 2 (by rfl) (by rfl)) (by rfl)) ?_
                refine WS_gen hF (by rfl) (y_callL (by rfl) (by rfl) Tryd.call12 (fun w hw => rpour_any D z1 q1 (some ⟨bi, 0, none⟩) q2 ⟨(f : Int), (t : Int)⟩ w (by omega) (by omega) (hDsz _ _ w sbA hw) (Ints.mem (xs := D.inn) (rest := ji) 1 (by rfl) (by rfl) (by omega) w hw))) ?_
                rintro _ _ ⟨_, rfl, g1, k1, g2, k2, G1, G2, rfl, hg1, hg2, rfl⟩
                refine WS_back ?_
                refine WS_det hF (by rfl) (y_move (c := .tuple _) (by rfl)) ?_
                refine WS_det hF (by rfl) (y_extract (c := .agg _) (by rfl) (by rfl)) ?_
                refine WS_det hF (by rfl) (y_extract (c := .int .i64 _) (by rfl) (by rfl)) ?_
                refine WS_new hF (by rfl) (y_alloc Tryd.zeroValue24 (by rfl)) (fun bn => ?_)
                refine WS_store hF (us := [.slice _ _ _, .slice _ _ _, .int .i64 _]) (i := 0) (by rfl) (by rfl) Tryd.sizeOf24 (by rfl) (by rfl) (by rfl) (by first | decide | exact Nat.le_of_ble_eq_true rfl | simp) ?_
                refine WS_det hF (by rfl) (y_assign (c := .int .i64 _) (by rfl)) ?_
                refine WS_nil ?_
                refine Then_normal ?_
                refine W_seq ?_
                refine W_region_lit (fun ds => ?_)
                refine WS_det hF (by rfl) (y_move (c := .int .i64 _) (by rfl)) ?_
                refine WS_det hF (by rfl) (y_eql (by rfl) (by rfl)) ?_
                refine WS_det hF (by rfl) (y_move (c := .bool _) (by rfl)) ?_
                refine WS_split 85 (by rfl) (fun g21_2 => ?_) (fun g21_2 => ?_)
                ·
                  try simp only [Bool.not_eq_true', Bool.not_eq_false', decide_eq_true_eq, decide_eq_false_iff_not, ne_eq, Classical.not_not, Int.not_lt, Int.not_le] at g21_2
                  refine WS_det hF (by rfl) (y_loadN (by rfl) Tryd.isAgg24 Tryd.sizeOf24 (Mem.own (us := [.slice _ _ _, .slice _ _ _, .int .i64 _]) 0 (by rfl) (by rfl)) (by rfl)) ?_
                  refine WS_det hF (by rfl) (y_loadN (by rfl) Tryd.isAgg24 Tryd.sizeOf24 (Mem.own (us := [.slice _ _ _, .slice _ _ _, .int .i64 _]) 4 (by rfl) (by rfl)) (by rfl)) ?_
                  refine WS_det hF (by rfl) (y_callL (by rfl) (by rfl) Tryd.call15 (fun w hw => Ct_eq (rcsame_any (D.poC ⟨(f : Int), (t : Int)⟩) g1 k1 g2 k2 c a1 p1 a2 p2 w (poC_bd hokD).1 (poC_bd hokD).2 (NewRow.ints hg1 rfl sbA w hw) (NewRow.ints hg2 rfl sbA w hw) (h1.st w hw) (h2.st w hw)) (congrArg Value.bool cn_eq))) ?_
                  refine WS_det hF (by rfl) (by first | exact y_pick_t (c := .bool _) (by rfl) (by rfl) | exact y_pick_f (c := .bool _) (by rfl) (by rfl)) ?_
                  refine WS_nil ?_
                  refine Then_normal ?_
                  refine W_cond (by rfl) (fun c21 => ?_) (fun c21 => ?_)
                  ·
                    try simp only [Bool.not_eq_true', Bool.not_eq_false', decide_eq_true_eq, decide_eq_false_iff_not, ne_eq, Classical.not_not, Int.not_lt, Int.not_le] at c21
                    have hX := hiff.1 ⟨g21_2, c21⟩
                    obtain ⟨m, hm1, hm2, hm3⟩ := ins_at (bs.map Bl.x) D.co
                    rw [List.length_map] at hm1 hm3
                    simp only [bl_getx] at hm2 hm3
                    have hyj : Cn.jx f t D.co = ((a * 21 + b : Nat) : Int) := by rw [hD]; exact Cn.cand_jx hok hp hns
                    obtain ⟨y, hy⟩ : ∃ y : Bl, y = ⟨D.co, z1, q1, some ⟨bi, 0, none⟩, q2⟩ := ⟨_, rfl⟩
                    have hyx : y.x = D.co := by rw [hy]
                    have hyc : [Value.slice z1 D.n q1, .slice (some ⟨bi, 0, none⟩) D.inn.length q2, .int .i64 D.st] = y.cells c := by
                      rw [hy]; unfold Bl.cells; simp only; rw [hDof, hDn]; rfl
                    have hyr : y.RdH c (HX ++ (H1 ++ [(bi, CB (iv D.inn ++ ji) 3)])) := by
                      rw [hy]
                      exact Bl.RdH.new hr1 (by rw [hDof]; exact hnb)
                    refine W_region_lit (fun ds => ?_)
                    refine WS_det hF (by rfl) (y_move (c := .slice _ _ _) (by rfl)) ?_
                    refine WS_det hF (by rfl) (y_loadN (by rfl) Tryd.isAgg24 Tryd.sizeOf24 (Mem.own (us := [.slice _ _ _, .slice _ _ _, .int .i64 _]) 1 (by rfl) (by rfl)) (by rfl)) ?_
                    refine WS_gen hF (by rfl) (y_callL (by rfl) (by rfl) Tryd.call91 (fun w hw => radded_v c hok bs y _ hyc oa oc m w (NewRow.rws (bl_len c) hrow rfl sbA w hw) hbl (fun z hz => ⟨((hI.mem z.x).1 (List.mem_map_of_mem hz)).1.inn, (hrd z hz).i _ _ w sbA hw⟩) ⟨by rw [hyx]; exact hX.inn, by rw [hy]; simp only; rw [hDof]; exact Ints.mem (xs := D.inn) (rest := ji) 2 (by rfl) (by rfl) (by omega) w hw⟩ hm1 (fun j hj => by rw [hyx]; exact hm2 j hj) (fun h => by rw [hyx]; exact hm3 h))) ?_
                    rintro _ Hr2 ⟨oa2, oc2, rfl, hro2⟩
                    refine WS_back ?_
                    refine WS_sub (H' := (bi, CB (iv D.inn ++ ji) 3) :: (b2, CB [.int .i64 (f : Int), .int .i64 (t : Int)] 26) :: (b1, CB [.slice a1 c.n p1, .slice a2 c.inn.length p2, .int .i64 c.st] 24) :: (HX ++ (H1 ++ Hr2))) (HSub.sub sbA) ?_
                    refine WS_push (M := (b2, CB [.int .i64 (f : Int), .int .i64 (t : Int)] 26) :: (b1, CB [.slice a1 c.n p1, .slice a2 c.inn.length p2, .int .i64 c.st] 24) :: ((HX ++ (H1 ++ [(bi, CB (iv D.inn ++ ji) 3)])) ++ Hr2)) (by repeat (first | exact perm_bi | apply List.Perm.cons | exact perm_bi.trans (List.Perm.refl _) | refine List.Perm.trans (List.Perm.cons _ (List.Perm.cons _ perm_bi)) ?_ | exact (List.Perm.cons _ (List.Perm.swap _ _ _)).trans (List.Perm.swap _ _ _))) ?_
                    obtain ⟨HX2, hHX2⟩ : ∃ HX2, HX2 = HX ++ (H1 ++ [(bi, CB (iv D.inn ++ ji) 3)]) := ⟨_, rfl⟩
                    rw [← hHX2]
                    have hlen2 := blIns_len bs m y hm1
                    have hmap2 : (blIns bs m y).map Bl.x = (bs.map Bl.x).take m ++ D.co :: (bs.map Bl.x).drop m := by
                      unfold blIns
                      rw [List.map_append, List.map_cons, List.map_take, List.map_drop, hyx]
                    have hI3 : c.RbI f t (a * 21 + (b + 1)) ((blIns bs m y).map Bl.x) := by
                      rw [hmap2]
                      exact Cn.RbI.add hok hp hb20 hI hX hyj (by rw [List.length_map]; exact hm1) (fun j hj => by rw [bl_getx]; exact hm2 j hj) (fun h => by rw [bl_getx]; rw [List.length_map] at h; exact hm3 h)
                    have hrow3 : NewRow 24 3 (blIns bs m y).length (blRow c (blIns bs m y)) (.slice oa2 (blIns bs m y).length oc2) Hr2 := by rw [hlen2]; exact hro2
                    have hrd3 : ∀ z ∈ blIns bs m y, z.RdH c HX2 := fun z hz => by
                      rw [hHX2]
                      unfold blIns at hz
                      rcases List.mem_append.1 hz with hz | hz
                      · exact (hrd z (List.mem_of_mem_take hz)).mono (List.sublist_append_left _ _)
                      · rcases List.mem_cons.1 hz with rfl | hz
                        · exact hyr
                        · exact (hrd z (List.mem_of_mem_drop hz)).mono (List.sublist_append_left _ _)
                    have hsh3 : Shp HX2 HX2 := by rw [hHX2]; exact hsh.app (hr1.shp.app hnb.shp)
                    rw [← hlen2]
                    refine WS_det hF (by rfl) (y_assign (c := .slice _ _ _) (by rfl)) ?_
                    refine WS_nil ?_
                    refine InB_normal ?_
                    refine Then_normal ?_
                    refine W_region_lit (fun ds => ?_)
                    refine WS_det hF (by rfl) (y_move (c := .int .i64 _) (by rfl)) ?_
                    refine WS_det hF (by rfl) (y_add (by rfl) (by rfl) (by unfold I64; omega)) ?_
                    refine WS_det hF (by rfl) (y_assign (c := .int .i64 _) (by rfl)) ?_
                    refine WS_nil ?_
                    exact Loop_next (b + 1, blIns bs m y, oa2, oc2, Hr2, HX2) ⟨by simp only; omega, hI3, hrow3, hrd3, hsh3⟩ (by repeat (first | exact trivial | refine ⟨by rfl, ?_⟩)) sbA (by simp only; omega)
                  ·
                    try simp only [Bool.not_eq_true', Bool.not_eq_false', decide_eq_true_eq, decide_eq_false_iff_not, ne_eq, Classical.not_not, Int.not_lt, Int.not_le] at c21
                    have hI2 : c.RbI f t (a * 21 + b + 1) (bs.map Bl.x) := hI.skip fun x hx hj => by
                      have e := hx.cand hok hp hb20 hj
                      rw [← hD] at e
                      obtain ⟨h3, h4⟩ := hiff.2 (e ▸ hx)
                      first
                        | exact c21 h4
                        | exact g21_2 h3
                    refine W_skip ?_
                    refine InB_normal ?_
                    refine Then_normal ?_
                    refine W_region_lit (fun ds => ?_)
                    refine WS_det hF (by rfl) (y_move (c := .int .i64 _) (by rfl)) ?_
                    refine WS_det hF (by rfl) (y_add (by rfl) (by rfl) (by unfold I64; omega)) ?_
                    refine WS_det hF (by rfl) (y_assign (c := .int .i64 _) (by rfl)) ?_
                    refine WS_nil ?_
                    exact Loop_next (b + 1, bs, oa, oc, Hr, HX) ⟨by simp only; omega, hI2, hrow, hrd, hsh⟩ (by repeat (first | exact trivial | refine ⟨by rfl, ?_⟩)) sbA (by simp only; omega)
                ·
                  try simp only [Bool.not_eq_true', Bool.not_eq_false', decide_eq_true_eq, decide_eq_false_iff_not, ne_eq, Classical.not_not, Int.not_lt, Int.not_le] at g21_2
                  refine WS_no hF (by rfl) ?_
                  refine WS_no hF (by rfl) ?_
                  refine WS_no hF (by rfl) ?_
                  refine WS_det hF (by rfl) (by first | exact y_pick_t (c := .bool _) (by rfl) (by rfl) | exact y_pick_f (c := .bool _) (by rfl) (by rfl)) ?_
                  refine WS_nil ?_
                  refine Then_normal ?_
                  refine W_cond (by rfl) (fun c21 => ?_) (fun c21 => ?_)
                  · cases c21
                  ·
                    try simp only [Bool.not_eq_true', Bool.not_eq_false', decide_eq_true_eq, decide_eq_false_iff_not, ne_eq, Classical.not_not, Int.not_lt, Int.not_le] at c21
                    have hI2 : c.RbI f t (a * 21 + b + 1) (bs.map Bl.x) := hI.skip fun x hx hj => by
                      have e := hx.cand hok hp hb20 hj
                      rw [← hD] at e
                      obtain ⟨h3, h4⟩ := hiff.2 (e ▸ hx)
                      first
                        | exact c21 h4
                        | exact g21_2 h3
                    refine W_skip ?_
                    refine InB_normal ?_
                    refine Then_normal ?_
                    refine W_region_lit (fun ds => ?_)
                    refine WS_det hF (by rfl) (y_move (c := .int .i64 _) (by rfl)) ?_
                    refine WS_det hF (by rfl) (y_add (by rfl) (by rfl) (by unfold I64; omega)) ?_
                    refine WS_det hF (by rfl) (y_assign (c := .int .i64 _) (by rfl)) ?_
                    refine WS_nil ?_
                    exact Loop_next (b + 1, bs, oa, oc, Hr, HX) ⟨by simp only; omega, hI2, hrow, hrd, hsh⟩ (by repeat (first | exact trivial | refine ⟨by rfl, ?_⟩)) sbA (by simp only; omega)
            ·
              intro J18
              refine W_seq ?_
              refine W_seq ?_
              refine W_region_lit (fun ds => ?_)
              refine WS_det hF (by rfl) (y_fieldAddr (by rfl) fa26_0) ?_
              refine WS_det hF (by rfl) (y_load1 (by rfl) Tryd.isAgg3 (Mem.own1 2 (by rfl) (by rfl))) ?_
              refine WS_det hF (by rfl) (y_gtr (by rfl) (by rfl)) ?_
              refine WS_nil ?_
              refine Then_normal ?_
              refine W_cond (by rfl) (fun c14 => ?_) (fun c14 => ?_)
              ·
                try simp only [Bool.not_eq_true', Bool.not_eq_false', decide_eq_true_eq, decide_eq_false_iff_not, ne_eq, Classical.not_not, Int.not_lt, Int.not_le] at c14
                refine W_region_lit (fun ds => ?_)
                refine WS_det hF (by rfl) (y_fieldAddr (by rfl) fa24_1) ?_
                refine WS_det hF (by rfl) (y_load1 (by rfl) Tryd.isAgg22 (Mem.own1 0 (by rfl) (by rfl))) ?_
                refine WS_det hF (by rfl) (y_fieldAddr (by rfl) fa26_0) ?_
                refine WS_det hF (by rfl) (y_load1 (by rfl) Tryd.isAgg3 (Mem.own1 2 (by rfl) (by rfl))) ?_
                refine WS_det hF (by rfl) (y_sub (by rfl) (by rfl) (by unfold I64; omega)) ?_
                refine WS_det hF (by rfl) (y_move (c := .int .i64 _) (by rfl)) ?_
                refine WS_det hF (by rfl) (y_index (k := f - 1) (by rfl) (by rfl) (by first | rfl | omega) (by first | decide | omega) Tryd.runUnderlying22 Tryd.sizeOf3) ?_
                refine WS_store hF (us := [.int .i64 _]) (i := 1) (by rfl) (by rfl) Tryd.sizeOf3 (by rfl) (by rfl) (by rfl) (fit_iv (by omega)) ?_
                refine WS_nil ?_
                refine Then_normal ?_
                refine W_seq ?_
                refine W_seq ?_
                first
                  | rw [splice_iv _ _ _ _ (by omega), show c.inn.set (f - 1) (b : Int) = I1 by rw [hI1e]; unfold setI; rw [if_neg (by omega)]]
                  | rw [show iv c.inn ++ ji = iv I1 ++ ji by rw [hI1e]; unfold setI; rw [if_pos (by omega)]]
                refine W_region_lit (fun ds => ?_)
                refine WS_det hF (by rfl) (y_fieldAddr (by rfl) fa26_1) ?_
                refine WS_det hF (by rfl) (y_load1 (by rfl) Tryd.isAgg3 (Mem.own1 2 (by rfl) (by rfl))) ?_
                refine WS_det hF (by rfl) (y_gtr (by rfl) (by rfl)) ?_
                refine WS_nil ?_
                refine Then_normal ?_
                refine W_cond (by rfl) (fun c16 => ?_) (fun c16 => ?_)
                ·
                  try simp only [Bool.not_eq_true', Bool.not_eq_false', decide_eq_true_eq, decide_eq_false_iff_not, ne_eq, Classical.not_not, Int.not_lt, Int.not_le] at c16
                  refine W_region_lit (fun ds => ?_)
                  refine WS_det hF (by rfl) (y_fieldAddr (by rfl) fa24_1) ?_
                  refine WS_det hF (by rfl) (y_load1 (by rfl) Tryd.isAgg22 (Mem.own1 0 (by rfl) (by rfl))) ?_
                  refine WS_det hF (by rfl) (y_fieldAddr (by rfl) fa26_1) ?_
                  refine WS_det hF (by rfl) (y_load1 (by rfl) Tryd.isAgg3 (Mem.own1 2 (by rfl) (by rfl))) ?_
                  refine WS_det hF (by rfl) (y_sub (by rfl) (by rfl) (by unfold I64; omega)) ?_
                  refine WS_det hF (by rfl) (y_move (c := .int .i64 _) (by rfl)) ?_
                  refine WS_det hF (by rfl) (y_index (k := t - 1) (by rfl) (by rfl) (by first | rfl | omega) (by first | decide | omega) Tryd.runUnderlying22 Tryd.sizeOf3) ?_
                  refine WS_store hF (us := [.int .i64 _]) (i := 1) (by rfl) (by rfl) Tryd.sizeOf3 (by rfl) (by rfl) (by rfl) (fit_iv (by omega)) ?_
                  refine WS_nil ?_
                  refine Then_normal ?_
                  first | rw [splice_iv _ _ _ _ (by omega), show I1.set (t - 1) (a : Int) = I2 by rw [hI2e]; unfold Cn.ci; rw [← hI1e]; unfold setI; rw [if_neg (by omega)]] | rw [show iv I1 ++ ji = iv I2 ++ ji by rw [hI2e]; unfold Cn.ci; rw [← hI1e]; unfold setI; rw [if_pos (by omega)]]
                  exact J18 () _ _  trivial slt slt (HSub.sub sbA)
                ·
                  try simp only [Bool.not_eq_true', Bool.not_eq_false', decide_eq_true_eq, decide_eq_false_iff_not, ne_eq, Classical.not_not, Int.not_lt, Int.not_le] at c16
                  refine W_skip ?_
                  refine Then_normal ?_
                  first | rw [splice_iv _ _ _ _ (by omega), show I1.set (t - 1) (a : Int) = I2 by rw [hI2e]; unfold Cn.ci; rw [← hI1e]; unfold setI; rw [if_neg (by omega)]] | rw [show iv I1 ++ ji = iv I2 ++ ji by rw [hI2e]; unfold Cn.ci; rw [← hI1e]; unfold setI; rw [if_pos (by omega)]]
                  exact J18 () _ _  trivial slt slt (HSub.sub sbA)
              ·
                try simp only [Bool.not_eq_true', Bool.not_eq_false', decide_eq_true_eq, decide_eq_false_iff_not, ne_eq, Classical.not_not, Int.not_lt, Int.not_le] at c14
                refine W_skip ?_
                refine Then_normal ?_
                refine W_seq ?_
                refine W_seq ?_
                first
                  | rw [splice_iv _ _ _ _ (by omega), show c.inn.set (f - 1) (b : Int) = I1 by rw [hI1e]; unfold setI; rw [if_neg (by omega)]]
                  | rw [show iv c.inn ++ ji = iv I1 ++ ji by rw [hI1e]; unfold setI; rw [if_pos (by omega)]]
                refine W_region_lit (fun ds => ?_)
                refine WS_det hF (by rfl) (y_fieldAddr (by rfl) fa26_1) ?_
                refine WS_det hF (by rfl) (y_load1 (by rfl) Tryd.isAgg3 (Mem.own1 2 (by rfl) (by rfl))) ?_
                refine WS_det hF (by rfl) (y_gtr (by rfl) (by rfl)) ?_
                refine WS_nil ?_
                refine Then_normal ?_
                refine W_cond (by rfl) (fun c16 => ?_) (fun c16 => ?_)
                ·
                  try simp only [Bool.not_eq_true', Bool.not_eq_false', decide_eq_true_eq, decide_eq_false_iff_not, ne_eq, Classical.not_not, Int.not_lt, Int.not_le] at c16
                  refine W_region_lit (fun ds => ?_)
                  refine WS_det hF (by rfl) (y_fieldAddr (by rfl) fa24_1) ?_
                  refine WS_det hF (by rfl) (y_load1 (by rfl) Tryd.isAgg22 (Mem.own1 0 (by rfl) (by rfl))) ?_
                  refine WS_det hF (by rfl) (y_fieldAddr (by rfl) fa26_1) ?_
                  refine WS_det hF (by rfl) (y_load1 (by rfl) Tryd.isAgg3 (Mem.own1 2 (by rfl) (by rfl))) ?_
                  refine WS_det hF (by rfl) (y_sub (by rfl) (by rfl) (by unfold I64; omega)) ?_
                  refine WS_det hF (by rfl) (y_move (c := .int .i64 _) (by rfl)) ?_
                  refine WS_det hF (by rfl) (y_index (k := t - 1) (by rfl) (by rfl) (by first | rfl | omega) (by first | decide | omega) Tryd.runUnderlying22 Tryd.sizeOf3) ?_
                  refine WS_store hF (us := [.int .i64 _]) (i := 1) (by rfl) (by rfl) Tryd.sizeOf3 (by rfl) (by rfl) (by rfl) (fit_iv (by omega)) ?_
                  refine WS_nil ?_
                  refine Then_normal ?_
                  first | rw [splice_iv _ _ _ _ (by omega), show I1.set (t - 1) (a : Int) = I2 by rw [hI2e]; unfold Cn.ci; rw [← hI1e]; unfold setI; rw [if_neg (by omega)]] | rw [show iv I1 ++ ji = iv I2 ++ ji by rw [hI2e]; unfold Cn.ci; rw [← hI1e]; unfold setI; rw [if_pos (by omega)]]
                  exact J18 () _ _  trivial slt slt (HSub.sub sbA)
                ·
                  try simp only [Bool.not_eq_true', Bool.not_eq_false', decide_eq_true_eq, decide_eq_false_iff_not, ne_eq, Classical.not_not, Int.not_lt, Int.not_le] at c16
                  refine W_skip ?_
                  refine Then_normal ?_
                  first | rw [splice_iv _ _ _ _ (by omega), show I1.set (t - 1) (a : Int) = I2 by rw [hI2e]; unfold Cn.ci; rw [← hI1e]; unfold setI; rw [if_neg (by omega)]] | rw [show iv I1 ++ ji = iv I2 ++ ji by rw [hI2e]; unfold Cn.ci; rw [← hI1e]; unfold setI; rw [if_pos (by omega)]]
                  exact J18 () _ _  trivial slt slt (HSub.sub sbA)
          ·
            intro J14
            refine W_seq ?_
            refine W_seq ?_
            refine W_pull (bo, CB [.slice z1 c.n q1, .slice (some ⟨bi, 0, none⟩) c.inn.length q2, .int .i64 c.st] 24) (by repeat (first | exact Pul.base0 | exact Pul.base | apply Pul.cons | apply Pul.app)) ?_
            rw [show CB [.slice z1 c.n q1, .slice (some ⟨bi, 0, none⟩) c.inn.length q2, .int .i64 c.st] 24 = CB [.slice z1 c.n q1, .slice (some ⟨bi, 0, none⟩) (c.ci f t (a : Int) (b : Int)).length q2, .int .i64 c.st] 24 by rw [hcl]]
            refine W_region_lit (fun ds => ?_)
            refine WS_det hF (by rfl) (y_fieldAddr (by rfl) fa26_0) ?_
            refine WS_det hF (by rfl) (y_load1 (by rfl) Tryd.isAgg3 (Mem.own1 2 (by rfl) (by rfl))) ?_
            refine WS_det hF (by rfl) (y_eql (by rfl) (by rfl)) ?_
            refine WS_det hF (by rfl) (y_move (c := .bool _) (by rfl)) ?_
            refine WS_split 32 (by rfl) (fun g13_3 => ?_) (fun g13_3 => ?_)
            ·
              try simp only [Bool.not_eq_true', Bool.not_eq_false', decide_eq_true_eq, decide_eq_false_iff_not, ne_eq, Classical.not_not, Int.not_lt, Int.not_le] at g13_3
              refine WS_det hF (by rfl) (y_move (c := .int .i64 _) (by rfl)) ?_
              refine WS_det hF (by rfl) (y_gtr (by rfl) (by rfl)) ?_
              refine WS_det hF (by rfl) (by first | exact y_pick_t (c := .bool _) (by rfl) (by rfl) | exact y_pick_f (c := .bool _) (by rfl) (by rfl)) ?_
              refine WS_det hF (by rfl) (y_move (c := .bool _) (by rfl)) ?_
              refine WS_split 36 (by rfl) (fun g13_7 => ?_) (fun g13_7 => ?_)
              ·
                try simp only [Bool.not_eq_true', Bool.not_eq_false', decide_eq_true_eq, decide_eq_false_iff_not, ne_eq, Classical.not_not, Int.not_lt, Int.not_le] at g13_7
                refine WS_no hF (by rfl) ?_
                refine WS_no hF (by rfl) ?_
                refine WS_no hF (by rfl) ?_
                refine WS_no hF (by rfl) ?_
                refine WS_no hF (by rfl) ?_
                refine WS_no hF (by rfl) ?_
                refine WS_no hF (by rfl) ?_
                refine WS_det hF (by rfl) (by first | exact y_pick_t (c := .bool _) (by rfl) (by rfl) | exact y_pick_f (c := .bool _) (by rfl) (by rfl)) ?_
                refine WS_nil ?_
                refine Then_normal ?_
                refine W_cond (by rfl) (fun c13 => ?_) (fun c13 => ?_)
                ·
                  try simp only [Bool.not_eq_true', Bool.not_eq_false', decide_eq_true_eq, decide_eq_false_iff_not, ne_eq, Classical.not_not, Int.not_lt, Int.not_le] at c13
                  have hsk : (f = 0 ∧ 0 < b) ∨ (t = 0 ∧ 0 < a) := by omega
                  have hI2 : c.RbI f t (a * 21 + b + 1) (bs.map Bl.x) := hI.skip fun x hx hj => by
                    obtain ⟨h1, h2⟩ := hx.jx_split hok hp hb20 hj
                    rcases hsk with ⟨e1, e2⟩ | ⟨e1, e2⟩
                    · rw [if_pos e1] at h2; omega
                    · rw [if_pos e1] at h1; omega
                  refine W_exit ?_
                  refine Then_exit ?_
                  refine InB_same ?_
                  refine Then_normal ?_
                  refine W_region_lit (fun ds => ?_)
                  refine WS_det hF (by rfl) (y_move (c := .int .i64 _) (by rfl)) ?_
                  refine WS_det hF (by rfl) (y_add (by rfl) (by rfl) (by unfold I64; omega)) ?_
                  refine WS_det hF (by rfl) (y_assign (c := .int .i64 _) (by rfl)) ?_
                  refine WS_nil ?_
                  exact Loop_next (b + 1, bs, oa, oc, Hr, HX) ⟨by simp only; omega, hI2, hrow, hrd, hsh⟩ (by repeat (first | exact trivial | refine ⟨by rfl, ?_⟩)) sbA (by simp only; omega)
                · cases c13
              ·
                try simp only [Bool.not_eq_true', Bool.not_eq_false', decide_eq_true_eq, decide_eq_false_iff_not, ne_eq, Classical.not_not, Int.not_lt, Int.not_le] at g13_7
                refine WS_det hF (by rfl) (y_fieldAddr (by rfl) fa26_1) ?_
                refine WS_det hF (by rfl) (y_load1 (by rfl) Tryd.isAgg3 (Mem.own1 2 (by rfl) (by rfl))) ?_
                refine WS_det hF (by rfl) (y_eql (by rfl) (by rfl)) ?_
                refine WS_det hF (by rfl) (y_move (c := .bool _) (by rfl)) ?_
                refine WS_split 40 (by rfl) (fun g13_11 => ?_) (fun g13_11 => ?_)
                ·
                  try simp only [Bool.not_eq_true', Bool.not_eq_false', decide_eq_true_eq, decide_eq_false_iff_not, ne_eq, Classical.not_not, Int.not_lt, Int.not_le] at g13_11
                  refine WS_det hF (by rfl) (y_move (c := .int .i64 _) (by rfl)) ?_
                  refine WS_det hF (by rfl) (y_gtr (by rfl) (by rfl)) ?_
                  refine WS_det hF (by rfl) (by first | exact y_pick_t (c := .bool _) (by rfl) (by rfl) | exact y_pick_f (c := .bool _) (by rfl) (by rfl)) ?_
                  refine WS_det hF (by rfl) (by first | exact y_pick_t (c := .bool _) (by rfl) (by rfl) | exact y_pick_f (c := .bool _) (by rfl) (by rfl)) ?_
                  refine WS_nil ?_
                  refine Then_normal ?_
                  refine W_cond (by rfl) (fun c13 => ?_) (fun c13 => ?_)
                  ·
                    try simp only [Bool.not_eq_true', Bool.not_eq_false', decide_eq_true_eq, decide_eq_false_iff_not, ne_eq, Classical.not_not, Int.not_lt, Int.not_le] at c13
                    have hsk : (f = 0 ∧ 0 < b) ∨ (t = 0 ∧ 0 < a) := by omega
                    have hI2 : c.RbI f t (a * 21 + b + 1) (bs.map Bl.x) := hI.skip fun x hx hj => by
                      obtain ⟨h1, h2⟩ := hx.jx_split hok hp hb20 hj
                      rcases hsk with ⟨e1, e2⟩ | ⟨e1, e2⟩
                      · rw [if_pos e1] at h2; omega
                      · rw [if_pos e1] at h1; omega
                    refine W_exit ?_
                    refine Then_exit ?_
                    refine InB_same ?_
                    refine Then_normal ?_
                    refine W_region_lit (fun ds => ?_)
                    refine WS_det hF (by rfl) (y_move (c := .int .i64 _) (by rfl)) ?_
                    refine WS_det hF (by rfl) (y_add (by rfl) (by rfl) (by unfold I64; omega)) ?_
                    refine WS_det hF (by rfl) (y_assign (c := .int .i64 _) (by rfl)) ?_
                    refine WS_nil ?_
                    exact Loop_next (b + 1, bs, oa, oc, Hr, HX) ⟨by simp only; omega, hI2, hrow, hrd, hsh⟩ (by repeat (first | exact trivial | refine ⟨by rfl, ?_⟩)) sbA (by simp only; omega)
                  ·
                    try simp only [Bool.not_eq_true', Bool.not_eq_false', decide_eq_true_eq, decide_eq_false_iff_not, ne_eq, Classical.not_not, Int.not_lt, Int.not_le] at c13
                    refine W_skip ?_
                    refine Then_normal ?_
                    exact J14 () _ _  (by omega) slt slt (HSub.sub sbA)
                ·
                  try simp only [Bool.not_eq_true', Bool.not_eq_false', decide_eq_true_eq, decide_eq_false_iff_not, ne_eq, Classical.not_not, Int.not_lt, Int.not_le] at g13_11
                  refine WS_no hF (by rfl) ?_
                  refine WS_no hF (by rfl) ?_
                  refine WS_det hF (by rfl) (by first | exact y_pick_t (c := .bool _) (by rfl) (by rfl) | exact y_pick_f (c := .bool _) (by rfl) (by rfl)) ?_
                  refine WS_det hF (by rfl) (by first | exact y_pick_t (c := .bool _) (by rfl) (by rfl) | exact y_pick_f (c := .bool _) (by rfl) (by rfl)) ?_
                  refine WS_nil ?_
                  refine Then_normal ?_
                  refine W_cond (by rfl) (fun c13 => ?_) (fun c13 => ?_)
                  · cases c13
                  ·
                    try simp only [Bool.not_eq_true', Bool.not_eq_false', decide_eq_true_eq, decide_eq_false_iff_not, ne_eq, Classical.not_not, Int.not_lt, Int.not_le] at c13
                    refine W_skip ?_
                    refine Then_normal ?_
                    exact J14 () _ _  (by omega) slt slt (HSub.sub sbA)
            ·
              try simp only [Bool.not_eq_true', Bool.not_eq_false', decide_eq_true_eq, decide_eq_false_iff_not, ne_eq, Classical.not_not, Int.not_lt, Int.not_le] at g13_3
              refine WS_no hF (by rfl) ?_
              refine WS_no hF (by rfl) ?_
              refine WS_det hF (by rfl) (by first | exact y_pick_t (c := .bool _) (by rfl) (by rfl) | exact y_pick_f (c := .bool _) (by rfl) (by rfl)) ?_
              refine WS_det hF (by rfl) (y_move (c := .bool _) (by rfl)) ?_
              refine WS_det hF (by rfl) (y_fieldAddr (by rfl) fa26_1) ?_
              refine WS_det hF (by rfl) (y_load1 (by rfl) Tryd.isAgg3 (Mem.own1 2 (by rfl) (by rfl))) ?_
              refine WS_det hF (by rfl) (y_eql (by rfl) (by rfl)) ?_
              refine WS_det hF (by rfl) (y_move (c := .bool _) (by rfl)) ?_
              refine WS_split 40 (by rfl) (fun g13_11 => ?_) (fun g13_11 => ?_)
              ·
                try simp only [Bool.not_eq_true', Bool.not_eq_false', decide_eq_true_eq, decide_eq_false_iff_not, ne_eq, Classical.not_not, Int.not_lt, Int.not_le] at g13_11
                refine WS_det hF (by rfl) (y_move (c := .int .i64 _) (by rfl)) ?_
                refine WS_det hF (by rfl) (y_gtr (by rfl) (by rfl)) ?_
                refine WS_det hF (by rfl) (by first | exact y_pick_t (c := .bool _) (by rfl) (by rfl) | exact y_pick_f (c := .bool _) (by rfl) (by rfl)) ?_
                refine WS_det hF (by rfl) (by first | exact y_pick_t (c := .bool _) (by rfl) (by rfl) | exact y_pick_f (c := .bool _) (by rfl) (by rfl)) ?_
                refine WS_nil ?_
                refine Then_normal ?_
                refine W_cond (by rfl) (fun c13 => ?_) (fun c13 => ?_)
                ·
                  try simp only [Bool.not_eq_true', Bool.not_eq_false', decide_eq_true_eq, decide_eq_false_iff_not, ne_eq, Classical.not_not, Int.not_lt, Int.not_le] at c13
                  have hsk : (f = 0 ∧ 0 < b) ∨ (t = 0 ∧ 0 < a) := by omega
                  have hI2 : c.RbI f t (a * 21 + b + 1) (bs.map Bl.x) := hI.skip fun x hx hj => by
                    obtain ⟨h1, h2⟩ := hx.jx_split hok hp hb20 hj
                    rcases hsk with ⟨e1, e2⟩ | ⟨e1, e2⟩
                    · rw [if_pos e1] at h2; omega
                    · rw [if_pos e1] at h1; omega
                  refine W_exit ?_
                  refine Then_exit ?_
                  refine InB_same ?_
                  refine Then_normal ?_
                  refine W_region_lit (fun ds => ?_)
                  refine WS_det hF (by rfl) (y_move (c := .int .i64 _) (by rfl)) ?_
                  refine WS_det hF (by rfl) (y_add (by rfl) (by rfl) (by unfold I64; omega)) ?_
                  refine WS_det hF (by rfl) (y_assign (c := .int .i64 _) (by rfl)) ?_
                  refine WS_nil ?_
                  exact Loop_next (b + 1, bs, oa, oc, Hr, HX) ⟨by simp only; omega, hI2, hrow, hrd, hsh⟩ (by repeat (first | exact trivial | refine ⟨by rfl, ?_⟩)) sbA (by simp only; omega)
                ·
                  try simp only [Bool.not_eq_true', Bool.not_eq_false', decide_eq_true_eq, decide_eq_false_iff_not, ne_eq, Classical.not_not, Int.not_lt, Int.not_le] at c13
                  refine W_skip ?_
                  refine Then_normal ?_
                  exact J14 () _ _  (by omega) slt slt (HSub.sub sbA)
              ·
                try simp only [Bool.not_eq_true', Bool.not_eq_false', decide_eq_true_eq, decide_eq_false_iff_not, ne_eq, Classical.not_not, Int.not_lt, Int.not_le] at g13_11
                refine WS_no hF (by rfl) ?_
                refine WS_no hF (by rfl) ?_
                refine WS_det hF (by rfl) (by first | exact y_pick_t (c := .bool _) (by rfl) (by rfl) | exact y_pick_f (c := .bool _) (by rfl) (by rfl)) ?_
                refine WS_det hF (by rfl) (by first | exact y_pick_t (c := .bool _) (by rfl) (by rfl) | exact y_pick_f (c := .bool _) (by rfl) (by rfl)) ?_
                refine WS_nil ?_
                refine Then_normal ?_
                refine W_cond (by rfl) (fun c13 => ?_) (fun c13 => ?_)
                · cases c13
                ·
                  try simp only [Bool.not_eq_true', Bool.not_eq_false', decide_eq_true_eq, decide_eq_false_iff_not, ne_eq, Classical.not_not, Int.not_lt, Int.not_le] at c13
                  refine W_skip ?_
                  refine Then_normal ?_
                  exact J14 () _ _  (by omega) slt slt (HSub.sub sbA)
        ·
          try simp only [Bool.not_eq_true', Bool.not_eq_false', decide_eq_true_eq, decide_eq_false_iff_not, ne_eq, Classical.not_not, Int.not_lt, Int.not_le] at c10
          have hI1 : c.RbI f t ((a + 1) * 21) (bs.map Bl.x) := by
            have : b = 21 := by omega
            subst this
            rw [Nat.succ_mul]; exact hI
          refine W_exit ?_
          refine Then_exit ?_
          refine Loop_exit ?_
          refine InB_same ?_
          refine InB_normal ?_
          refine Then_normal ?_
          refine W_region_lit (fun ds => ?_)
          refine WS_det hF (by rfl) (y_move (c := .int .i64 _) (by rfl)) ?_
          refine WS_det hF (by rfl) (y_add (by rfl) (by rfl) (by unfold I64; omega)) ?_
          refine WS_det hF (by rfl) (y_assign (c := .int .i64 _) (by rfl)) ?_
          refine WS_nil ?_
          exact Loop_next (a + 1, bs, oa, oc, Hr, HX) ⟨by simp only; omega, hI1, hrow, hrd, hsh⟩ (by repeat (first | exact trivial | refine ⟨by rfl, ?_⟩)) sbA (by simp only; omega)
      ·
        try simp only [Bool.not_eq_true', Bool.not_eq_false', decide_eq_true_eq, decide_eq_false_iff_not, ne_eq, Classical.not_not, Int.not_lt, Int.not_le] at c7
        obtain rfl : a = 21 := by omega
        refine W_exit ?_
        refine Then_exit ?_
        refine Loop_exit ?_
        refine InB_same ?_
        refine Then_normal ?_
        refine W_seq ?_
        refine W_region_lit (fun ds => ?_)
        refine WS_det hF (by rfl) (y_move (c := .slice _ _ _) (by rfl)) ?_
        refine WS_det hF (by rfl) (y_assign (c := .slice _ _ _) (by rfl)) ?_
        refine WS_det hF (by rfl) (y_assign (c := .int .i64 _) (by rfl)) ?_
        refine WS_nil ?_
        refine Then_normal ?_
        refine W_ret ?_
        refine Fin_ret [.slice _ _ _, .int .i64 _] (HX0 ++ Hr0) Tryd.results38 ⟨by rfl, by rfl, trivial⟩ (HSub.sub sbA) ?_
        refine ⟨0, bs0, oa0, oc0, Hr0, HX0, rfl, ?_, hrow0, hrd0, hsh0, rfl⟩
        unfold Cn.Bef
        rw [if_pos hokB, if_pos hvB]
        exact ⟨rfl, hI0.done hok hp⟩
end Go.Proofs.YtjekjehgmljbgaaDoor.T

/- Lists of cans compared, and the law CanBefore, walked. -/
namespace Go.Proofs.YtjekjehgmljbgaaDoor.T
open Go.RowKit Go.Proofs Go.Eng
set_option maxRecDepth 100000
set_option maxHeartbeats 1000000
set_option linter.unusedVariables false
set_option linter.unusedSimpArgs false



theorem of_len3 (c : Cn) (x : Co) : (c.of x).inn.length ≤ 3 := by
  unfold Cn.of
  simp only [List.length_take, List.length_cons, List.length_nil]
  omega
theorem Cn.Bef.len {c : Cn} {p : Po} {e : Int} {L : List Co} (h : c.Bef p e L) : L.length ≤ 1000 := by
  unfold Cn.Bef at h
  split at h
  · rename_i hok
    split at h
    · rename_i hv
      have hO := Cn.ok_iff.1 hok
      obtain ⟨⟨hf0, hf1⟩, ⟨ht0, ht1⟩, hne⟩ := Cn.vld_iff.1 hv
      have hp : c.Fp p.f.toNat p.t.toNat := ⟨by omega, by omega, by omega⟩
      refine Cn.RbI.len (J := 21 * 21) hO hp ⟨h.2.srt, fun x => (h.2.mem x).trans ⟨fun h1 => ⟨h1, ?_⟩, fun h1 => h1.1⟩⟩
      obtain ⟨⟨_, a1⟩, _, a2⟩ := h1.parts hO hp
      unfold Cn.jx
      omega
    · rw [h.2]; exact Nat.zero_le _
  · rw [h.2]; exact Nat.zero_le _
theorem rsameall_any (c : Cn) (bs bs' : List Bl) (a : Option Addr) (cap : Nat) (a' : Option Addr) (cap' : Nat) (w : World) (hn : c.n ≤ 1000000) (hl : bs.length ≤ 1000000) (he : bs.map Bl.x = bs'.map Bl.x) (hb : Rws (Bl.cells c) 3 Bl.z w a bs.length cap bs) (hb' : Rws (Bl.cells c) 3 Bl.z w a' bs'.length cap' bs')
    (hr : ∀ b ∈ bs, Ints w b.s c.n b.ks c.sz ∧ Ints w b.i (c.of b.x).inn.length b.ki (c.of b.x).inn) (hr' : ∀ b ∈ bs', Ints w b.s c.n b.ks c.sz ∧ Ints w b.i (c.of b.x).inn.length b.ki (c.of b.x).inn) :
    Ct Tryd.prog 39 #[.slice a bs.length cap, .slice a' bs'.length cap'] w fun v _ => v = .bool true := by
  have hll : bs.length = bs'.length := by simpa using congrArg List.length he
  have hmem : ∀ (l : List Bl) j, j < l.length → l.getD j Bl.z ∈ l := fun l j hj => by rw [List.getD_eq_getElem?_getD, List.getElem?_eq_getElem hj]; exact List.getElem_mem _
  have hF := wide_wide
  refine Ct_start (args := [_, _]) Tryd.func39 (by rfl) Tryd.ntmps39 (by rfl) ?_
  refine W_seq ?_
  refine W_region_lit (fun ds => ?_)
  refine WS_det hF (by rfl) (y_assign (c := .bool _) (by rfl)) ?_
  refine WS_nil ?_
  refine Then_normal ?_
  refine W_seq ?_
  refine W_seq ?_
  refine W_region_lit (fun ds => ?_)
  refine WS_det hF (by rfl) (y_move (c := .slice _ _ _) (by rfl)) ?_
  refine WS_det hF (by rfl) (y_len (by rfl) Tryd.runUnderlying40) ?_
  refine WS_det hF (by rfl) (y_move (c := .slice _ _ _) (by rfl)) ?_
  refine WS_det hF (by rfl) (y_len (by rfl) Tryd.runUnderlying40) ?_
  refine WS_det hF (by rfl) (y_neq (by rfl) (by rfl)) ?_
  refine WS_nil ?_
  refine Then_normal ?_
  refine W_cond (by rfl) (fun c1 => ?_) (fun c1 => ?_)
  · exact absurd c1 (by simp only [decide_eq_true_eq]; omega)
  ·
    try simp only [Bool.not_eq_true', Bool.not_eq_false', decide_eq_true_eq, decide_eq_false_iff_not, ne_eq, Classical.not_not, Int.not_lt, Int.not_le] at c1
    refine W_skip ?_
    refine Then_normal ?_
    refine W_seq ?_
    refine W_seq ?_
    refine W_region_lit (fun ds => ?_)
    refine WS_det hF (by rfl) (y_assign (c := .int .i64 _) (by rfl)) ?_
    refine WS_nil ?_
    refine Then_normal ?_
    refine W_block ?_
    refine W_loop (γ := Nat) (fun k => k ≤ bs.length) (fun k => [(0, .slice a bs.length cap), (1, .slice a' bs'.length cap'), (5, .int .i64 (k : Int))]) (fun _ => _) (fun k => bs.length - k) (0) (Nat.zero_le _) (by repeat (first | exact trivial | refine ⟨by rfl, ?_⟩)) (List.Sublist.refl _) ?_
    intro k e hk
    refine W_seq ?_
    refine W_seq ?_
    refine W_region_lit (fun ds => ?_)
    refine WS_det hF (by rfl) (y_move (c := .int .i64 _) (by rfl)) ?_
    refine WS_det hF (by rfl) (y_move (c := .slice _ _ _) (by rfl)) ?_
    refine WS_det hF (by rfl) (y_len (by rfl) Tryd.runUnderlying40) ?_
    refine WS_det hF (by rfl) (y_lss (by rfl) (by rfl)) ?_
    refine WS_nil ?_
    refine Then_normal ?_
    refine W_cond (by rfl) (fun c4 => ?_) (fun c4 => ?_)
    ·
      try simp only [Bool.not_eq_true', Bool.not_eq_false', decide_eq_true_eq, decide_eq_false_iff_not, ne_eq, Classical.not_not, Int.not_lt, Int.not_le] at c4
      have hk1 : k < bs.length := by omega
      obtain ⟨b, o, rfl, hc⟩ := hb.cell k (by omega)
      change At w b _ (Bl.cells c (bs.getD k Bl.z)) at hc
      obtain ⟨b', o', rfl, hc'⟩ := hb'.cell k (by omega)
      change At w b' _ (Bl.cells c (bs'.getD k Bl.z)) at hc'
      have hxe : (bs.getD k Bl.z).x = (bs'.getD k Bl.z).x := by rw [← bl_getx, ← bl_getx, he]
      obtain ⟨i1, i2⟩ := hr _ (hmem bs k (by omega))
      obtain ⟨j1, j2⟩ := hr' _ (hmem bs' k (by omega))
      refine W_skip ?_
      refine Then_normal ?_
      refine W_seq ?_
      refine W_block ?_
      refine W_seq ?_
      refine W_draw0 hF Trydmixed [] (by decide +kernel) (fun ds => ?_)
      refine P_det (by rfl) (Over_nil (y_move (c := .slice _ _ _) (by rfl))) ?_
      refine P_det (by rfl) (Over_nil (y_move (c := .int .i64 _) (by rfl))) ?_
      refine P_det (by rfl) (Over_nil (y_index (k := k) (by rfl) (by rfl) (by first | rfl | omega) (by first | decide | omega) Tryd.runUnderlying40 Tryd.sizeOf24)) ?_
      refine P_det (by rfl) (Over_nil (y_loadN (by rfl) Tryd.isAgg24 Tryd.sizeOf24 (Mem.old hc) (by rfl))) ?_
      refine P_det (by rfl) (Over_nil (y_move (c := .slice _ _ _) (by rfl))) ?_
      refine P_det (by rfl) (Over_nil (y_move (c := .int .i64 _) (by rfl))) ?_
      refine P_det (by rfl) (Over_nil (y_index (k := k) (by rfl) (by rfl) (by first | rfl | omega) (by first | decide | omega) Tryd.runUnderlying40 Tryd.sizeOf24)) ?_
      refine P_det (by rfl) (Over_nil (y_loadN (by rfl) Tryd.isAgg24 Tryd.sizeOf24 (Mem.old hc') (by rfl))) ?_
      refine P_det (by rfl) (Over_nil (y_callL (by rfl) (by rfl) Tryd.call15 (fun w hw => Ct_eq (rcsame_any (c.of (bs.getD k Bl.z).x) _ _ _ _ (c.of (bs'.getD k Bl.z).x) _ _ _ _ w hn (by have := of_len3 c (bs.getD k Bl.z).x; omega) (i1.st w hw) (i2.st w hw) (j1.st w hw) (j2.st w hw)) (c' := .bool true) (by rw [hxe]; simp)))) ?_
      refine P_det (by rfl) (Over_nil (y_not (by rfl))) ?_
      refine PW_end (by rfl) ?_
      refine OverAll_nil ?_
      rintro -
      refine Then_normal ?_
      refine W_cond (by rfl) (fun c6 => ?_) (fun c6 => ?_)
      · cases c6
      ·
        try simp only [Bool.not_eq_true', Bool.not_eq_false', decide_eq_true_eq, decide_eq_false_iff_not, ne_eq, Classical.not_not, Int.not_lt, Int.not_le] at c6
        refine W_skip ?_
        refine InB_normal ?_
        refine Then_normal ?_
        refine W_region_lit (fun ds => ?_)
        refine WS_det hF (by rfl) (y_move (c := .int .i64 _) (by rfl)) ?_
        refine WS_det hF (by rfl) (y_add (by rfl) (by rfl) (by unfold I64; omega)) ?_
        refine WS_det hF (by rfl) (y_assign (c := .int .i64 _) (by rfl)) ?_
        refine WS_nil ?_
        exact Loop_next (k + 1) (by omega) (by repeat (first | exact trivial | refine ⟨by rfl, ?_⟩)) (by repeat (first | exact List.Sublist.refl _ | exact List.nil_sublist _ | apply List.Sublist.cons_cons | apply List.Sublist.cons)) (by omega)
    ·
      try simp only [Bool.not_eq_true', Bool.not_eq_false', decide_eq_true_eq, decide_eq_false_iff_not, ne_eq, Classical.not_not, Int.not_lt, Int.not_le] at c4
      refine W_exit ?_
      refine Then_exit ?_
      refine Loop_exit ?_
      refine InB_same ?_
      refine Then_normal ?_
      refine W_seq ?_
      refine W_region_lit (fun ds => ?_)
      refine WS_det hF (by rfl) (y_assign (c := .bool _) (by rfl)) ?_
      refine WS_nil ?_
      refine Then_normal ?_
      refine W_ret ?_
      refine Fin_ret [.bool _] [] Tryd.results39 ⟨by rfl, trivial⟩ HSub.nil ?_
      rfl
theorem canBefore_any (c : Cn) (a1 : Option Addr) (p1 : Nat) (a2 : Option Addr) (p2 : Nat) (p : Po) (w : World) (hG : Gv w) (h1 : Ints w a1 c.n p1 c.sz) (h2 : Ints w a2 c.inn.length p2 c.inn) :
    Ct Tryd.prog 7 #[.agg #[.slice a1 c.n p1, .slice a2 c.inn.length p2, .int .i64 c.st], .agg p.cells.toArray] w fun v _ => v = .bool true := by
  have hF := wide_wide
  refine Ct_start (args := [_, _]) Tryd.func7 (by rfl) Tryd.ntmps7 (by rfl) ?_
  refine W_seq ?_
  refine W_region_lit (fun ds => ?_)
  refine WS_new hF (by rfl) (y_box (by rfl)) (fun b1 => ?_)
  refine WS_new hF (by rfl) (y_box (by rfl)) (fun b2 => ?_)
  refine WS_det hF (by rfl) (y_assign (c := .bool _) (by rfl)) ?_
  refine WS_nil ?_
  refine Then_normal ?_
  refine W_seq ?_
  refine W_seq ?_
  refine W_region_lit (fun ds => ?_)
  refine WS_det hF (by rfl) (y_loadN (by rfl) Tryd.isAgg24 Tryd.sizeOf24 (Mem.own (us := [.slice _ _ _, .slice _ _ _, .int .i64 _]) 1 (by rfl) (by rfl)) (by rfl)) ?_
  refine WS_det hF (by rfl) (y_callL (by rfl) (by rfl) Tryd.call9 (fun w hw => rcgreat_any c a1 p1 a2 p2 w)) ?_
  refine WS_nil ?_
  refine Then_normal ?_
  refine W_cond (by rfl) (fun c1 => ?_) (fun c1 => ?_)
  ·
    try simp only [Bool.not_eq_true', Bool.not_eq_false', decide_eq_true_eq, decide_eq_false_iff_not, ne_eq, Classical.not_not, Int.not_lt, Int.not_le] at c1
    refine W_seq ?_
    refine W_region_lit (fun ds => ?_)
    refine WS_det hF (by rfl) (y_assign (c := .bool _) (by rfl)) ?_
    refine WS_nil ?_
    refine Then_normal ?_
    refine W_ret ?_
    refine Then_ret ?_
    refine Fin_ret [.bool _] [] Tryd.results7 ⟨by rfl, trivial⟩ HSub.nil ?_
    rfl
  ·
    try simp only [Bool.not_eq_true', Bool.not_eq_false', decide_eq_true_eq, decide_eq_false_iff_not, ne_eq, Classical.not_not, Int.not_lt, Int.not_le] at c1
    simp only [Bool.or_eq_false_iff, decide_eq_false_iff_not] at c1
    have hn : c.n ≤ 1000000 := by omega
    have hm : c.inn.length ≤ 1000000 := by omega
    refine W_skip ?_
    refine Then_normal ?_
    refine W_seq ?_
    refine W_region_lit (fun ds => ?_)
    refine WS_det hF (by rfl) (y_loadN (by rfl) Tryd.isAgg24 Tryd.sizeOf24 (Mem.own (us := [.slice _ _ _, .slice _ _ _, .int .i64 _]) 1 (by rfl) (by rfl)) (by rfl)) ?_
    refine WS_gen hF (by rfl) (y_callL (by rfl) (by rfl) Tryd.call10 (fun w hw => rctwin_any c a1 p1 a2 p2 w hn hm (h1.st w hw) (h2.st w hw))) ?_
    rintro _ _ ⟨z1, q1, z2, q2, H1, H2, rfl, hr1, hr2, rfl⟩
    refine WS_back ?_
    refine WS_new hF (by rfl) (y_alloc Tryd.zeroValue24 (by rfl)) (fun bo => ?_)
    refine WS_store hF (us := [.slice _ _ _, .slice _ _ _, .int .i64 _]) (i := 0) (by rfl) (by rfl) Tryd.sizeOf24 (by rfl) (by rfl) (by rfl) (by first | decide | exact Nat.le_of_ble_eq_true rfl | simp) ?_
    refine WS_nil ?_
    refine Then_normal ?_
    refine W_seq ?_
    refine W_region_lit (fun ds => ?_)
    refine WS_det hF (by rfl) (y_loadN (by rfl) Tryd.isAgg24 Tryd.sizeOf24 (Mem.own (us := [.slice _ _ _, .slice _ _ _, .int .i64 _]) 0 (by rfl) (by rfl)) (by rfl)) ?_
    refine WS_det hF (by rfl) (y_loadN (by rfl) Tryd.isAgg26 Tryd.sizeOf26 (Mem.own (us := [.int .i64 _, .int .i64 _]) 1 (by rfl) (by rfl)) (by rfl)) ?_
    refine WS_gen hF (by rfl) (y_callL (by rfl) (by rfl) Tryd.call37 (fun w hw => cbefore_any c z1 q1 z2 q2 p w (hG.st w hw) hn hm (NewRow.ints hr1 rfl sbA w hw) (NewRow.ints hr2 rfl sbA w hw))) ?_
    rintro _ _ ⟨er, bs, a, cap, Hr, HX, rfl, hB, hrow, hrd, hshp, rfl⟩
    refine WS_back ?_
    refine WS_sub (H' := (bo, CB [.slice z1 c.n q1, .slice z2 c.inn.length q2, .int .i64 c.st] 24) :: (b2, CB p.cells 26) :: (b1, CB [.slice a1 c.n p1, .slice a2 c.inn.length p2, .int .i64 c.st] 24) :: (H1 ++ (H2 ++ (Hr ++ HX)))) (HSub.perm (Hn := (bo, CB [.slice z1 c.n q1, .slice z2 c.inn.length q2, .int .i64 c.st] 24) :: (b2, CB p.cells 26) :: (b1, CB [.slice a1 c.n p1, .slice a2 c.inn.length p2, .int .i64 c.st] 24) :: (H1 ++ (H2 ++ (HX ++ Hr)))) (HSub.sub sbA) (by repeat (first | exact List.perm_append_comm | apply List.Perm.cons | apply List.Perm.append_left))) ?_
    refine WS_det hF (by rfl) (y_move (c := .tuple _) (by rfl)) ?_
    refine WS_det hF (by rfl) (y_extract (c := .slice _ _ _) (by rfl) (by rfl)) ?_
    refine WS_det hF (by rfl) (y_extract (c := .int .i64 _) (by rfl) (by rfl)) ?_
    refine WS_det hF (by rfl) (y_assign (c := .slice _ _ _) (by rfl)) ?_
    refine WS_det hF (by rfl) (y_assign (c := .int .i64 _) (by rfl)) ?_
    refine WS_nil ?_
    refine Then_normal ?_
    refine W_seq ?_
    refine W_region_lit (fun ds => ?_)
    refine WS_det hF (by rfl) (y_loadN (by rfl) Tryd.isAgg24 Tryd.sizeOf24 (Mem.own (us := [.slice _ _ _, .slice _ _ _, .int .i64 _]) 2 (by rfl) (by rfl)) (by rfl)) ?_
    refine WS_det hF (by rfl) (y_loadN (by rfl) Tryd.isAgg26 Tryd.sizeOf26 (Mem.own (us := [.int .i64 _, .int .i64 _]) 1 (by rfl) (by rfl)) (by rfl)) ?_
    refine WS_gen hF (by rfl) (y_callL (by rfl) (by rfl) Tryd.call38 (fun w hw => rcbefore_any c a1 p1 a2 p2 p w hn hm (h1.st w hw) (h2.st w hw))) ?_
    rintro _ _ ⟨er', bs', a', cap', Hr', HX', rfl, hB', hrow', hrd', hshp', rfl⟩
    refine WS_back ?_
    obtain ⟨rfl, hbe⟩ := hB.uniq hB'
    have hbl : bs.length ≤ 1000000 := by have := Cn.Bef.len hB; rw [List.length_map] at this; omega
    refine WS_det hF (by rfl) (y_move (c := .tuple _) (by rfl)) ?_
    refine WS_det hF (by rfl) (y_extract (c := .slice _ _ _) (by rfl) (by rfl)) ?_
    refine WS_det hF (by rfl) (y_extract (c := .int .i64 _) (by rfl) (by rfl)) ?_
    refine WS_det hF (by rfl) (y_assign (c := .slice _ _ _) (by rfl)) ?_
    refine WS_det hF (by rfl) (y_assign (c := .int .i64 _) (by rfl)) ?_
    refine WS_nil ?_
    refine Then_normal ?_
    refine W_seq ?_
    refine W_region_lit (fun ds => ?_)
    refine WS_det hF (by rfl) (y_move (c := .slice _ _ _) (by rfl)) ?_
    refine WS_det hF (by rfl) (y_move (c := .slice _ _ _) (by rfl)) ?_
    refine WS_det hF (by rfl) (y_callL (by rfl) (by rfl) Tryd.call39 (fun w hw => rsameall_any c bs bs' a cap a' cap' w hn hbl hbe (NewRow.rws (bl_len c) hrow rfl sbA w hw) (NewRow.rws (bl_len c) hrow' rfl sbA w hw) (fun b hb => ⟨(hrd b hb).s _ _ w sbA hw, (hrd b hb).i _ _ w sbA hw⟩) (fun b hb => ⟨(hrd' b hb).s _ _ w sbA hw, (hrd' b hb).i _ _ w sbA hw⟩))) ?_
    refine WS_det hF (by rfl) (y_move (c := .bool _) (by rfl)) ?_
    refine WS_det hF (by rfl) (y_move (c := .int .i64 _) (by rfl)) ?_
    refine WS_det hF (by rfl) (y_move (c := .int .i64 _) (by rfl)) ?_
    refine WS_det hF (by rfl) (y_eqlT (by rfl) (by rfl)) ?_
    refine WS_det hF (by rfl) (by first | exact y_pick_t (c := .bool _) (by rfl) (by rfl) | exact y_pick_f (c := .bool _) (by rfl) (by rfl)) ?_
    refine WS_det hF (by rfl) (y_assign (c := .bool _) (by rfl)) ?_
    refine WS_nil ?_
    refine Then_normal ?_
    refine W_seq ?_
    refine W_seq ?_
    refine W_region_lit (fun ds => ?_)
    refine WS_det hF (by rfl) (y_move (c := .slice _ _ _) (by rfl)) ?_
    refine WS_det hF (by rfl) (y_len (by rfl) Tryd.runUnderlying40) ?_
    refine WS_det hF (by rfl) (y_move (c := .int .i64 _) (by rfl)) ?_
    refine WS_nil ?_
    refine Then_normal ?_
    refine W_block ?_
    refine W_loop (γ := Nat × List Blk) (fun q => q.1 ≤ bs.length ∧ Shp HX q.2) (fun q => [(41, .int .i64 (q.1 : Int)), (40, .int .i64 (bs.length : Int)), (39, .slice a bs.length cap), (2, .pointer (some ⟨b1, 0, none⟩)), (5, .pointer (some ⟨bo, 0, none⟩)), (10, .bool true)]) (fun q => (bo, CB [.slice z1 c.n q1, .slice z2 c.inn.length q2, .int .i64 c.st] 24) :: (b2, CB p.cells 26) :: (b1, CB [.slice a1 c.n p1, .slice a2 c.inn.length p2, .int .i64 c.st] 24) :: (H1 ++ (H2 ++ (Hr ++ q.2)))) (fun q => bs.length - q.1) ((0, HX)) ⟨Nat.zero_le _, hshp⟩ (by repeat (first | exact trivial | refine ⟨by rfl, ?_⟩)) (sbA) ?_
    rintro ⟨k, S⟩ e ⟨(hk : k ≤ bs.length), (hS : Shp HX S)⟩
    refine W_seq ?_
    refine W_region_lit (fun ds => ?_)
    refine WS_det hF (by rfl) (y_lss (by rfl) (by rfl)) ?_
    refine WS_nil ?_
    refine Then_normal ?_
    refine W_seq ?_
    refine W_cond (by rfl) (fun c8 => ?_) (fun c8 => ?_)
    ·
      try simp only [Bool.not_eq_true', Bool.not_eq_false', decide_eq_true_eq, decide_eq_false_iff_not, ne_eq, Classical.not_not, Int.not_lt, Int.not_le] at c8
      obtain ⟨br, _, ha, _, _, _⟩ := NewRow.head hrow (by omega)
      subst ha
      obtain ⟨y, hy⟩ : ∃ y, y = bs.getD k Bl.z := ⟨_, rfl⟩
      have hym : y ∈ bs := by rw [hy, List.getD_eq_getElem?_getD, List.getElem?_eq_getElem (show k < bs.length by omega)]; exact List.getElem_mem _
      have ho1 := (hrd y hym).os
      have ho2 := (hrd y hym).oi
      have hil := of_len3 c y.x
      refine W_skip ?_
      refine Then_normal ?_
      refine W_seq ?_
      refine W_block ?_
      refine W_seq ?_
      refine W_region_lit (fun ds => ?_)
      refine WS_det hF (by rfl) (y_index (k := k) (by rfl) (by rfl) (by first | rfl | omega) (by first | decide | omega) Tryd.runUnderlying40 Tryd.sizeOf24) ?_
      refine WS_det hF (by rfl) (y_loadN (by rfl) Tryd.isAgg24 Tryd.sizeOf24 (fun w hw => (show At w br (0 + k * 3) [.slice y.s c.n y.ks, .slice y.i (c.of y.x).inn.length y.ki, .int .i64 y.x.a] by rw [hy]; exact (NewRow.rws (bl_len c) hrow rfl sbA w hw).at (k := k) (by omega))) (by rfl)) ?_
      refine WS_new hF (by rfl) (y_alloc Tryd.zeroValue24 (by rfl)) (fun bz => ?_)
      refine WS_store hF (us := [.slice _ _ _, .slice _ _ _, .int .i64 _]) (i := 0) (by rfl) (by rfl) Tryd.sizeOf24 (by rfl) (by rfl) (by rfl) (by first | decide | exact Nat.le_of_ble_eq_true rfl | simp) ?_
      refine WS_nil ?_
      refine Then_normal ?_
      refine W_seq ?_
      refine W_seq ?_
      refine W_region_lit (fun ds => ?_)
      refine WS_det hF (by rfl) (y_fieldAddr (by rfl) fa24_0) ?_
      refine WS_det hF (by rfl) (y_load1 (by rfl) Tryd.isAgg22 (Mem.own1 0 (by rfl) (by rfl))) ?_
      refine WS_det hF (by rfl) (y_len (by rfl) Tryd.runUnderlying22) ?_
      refine WS_det hF (by rfl) (y_move (c := .int .i64 _) (by rfl)) ?_
      refine WS_nil ?_
      refine Then_normal ?_
      refine W_block ?_
      refine W_loop (γ := Nat × List Blk) (fun q => q.1 ≤ c.n ∧ Shp HX q.2) (fun q => [(48, .int .i64 (q.1 : Int)), (47, .int .i64 (c.n : Int)), (12, .pointer (some ⟨bz, 0, none⟩)), (41, .int .i64 (k : Int)), (40, .int .i64 (bs.length : Int)), (39, .slice (some ⟨br, 0, none⟩) bs.length cap), (2, .pointer (some ⟨b1, 0, none⟩)), (5, .pointer (some ⟨bo, 0, none⟩)), (10, .bool true)]) (fun q => (bz, CB [.slice y.s c.n y.ks, .slice y.i (c.of y.x).inn.length y.ki, .int .i64 y.x.a] 24) :: (bo, CB [.slice z1 c.n q1, .slice z2 c.inn.length q2, .int .i64 c.st] 24) :: (b2, CB p.cells 26) :: (b1, CB [.slice a1 c.n p1, .slice a2 c.inn.length p2, .int .i64 c.st] 24) :: (H1 ++ (H2 ++ (Hr ++ q.2)))) (fun q => c.n - q.1) ((0, S)) ⟨Nat.zero_le _, hS⟩ (by repeat (first | exact trivial | refine ⟨by rfl, ?_⟩)) (sbA) ?_
      rintro ⟨i, S2⟩ e ⟨(hi : i ≤ c.n), (hS2 : Shp HX S2)⟩
      refine W_seq ?_
      refine W_region_lit (fun ds => ?_)
      refine WS_det hF (by rfl) (y_lss (by rfl) (by rfl)) ?_
      refine WS_nil ?_
      refine Then_normal ?_
      refine W_seq ?_
      refine W_cond (by rfl) (fun c11 => ?_) (fun c11 => ?_)
      ·
        try simp only [Bool.not_eq_true', Bool.not_eq_false', decide_eq_true_eq, decide_eq_false_iff_not, ne_eq, Classical.not_not, Int.not_lt, Int.not_le] at c11
        obtain ⟨by_, Sa, us, Sb, hz1, rfl, hle, hput⟩ := ho1.get (k := i) (by omega) hS2
        refine W_pull (by_, CB us 3) (by repeat (first | exact Pul.base0 | exact Pul.base | apply Pul.cons | apply Pul.app)) ?_
        refine W_skip ?_
        refine Then_normal ?_
        refine W_seq ?_
        refine W_block ?_
        refine W_seq ?_
        refine W_region_lit (fun ds => ?_)
        refine WS_det hF (by rfl) (y_move (c := .int .i64 _) (by rfl)) ?_
        refine WS_det hF (by rfl) (y_assign (c := .int .i64 _) (by rfl)) ?_
        refine WS_nil ?_
        refine Then_normal ?_
        refine W_region_lit (fun ds => ?_)
        refine WS_det hF (by rfl) (y_fieldAddr (by rfl) fa24_0) ?_
        refine WS_det hF (by rfl) (y_load1 (by rfl) Tryd.isAgg22 (Mem.own1 1 (by rfl) (by rfl))) ?_
        refine WS_det hF (by rfl) (y_move (c := .int .i64 _) (by rfl)) ?_
        rw [hz1]
        refine WS_det hF (by rfl) (y_index (k := i) (by rfl) (by rfl) (by first | rfl | omega) (by first | decide | omega) Tryd.runUnderlying22 Tryd.sizeOf3) ?_
        refine WS_store hF (us := [.int .i64 _]) (i := 0) (by rfl) (by rfl) Tryd.sizeOf3 (by rfl) (by rfl) (by rfl) (by simp only [List.length_singleton]; omega) ?_
        refine WS_nil ?_
        refine InB_normal ?_
        refine Then_normal ?_
        refine W_push (M := (bz, _) :: (bo, _) :: (b2, _) :: (b1, _) :: (H1 ++ (H2 ++ (Hr ++ (Sa ++ (by_, CB (splice us (0 + i * 1) [.int .i64 (-7)]) 3) :: Sb))))) (by repeat (first | exact Pul.base0 | exact Pul.base | apply Pul.cons | apply Pul.app)) ?_
        obtain ⟨Sn, hSe, hSn⟩ : ∃ Sn, Sn = Sa ++ (by_, CB (splice us (0 + i * 1) [.int .i64 (-7)]) 3) :: Sb ∧ Shp HX Sn := ⟨_, rfl, hput _ (length_splice (by simp only [List.length_singleton]; omega))⟩
        rw [← hSe]
        refine W_region_lit (fun ds => ?_)
        refine WS_det hF (by rfl) (y_add (by rfl) (by rfl) (by unfold I64; omega)) ?_
        refine WS_det hF (by rfl) (y_move (c := .int .i64 _) (by rfl)) ?_
        refine WS_nil ?_
        exact Loop_next (i + 1, Sn) ⟨by simp only; omega, hSn⟩ (by repeat (first | exact trivial | refine ⟨by rfl, ?_⟩)) sbA (by simp only; omega)
      ·
        try simp only [Bool.not_eq_true', Bool.not_eq_false', decide_eq_true_eq, decide_eq_false_iff_not, ne_eq, Classical.not_not, Int.not_lt, Int.not_le] at c11
        refine W_exit ?_
        refine Then_exit ?_
        refine Loop_exit ?_
        refine InB_same ?_
        refine Then_normal ?_
        refine W_seq ?_
        refine W_region_lit (fun ds => ?_)
        refine WS_det hF (by rfl) (y_fieldAddr (by rfl) fa24_1) ?_
        refine WS_det hF (by rfl) (y_load1 (by rfl) Tryd.isAgg22 (Mem.own1 0 (by rfl) (by rfl))) ?_
        refine WS_det hF (by rfl) (y_len (by rfl) Tryd.runUnderlying22) ?_
        refine WS_det hF (by rfl) (y_move (c := .int .i64 _) (by rfl)) ?_
        refine WS_nil ?_
        refine Then_normal ?_
        refine W_block ?_
        refine W_loop (γ := Nat × List Blk) (fun q => q.1 ≤ (c.of y.x).inn.length ∧ Shp HX q.2) (fun q => [(59, .int .i64 (q.1 : Int)), (58, .int .i64 ((c.of y.x).inn.length : Int)), (12, .pointer (some ⟨bz, 0, none⟩)), (41, .int .i64 (k : Int)), (40, .int .i64 (bs.length : Int)), (39, .slice (some ⟨br, 0, none⟩) bs.length cap), (2, .pointer (some ⟨b1, 0, none⟩)), (5, .pointer (some ⟨bo, 0, none⟩)), (10, .bool true)]) (fun q => (bz, CB [.slice y.s c.n y.ks, .slice y.i (c.of y.x).inn.length y.ki, .int .i64 y.x.a] 24) :: (bo, CB [.slice z1 c.n q1, .slice z2 c.inn.length q2, .int .i64 c.st] 24) :: (b2, CB p.cells 26) :: (b1, CB [.slice a1 c.n p1, .slice a2 c.inn.length p2, .int .i64 c.st] 24) :: (H1 ++ (H2 ++ (Hr ++ q.2)))) (fun q => (c.of y.x).inn.length - q.1) ((0, S2)) ⟨Nat.zero_le _, hS2⟩ (by repeat (first | exact trivial | refine ⟨by rfl, ?_⟩)) (sbA) ?_
        rintro ⟨j, S3⟩ e ⟨(hj : j ≤ (c.of y.x).inn.length), (hS3 : Shp HX S3)⟩
        refine W_seq ?_
        refine W_region_lit (fun ds => ?_)
        refine WS_det hF (by rfl) (y_lss (by rfl) (by rfl)) ?_
        refine WS_nil ?_
        refine Then_normal ?_
        refine W_seq ?_
        refine W_cond (by rfl) (fun c16 => ?_) (fun c16 => ?_)
        ·
          try simp only [Bool.not_eq_true', Bool.not_eq_false', decide_eq_true_eq, decide_eq_false_iff_not, ne_eq, Classical.not_not, Int.not_lt, Int.not_le] at c16
          obtain ⟨by_, Sa, us, Sb, hz1, rfl, hle, hput⟩ := ho2.get (k := j) (by omega) hS3
          refine W_pull (by_, CB us 3) (by repeat (first | exact Pul.base0 | exact Pul.base | apply Pul.cons | apply Pul.app)) ?_
          refine W_skip ?_
          refine Then_normal ?_
          refine W_seq ?_
          refine W_block ?_
          refine W_seq ?_
          refine W_region_lit (fun ds => ?_)
          refine WS_det hF (by rfl) (y_move (c := .int .i64 _) (by rfl)) ?_
          refine WS_det hF (by rfl) (y_assign (c := .int .i64 _) (by rfl)) ?_
          refine WS_nil ?_
          refine Then_normal ?_
          refine W_region_lit (fun ds => ?_)
          refine WS_det hF (by rfl) (y_fieldAddr (by rfl) fa24_1) ?_
          refine WS_det hF (by rfl) (y_load1 (by rfl) Tryd.isAgg22 (Mem.own1 1 (by rfl) (by rfl))) ?_
          refine WS_det hF (by rfl) (y_move (c := .int .i64 _) (by rfl)) ?_
          rw [hz1]
          refine WS_det hF (by rfl) (y_index (k := j) (by rfl) (by rfl) (by first | rfl | omega) (by first | decide | omega) Tryd.runUnderlying22 Tryd.sizeOf3) ?_
          refine WS_store hF (us := [.int .i64 _]) (i := 0) (by rfl) (by rfl) Tryd.sizeOf3 (by rfl) (by rfl) (by rfl) (by simp only [List.length_singleton]; omega) ?_
          refine WS_nil ?_
          refine InB_normal ?_
          refine Then_normal ?_
          refine W_push (M := (bz, _) :: (bo, _) :: (b2, _) :: (b1, _) :: (H1 ++ (H2 ++ (Hr ++ (Sa ++ (by_, CB (splice us (0 + j * 1) [.int .i64 (-7)]) 3) :: Sb))))) (by repeat (first | exact Pul.base0 | exact Pul.base | apply Pul.cons | apply Pul.app)) ?_
          obtain ⟨Sn, hSe, hSn⟩ : ∃ Sn, Sn = Sa ++ (by_, CB (splice us (0 + j * 1) [.int .i64 (-7)]) 3) :: Sb ∧ Shp HX Sn := ⟨_, rfl, hput _ (length_splice (by simp only [List.length_singleton]; omega))⟩
          rw [← hSe]
          refine W_region_lit (fun ds => ?_)
          refine WS_det hF (by rfl) (y_add (by rfl) (by rfl) (by unfold I64; omega)) ?_
          refine WS_det hF (by rfl) (y_move (c := .int .i64 _) (by rfl)) ?_
          refine WS_nil ?_
          exact Loop_next (j + 1, Sn) ⟨by simp only; omega, hSn⟩ (by repeat (first | exact trivial | refine ⟨by rfl, ?_⟩)) sbA (by simp only; omega)
        ·
          try simp only [Bool.not_eq_true', Bool.not_eq_false', decide_eq_true_eq, decide_eq_false_iff_not, ne_eq, Classical.not_not, Int.not_lt, Int.not_le] at c16
          refine W_exit ?_
          refine Then_exit ?_
          refine Loop_exit ?_
          refine InB_same ?_
          refine InB_normal ?_
          refine Then_normal ?_
          refine W_region_lit (fun ds => ?_)
          refine WS_det hF (by rfl) (y_add (by rfl) (by rfl) (by unfold I64; omega)) ?_
          refine WS_det hF (by rfl) (y_move (c := .int .i64 _) (by rfl)) ?_
          refine WS_nil ?_
          exact Loop_next (k + 1, S3) ⟨by simp only; omega, hS3⟩ (by repeat (first | exact trivial | refine ⟨by rfl, ?_⟩)) sbA (by simp only; omega)
    ·
      try simp only [Bool.not_eq_true', Bool.not_eq_false', decide_eq_true_eq, decide_eq_false_iff_not, ne_eq, Classical.not_not, Int.not_lt, Int.not_le] at c8
      refine W_exit ?_
      refine Then_exit ?_
      refine Loop_exit ?_
      refine InB_same ?_
      refine Then_normal ?_
      refine W_seq ?_
      refine W_region_lit (fun ds => ?_)
      refine WS_det hF (by rfl) (y_move (c := .bool _) (by rfl)) ?_
      refine WS_det hF (by rfl) (y_move (c := .bool _) (by rfl)) ?_
      refine WS_det hF (by rfl) (y_loadN (by rfl) Tryd.isAgg24 Tryd.sizeOf24 (Mem.own (us := [.slice _ _ _, .slice _ _ _, .int .i64 _]) 0 (by rfl) (by rfl)) (by rfl)) ?_
      refine WS_det hF (by rfl) (y_loadN (by rfl) Tryd.isAgg24 Tryd.sizeOf24 (Mem.own (us := [.slice _ _ _, .slice _ _ _, .int .i64 _]) 2 (by rfl) (by rfl)) (by rfl)) ?_
      refine WS_det hF (by rfl) (y_callL (by rfl) (by rfl) Tryd.call15 (fun w hw => Ct_eq (rcsame_any c z1 q1 z2 q2 c a1 p1 a2 p2 w hn hm (NewRow.ints hr1 rfl sbA w hw) (NewRow.ints hr2 rfl sbA w hw) (h1.st w hw) (h2.st w hw)) (c' := .bool true) (by simp))) ?_
      refine WS_det hF (by rfl) (by first | exact y_pick_t (c := .bool _) (by rfl) (by rfl) | exact y_pick_f (c := .bool _) (by rfl) (by rfl)) ?_
      refine WS_det hF (by rfl) (y_assign (c := .bool _) (by rfl)) ?_
      refine WS_nil ?_
      refine Then_normal ?_
      refine W_ret ?_
      refine Fin_ret [.bool _] [] Tryd.results7 ⟨by rfl, trivial⟩ HSub.nil ?_
      rfl
end Go.Proofs.YtjekjehgmljbgaaDoor.T

/- The arguments of the laws, opened: what all layers use. -/
namespace Go.Proofs.YtjekjehgmljbgaaDoor.T
open Go.RowKit Go.Proofs Go.Eng Go.ChangeShapes Go.WideShapes Go.ChangeAt Go.Joins Go.Deep
set_option maxRecDepth 100000
set_option maxHeartbeats 1000000
set_option linter.unusedVariables false
section
variable {H : Type} {enc : TypeId × Value → H} {w : World} {base : Nat} {spare : Nat → Bool} {held : Bool}
theorem open_intsT {fuel : Nat} {v : Value} {y : DataW H × List MemPlace} (h : DataW.trod enc Tryd.prog w base spare held fuel 22 [v] = some y) (hs : ∀ b, spare b = true) : ∃ a n cap xs, v = .slice a n cap ∧ Ints w a n cap xs := by
  rcases open_ints Tryd.underlying22 Tryd.underlying3 (by kernel_rfl) h with ⟨hcs, _⟩ | ⟨x, l, c, zs, hcs, _, hl, hm, hz, _, hcell, hwz⟩
  · simp only [List.cons.injEq, and_true] at hcs
    subst hcs
    exact ⟨_, _, _, [], rfl, Ints.nil _ _ _⟩
  · simp only [List.cons.injEq, and_true] at hcs
    subst hcs
    rw [hs, if_pos rfl] at hz
    refine ⟨_, _, _, zs.take l, rfl, by simp; omega, hl, fun k hk => ?_⟩
    have hc := hcell k (by omega)
    obtain ⟨b, off, spot⟩ := x
    have hspot : spot = none := by
      have := World.cell?_spot (hcell 0 (by omega))
      simpa [Addr.add] using this
    subst hspot
    have ha : (⟨b, off, none⟩ : Addr).add k = ⟨b, off + k * 1, none⟩ := by unfold Addr.add; split <;> simp_all
    rw [ha] at hc
    refine ⟨b, off, rfl, ?_, trivial⟩
    rw [hc]
    simp [List.getD_eq_getElem?_getD, hk]
end
theorem own : ownKnob Tryd.prog.godebug = none := by kernel_rfl
theorem laidOut : laidOutB Tryd.prog = true := by kernel_rfl
end Go.Proofs.YtjekjehgmljbgaaDoor.T

/- The arguments of the laws of cans, opened; the table of checks, where it was laid. -/
namespace Go.Proofs.YtjekjehgmljbgaaDoor.T
open Go.RowKit Go.Proofs Go.Eng Go.ChangeShapes Go.WideShapes Go.ChangeAt Go.Joins Go.Deep
set_option maxRecDepth 100000
set_option maxHeartbeats 1000000
set_option linter.unusedVariables false
section
variable {H : Type} {enc : TypeId × Value → H} {w : World} {base : Nat} {spare : Nat → Bool} {held : Bool}
theorem open_cans {r : Reach} {b0 : Nat} {v : Value} {d : DataW H} {p : List MemPlace} (hv : Value.okWide Tryd.prog w r b0 24 v) (h : DataW.Trod enc Tryd.prog w base spare held 24 v d p) (hs : ∀ b, spare b = true) :
    ∃ (c : Cn) (a1 : Option Addr) (p1 : Nat) (a2 : Option Addr) (p2 : Nat), v = .agg #[.slice a1 c.n p1, .slice a2 c.inn.length p2, .int .i64 c.st] ∧ Ints w a1 c.n p1 c.sz ∧ Ints w a2 c.inn.length p2 c.inn := by
  obtain ⟨v0, v1, v2, y0, y1, y2, n, rfl, _, _, h0, h1, h2⟩ := open_agg3 Tryd.underlying24 (by kernel_rfl) (by kernel_rfl) hv h
  obtain ⟨a1, m1, p1, xs, rfl, hx⟩ := open_intsT h0 hs
  obtain ⟨a2, m2, p2, ys, rfl, hy⟩ := open_intsT h1 hs
  obtain ⟨l, hl, _, _⟩ := DataW.trod_int Tryd.underlying3 h2
  simp only [List.cons.injEq, and_true] at hl
  subst hl
  have := hx.len
  subst this
  have := hy.len
  subst this
  exact ⟨⟨xs, ys, l⟩, a1, p1, a2, p2, rfl, hx, hy⟩
theorem open_pour {r : Reach} {b0 : Nat} {v : Value} {d : DataW H} {p : List MemPlace} (hv : Value.okWide Tryd.prog w r b0 26 v) (h : DataW.Trod enc Tryd.prog w base spare held 26 v d p) : ∃ x : Po, v = .agg x.cells.toArray := by
  obtain ⟨v0, v1, y0, y1, n, rfl, _, _, h0, h1⟩ := open_agg2 Tryd.underlying26 (by kernel_rfl) (by kernel_rfl) hv h
  obtain ⟨l, hl, _, _⟩ := DataW.trod_int Tryd.underlying3 h0
  obtain ⟨f, hf, _, _⟩ := DataW.trod_int Tryd.underlying3 h1
  simp only [List.cons.injEq, and_true] at hl hf
  subst hl hf
  exact ⟨⟨l, f⟩, rfl⟩
end
/-! ### The table of checks -/
def laidC : List (String × DataW Unit) := [("oilcake/can.checks", Rows.laid_oilcake_can_checks)]
theorem gChecks : Tryd.prog.globalNamed "oilcake/can.checks" = some 0 := by kernel_rfl
theorem tChecks : (Tryd.prog.globals[0]?).map (·.type) = some 107 := by kernel_rfl
theorem door_met (os : Os) (args : Array Value) : laidMetH Tryd.prog laidC ((World.doorLaid Tryd.prog 400 os).forCall (fun _ _ => 0) ⟨#[], args, []⟩).memory :=
  laidMetH_of_parts3 (fuel := 8) (laidMet_of_run' 8 (by kernel_rfl) (by kernel_rfl)) (by kernel_rfl) (by kernel_rfl)
theorem cellsChk : Tryd.prog.cellsOf 106 = 1 := by kernel_rfl
theorem cellsChk3 : Tryd.prog.cellsOf 107 = 3 := by kernel_rfl
theorem cellsFn : Tryd.prog.cellsOf 28 = 1 := by kernel_rfl
theorem chk_fn {W : World} {sp : Nat → Bool} {fuel : Nat} {v : Value} {x : DataW (List UInt8) × List MemPlace} {b : UInt8} {r : List UInt8} {f0 : FuncId}
    (hone : ((List.range Tryd.prog.funcs.size).filter fun f => (Tryd.prog.funcs[f]?).any (·.name.toUTF8.data.toList == b :: r)) = [f0])
    (h : DataW.trod (funcToken Tryd.prog) Tryd.prog W 0 sp true fuel 106 [v] = some x) (hx : x.1 = .agg [.held (b :: r)]) : v = .func (.func f0) #[] #[] := by
  obtain ⟨y0, n, rfl, _, h0⟩ := trod_struct1 Tryd.underlying106 h
  obtain ⟨y, q⟩ := y0
  simp only [DataW.agg.injEq, List.cons.injEq, and_true] at hx
  subst hx
  simp only [cellsFn, List.drop_zero, List.take_succ_cons, List.take_zero] at h0
  exact func_of_trod Tryd.underlying28 hone h0
theorem of_laid {W : World} (h : laidMetH Tryd.prog laidC W) : Gv W := by
  obtain ⟨g, t, cs, fuel, p, hg, ht, hv, hd⟩ := h.funcs (List.mem_singleton.2 rfl)
  obtain rfl := Option.some.inj (gChecks.symm.trans hg)
  obtain rfl := Option.some.inj (tChecks.symm.trans ht)
  have hd' : DataW.trod (funcToken Tryd.prog) Tryd.prog W 0 (fun _ => true) true fuel 107 cs.toList = some (.agg [.agg [.held [111, 105, 108, 99, 97, 107, 101, 47, 99, 97, 110, 46, 99, 104, 101, 99, 107, 115, 36, 49]], .agg [.held [111, 105, 108, 99, 97, 107, 101, 47, 99, 97, 110, 46, 99, 104, 101, 99, 107, 115, 36, 50]], .agg [.held [111, 105, 108, 99, 97, 107, 101, 47, 99, 97, 110, 46, 99, 104, 101, 99, 107, 115, 36, 51]]], p) := hd
  obtain ⟨xs, m1, rfl, hx1, hlen, hn3, hel⟩ := DataW.trod_array Tryd.underlying107 hd'
  simp only [Prod.mk.injEq, DataW.agg.injEq] at hx1
  rw [cellsChk3] at hlen
  have hc := fun i => World.var?_cell hg hv i
  obtain ⟨cl⟩ := cs
  match xs, hn3, hx1, cl, hlen, hel, hc with
  | [x0, x1, x2], _, hx1, [c0, c1, c2], _, hel, hc =>
    simp only [List.map_cons, List.map_nil, List.cons.injEq, and_true] at hx1
    have e0 := hel 0 (by decide)
    have e1 := hel 1 (by decide)
    have e2 := hel 2 (by decide)
    simp only [cellsChk, Nat.zero_mul, Nat.one_mul, Nat.mul_one, List.drop_zero, List.drop_succ_cons, List.take_succ_cons, List.take_zero, List.getElem?_cons_zero, List.getElem?_cons_succ] at e0 e1 e2
    obtain rfl := chk_fn (f0 := 225) (by kernel_rfl) e0 hx1.1.1.symm
    obtain rfl := chk_fn (f0 := 226) (by kernel_rfl) e1 hx1.1.2.1.symm
    obtain rfl := chk_fn (f0 := 227) (by kernel_rfl) e2 hx1.1.2.2.symm
    exact ⟨hc 0, hc 1, hc 2, trivial⟩
end Go.Proofs.YtjekjehgmljbgaaDoor.T

/- The arguments of the laws, opened. -/
namespace Go.Proofs.YtjekjehgmljbgaaDoor.T
open Go.RowKit Go.Proofs Go.Eng Go.ChangeShapes Go.WideShapes Go.ChangeAt Go.Joins
set_option maxRecDepth 100000
set_option maxHeartbeats 1000000
set_option linter.unusedVariables false

section
variable {H : Type} {enc : TypeId × Value → H} {w : World} {base : Nat} {spare : Nat → Bool} {held : Bool}
end
end Go.Proofs.YtjekjehgmljbgaaDoor.T

/- The arguments of the laws of logs, opened. -/
namespace Go.Proofs.YtjekjehgmljbgaaDoor.T
open Go.RowKit Go.Proofs Go.Eng Go.ChangeShapes Go.WideShapes Go.ChangeAt Go.Joins Go.Deep
set_option maxRecDepth 100000
set_option maxHeartbeats 1000000
set_option linter.unusedVariables false

section
variable {H : Type} {enc : TypeId × Value → H} {w : World} {base : Nat} {spare : Nat → Bool} {held : Bool}
end
end Go.Proofs.YtjekjehgmljbgaaDoor.T

namespace Go.Proofs.YtjekjehgmljbgaaDoor
open Go.RowKit Go.Proofs Go.Eng Go.ChangeShapes Go.WideShapes Go.ChangeAt Go.Joins T
set_option maxRecDepth 100000
set_option maxHeartbeats 1000000
set_option linter.unusedVariables false

theorem walkCanBefore (v0 v1 : Value) (W : World) (hG : Gv W) (h0 : ∃ (c0 : Cn) (a0 : Option Addr) (p0 : Nat) (b0 : Option Addr) (q0 : Nat), v0 = .agg #[.slice a0 c0.n p0, .slice b0 c0.inn.length q0, .int .i64 c0.st] ∧ Ints W a0 c0.n p0 c0.sz ∧ Ints W b0 c0.inn.length q0 c0.inn) (h1 : ∃ x1 : Po, v1 = .agg x1.cells.toArray) :
    Calls Tryd.prog 7 #[v0, v1] W fun e W' => e = .returned (.bool true) ∧ Below W.heap.size W W' := by
  obtain ⟨c0, a0, p0, b0, q0, rfl, hx0, hy0⟩ := h0
  obtain ⟨x1, rfl⟩ := h1
  refine Calls.mono (canBefore_any c0 a0 p0 b0 q0 x1 W hG hx0 hy0 ) ?_
  rintro e W' ⟨v, rfl, Hn, hb, _, rfl⟩
  exact ⟨rfl, hb⟩

theorem liftCanBefore (os : Os) (started : os.Started) (H : Type) (enc : TypeId × Value → H) :
    ReturnsInHanded {} Tryd.checked os 7 .any (fun w args => (Rows.canBeforeSpec.pre enc Tryd.prog Tryd.f7 [] false w args ∧ laidMetH Tryd.prog laidC w) ∧ sizedMet enc Tryd.prog Tryd.f7 (OpenSpec.ofChange Rows.canBeforeSpec) false w args) (Rows.canBeforeSpec.post enc Tryd.prog Tryd.f7 false true false false) := by
  refine returnsInHanded_of_change_and (C := Tryd.checked) (X := fun w _ => laidMetH Tryd.prog laidC w) (fun _ _ _ hh h => h.of_heap hh) own started (by kernel_rfl) Tryd.func7
    (ChangeSpec.witness_shaped (enc := enc) (C := Tryd.checked) (os := os) (X := fun w _ => laidMetH Tryd.prog laidC w) false (World.doorLaid Tryd.prog 400 os) #[.agg #[.slice none 0 0, .slice none 0 0, .int .i64 0], .agg #[.int .i64 0, .int .i64 0]] 8 rfl (World.shaped_of_RefB (by kernel_rfl) (by kernel_rfl)) (by kernel_rfl) (by kernel_rfl) (by kernel_rfl) (door_met os _)) ?_
  intro W base args ds gs before hval0 hW _ _ hL _
  have hval : ∀ (j : Nat) t v, Tryd.f7.params[j]? = some t → args[j]? = some v → Value.okWide Tryd.prog W .any base t v := hval0
  have hW' := hW
  obtain ⟨p, q, hA0, hV, rfl, hfz, hnd⟩ := hW
  have hA : DataW.TrodAll enc Tryd.prog W 0 (fun _ => true) true Tryd.f7.params.toList args.toList ds p := hA0
  rw [Tryd.params7] at hA hval
  obtain ⟨v0, vs0, d0, ds0, p0, q0, hargs, rfl, rfl, h0, r0⟩ := trodAll_cons hA
  obtain ⟨v1, vs1, d1, ds1, p1, q1, rfl, rfl, rfl, h1, r1⟩ := trodAll_cons r0
  obtain ⟨rfl, rfl, rfl⟩ := trodAll_nil r1
  obtain rfl : args = #[v0, v1] := by cases args; simp_all
  obtain ⟨rfl, rfl⟩ := trodVars_none hV
  have lt0 : ∀ x ∈ p0, x.block < W.heap.size := by obtain ⟨m, hm⟩ := h0; exact DataW.trod_lt m _ _ _ hm
  have lt1 : ∀ x ∈ p1, x.block < W.heap.size := by obtain ⟨m, hm⟩ := h1; exact DataW.trod_lt m _ _ _ hm
  have o0 : ∃ (c0 : Cn) (a0 : Option Addr) (p0 : Nat) (b0 : Option Addr) (q0 : Nat), v0 = .agg #[.slice a0 c0.n p0, .slice b0 c0.inn.length q0, .int .i64 c0.st] ∧ Ints W a0 c0.n p0 c0.sz ∧ Ints W b0 c0.inn.length q0 c0.inn := open_cans (hval 0 _ v0 rfl rfl) h0 (fun _ => rfl)
  have o1 : ∃ x1 : Po, v1 = .agg x1.cells.toArray := open_pour (hval 1 _ v1 rfl rfl) h1
  clear hA0 hval0
  refine (walkCanBefore v0 v1 W (of_laid hL) o0 o1).mono fun e W' ⟨he, bel⟩ => ?_
  subst he
  exact ⟨_, rfl, _, _, _, [], _, [], hW', trodAll_mk1 (shut_bool Tryd.underlying4 _),
    (trodAll_cons_mk (Below.trod laidOut (by kernel_rfl) (of_decide_eq_true (by kernel_rfl)) h0 bel lt0) (trodAll_cons_mk (Below.trod laidOut (by kernel_rfl) (of_decide_eq_true (by kernel_rfl)) h1 bel lt1) trodAll_mk0)), rfl, bel.frame _, fun h => by cases h⟩

theorem canBeforeH : Rows.CanBeforeSaid :=
  OpenClaim.holds_of_wide 7 Tryd.f7 rfl rfl rfl rfl rfl rfl rfl ⟨rfl, rfl, rfl, rfl, rfl⟩ rfl rfl rfl rfl rfl (by kernel_rfl) Tryd.func7 (by kernel_rfl)
    (of_decide_eq_true (by kernel_rfl)) (by unfold Func.isWrapper; first | (rw [if_pos (by decide +kernel)]; kernel_rfl) | (rw [if_neg (by decide +kernel)]; exact ⟨rfl, rfl⟩))
    (fun os started H enc _ => liftCanBefore os started H enc)
theorem canBefore : Rows.CanBeforeCardSaid :=
  Claim7.holds_tied_plain_at .later [] [.funcs] true (true, "4f976da4b806c04e14c28f8bda1ba53d549989da811836dbb6df42d861d3a136") false
    canBeforeH (fun _ h => by cases h) (by kernel_rfl) (fun _ h => by cases h) canBefore_row_tie rfl ⟨rfl, rfl⟩ (by kernel_rfl) rfl
    (fun f fn hf hfn => by
      obtain rfl : f = 7 := Option.some.inj ((show Tryd.prog.funcNamed "oilcake/oilcakelaw08.CanBefore" = some 7 by kernel_rfl).symm.trans hf) |>.symm
      obtain rfl : fn = Tryd.f7 := (Option.some.inj (Tryd.func7.symm.trans hfn)).symm
      exact ⟨by kernel_rfl, fun j t ht => by
        rw [Tryd.params7] at ht
        have hm : t ∈ [24, 26] := by simpa using Array.mem_of_getElem? ht
        have hall : ([24, 26].all fun u => !Tryd.prog.wantsStandIn u) = true := by kernel_rfl
        exact (show Tryd.prog.wantsStandIn t = false by simpa using List.all_eq_true.1 hall t hm)⟩)
    (by kernel_rfl)
end Go.Proofs.YtjekjehgmljbgaaDoor
