/- Proved: for every input, with no condition, the law TankCut returns true and the input reads as it did (Rows.TankCutSaid). -/
import Derived.Test.YthkimgfgpphgnaaGreatMb5
import Derived.Test.YthkimgfgpphgnaaGreatMb2
set_option linter.unusedVariables false
set_option linter.unusedSimpArgs false
/- What is known of a time: the law TankCut walked. -/
namespace Go.Proofs.YthkimgfgpphgnaaGreat.T
open Go.RowKit Go.Proofs Go.Eng
set_option maxRecDepth 100000
set_option maxHeartbeats 2000000
set_option linter.unusedVariables false
set_option linter.unusedSimpArgs false



theorem Rws.take {α : Type} {enc : α → List Value} {sz : Nat} {d : α} {w : World} {a : Option Addr} {n cap m : Nat} {xs : List α} (h : Rws enc sz d w a n cap xs) (hm : m ≤ n) : Rws enc sz d w a (xs.take m).length cap (xs.take m) := by
  have hl := h.len
  have hle := h.le
  have hlen : (xs.take m).length = m := by rw [List.length_take]; omega
  refine ⟨rfl, by omega, fun k hk => ?_⟩
  obtain ⟨b, o, h1, h2⟩ := h.cell k (by omega)
  refine ⟨b, o, h1, ?_⟩
  have : (xs.take m).getD k d = xs.getD k d := by
    simp only [List.getD_eq_getElem?_getD, List.getElem?_take]
    rw [if_pos (by omega)]
  rw [this]; exact h2
theorem Rws.rowFrom {α : Type} {enc : α → List Value} {sz : Nat} {d : α} {w : World} {n cap m : Nat} {xs : List α} (hz : ∀ x, (enc x).length = sz) {b o : Nat} (h : Rws enc sz d w (some ⟨b, o, none⟩) n cap xs) : ∀ j, m + j ≤ n → At w b (o + m * sz) (rowOf enc (fun k => xs.getD (m + k) d) j)
  | 0, _ => trivial
  | j + 1, hj => by
    rw [rowOf_succ]
    refine At.app (Rws.rowFrom hz h j (by omega)) ?_
    rw [rowOf_len hz]
    have := h.at (k := m + j) (by omega)
    rwa [Nat.add_mul, ← Nat.add_assoc] at this
theorem shift0 {b o sz cap : Nat} : shiftA (some ⟨b, o, none⟩) 0 sz cap = some ⟨b, o, none⟩ := by
  unfold shiftA
  split
  · rfl
  · simp only [Option.map_some, Nat.zero_mul]; rw [addr_add]; rfl
theorem rs_row {l : Lg} {m : Nat} {s : Sn} {v : Value} {Hn : List Blk} (hm : m < l.es.length) (h : NewRow 38 4 (1 + (l.es.length - m)) ([.int .i64 (l.e m).day, .int .i64 2, .int .i64 0, .int .i64 (min l.tk.full (l.drip m))] ++ rowOf En.cells (fun k => l.es.getD (m + k) En.z) (l.es.length - m)) v Hn) :
    ∃ a cap, v = .slice a (l.rs m s).es.length cap ∧ NewRow 38 4 (l.rs m s).es.length (rowOf En.cells (l.rs m s).e (l.rs m s).es.length) (.slice a (l.rs m s).es.length cap) Hn := by
  have hl : (l.rs m s).es.length = 1 + (l.es.length - m) := by rw [Lg.rs_len]; omega
  have hr : rowOf En.cells (l.rs m s).e (1 + (l.es.length - m)) = [.int .i64 (l.e m).day, .int .i64 2, .int .i64 0, .int .i64 (min l.tk.full (l.drip m))] ++ rowOf En.cells (fun k => l.es.getD (m + k) En.z) (l.es.length - m) := by
    rw [rowOf_add]
    congr 1
    refine rowOf_congr _ fun k hk => ?_
    rw [Nat.add_comm 1 k, Lg.rs_e]; rfl
  rw [hl, hr]
  obtain ⟨a, cap, rfl, h1, h2⟩ := h
  exact ⟨a, cap, rfl, a, cap, rfl, h1, h2⟩
theorem NewRow.at0 {T : TypeId} {sz n cap : Nat} {us : List Value} {a : Option Addr} {Hn : List Blk} (h : NewRow T sz n us (.slice a n cap) Hn) (hn : 0 < n) : ∃ b, a = some ⟨b, 0, none⟩ := by
  obtain ⟨a', cap', he, hle, ⟨_, b, junk, rfl, rfl, _⟩ | ⟨h0, _⟩⟩ := h
  · cases he; exact ⟨b, rfl⟩
  · omega
theorem Lg.hd_holds {l : Lg} (hok : l.Ok) (hh : l.holdsB = true) {m : Nat} (hm : m ≤ l.es.length) : (l.hd m).holdsV (m : Int) = .tuple #[.agg #[.int .i64 (l.hold m).lo, .int .i64 (l.hold m).hi], .int .i64 0] := by
  obtain ⟨h1, h2⟩ := Lg.hd_at hok hh hm
  rw [Lg.holdsV_at h1 (by rw [Lg.hd_len hm]; exact Nat.le_refl _), h2]
theorem Lg.at_in {l : Lg} {m : Nat} : (l.hold m).lo ≤ (l.at m).lo ∧ (l.at m).hi ≤ (l.hold m).hi := by
  unfold Lg.at Sn.met
  simp only; omega
theorem Lg.at_n {l : Lg} (hok : l.Ok) (hh : l.holdsB = true) : l.at l.es.length = l.hold l.es.length := by
  have hA := Lg.hold_all hok hh (Nat.le_refl l.es.length)
  unfold Lg.at
  rw [l.aft_n]
  exact Sn.met_all hA.1 hA.2.2
theorem tankCut_no (l : Lg) (a : Option Addr) (cap : Nat) (ae : Option Addr) (cape : Nat) (p : Int) (w : World) (hx : Ints w a l.tk.n cap l.tk.pints) (he : Ens w ae l.es.length cape l.es) (hr : l.trB = false) :
    Ct Tryz.prog 3 #[.agg #[.slice a l.tk.n cap, .int .i64 l.tk.leak, .int .i64 l.tk.foot, .int .i64 l.start.lo, .int .i64 l.start.hi, .slice ae l.es.length cape], .int .u8 p] w fun v _ => v = .bool true := by
  have hF := wide_wide
  refine Ct_start (args := [_, _]) Tryz.func3 (by rfl) Tryz.ntmps3 (by rfl) ?_
  refine W_seq ?_
  refine W_region_lit (fun ds => ?_)
  refine WS_new hF (by rfl) (y_box (by rfl)) (fun b1 => ?_)
  refine WS_det hF (by rfl) (y_assign (c := .bool _) (by rfl)) ?_
  refine WS_nil ?_
  refine Then_normal ?_
  refine W_seq ?_
  refine W_region_lit (fun ds => ?_)
  refine WS_det hF (by rfl) (y_callL (by rfl) (by rfl) Tryz.call10 (fun w hw => alive_any w)) ?_
  refine WS_det hF (by rfl) (y_assign (c := .bool _) (by rfl)) ?_
  refine WS_nil ?_
  refine Then_normal ?_
  refine W_seq ?_
  refine W_seq ?_
  refine W_region_lit (fun ds => ?_)
  refine WS_det hF (by rfl) (y_loadN (by rfl) Tryz.isAgg29 Tryz.sizeOf29 (Mem.own (us := [.slice _ _ _, .int .i64 _, .int .i64 _, .int .i64 _, .int .i64 _, .slice _ _ _]) 0 (by rfl) (by rfl)) (by rfl)) ?_
  refine WS_det hF (by rfl) (y_callL (by rfl) (by rfl) Tryz.call11 (fun w hw => Ct_eq (ltruth_any l a cap ae cape w (hx.st w hw) (he.st w hw)) (by rw [hr]))) ?_
  refine WS_det hF (by rfl) (y_not (by rfl)) ?_
  refine WS_det hF (by rfl) (y_move (c := .bool _) (by rfl)) ?_
  refine WS_no hF (by rfl) ?_
  refine WS_no hF (by rfl) ?_
  refine WS_no hF (by rfl) ?_
  refine WS_no hF (by rfl) ?_
  refine WS_det hF (by rfl) (by first | exact y_pick_t (c := .bool _) (by rfl) (by rfl) | exact y_pick_f (c := .bool _) (by rfl) (by rfl)) ?_
  refine WS_det hF (by rfl) (y_move (c := .bool _) (by rfl)) ?_
  refine WS_no hF (by rfl) ?_
  refine WS_no hF (by rfl) ?_
  refine WS_det hF (by rfl) (by first | exact y_pick_t (c := .bool _) (by rfl) (by rfl) | exact y_pick_f (c := .bool _) (by rfl) (by rfl)) ?_
  refine WS_nil ?_
  refine Then_normal ?_
  refine W_cond (by rfl) (fun c2 => ?_) (fun c2 => ?_)
  ·
    try simp only [Bool.not_eq_true', Bool.not_eq_false', decide_eq_true_eq, decide_eq_false_iff_not, ne_eq, Classical.not_not, Int.not_lt, Int.not_le] at c2
    refine W_seq ?_
    refine W_region_lit (fun ds => ?_)
    refine WS_det hF (by rfl) (y_move (c := .bool _) (by rfl)) ?_
    refine WS_det hF (by rfl) (y_assign (c := .bool _) (by rfl)) ?_
    refine WS_nil ?_
    refine Then_normal ?_
    refine W_ret ?_
    refine Then_ret ?_
    refine Fin_ret [.bool _] [] Tryz.results3 ⟨by rfl, trivial⟩ HSub.nil ?_
    rfl
  · cases c2
theorem tankCut_zero (l : Lg) (a : Option Addr) (cap : Nat) (ae : Option Addr) (cape : Nat) (p : Int) (w : World) (hx : Ints w a l.tk.n cap l.tk.pints) (he : Ens w ae l.es.length cape l.es) (hr : l.trB = true) (h00 : l.es.length = 0) :
    Ct Tryz.prog 3 #[.agg #[.slice a l.tk.n cap, .int .i64 l.tk.leak, .int .i64 l.tk.foot, .int .i64 l.start.lo, .int .i64 l.start.hi, .slice ae l.es.length cape], .int .u8 p] w fun v _ => v = .bool true := by
  have hF := wide_wide
  refine Ct_start (args := [_, _]) Tryz.func3 (by rfl) Tryz.ntmps3 (by rfl) ?_
  refine W_seq ?_
  refine W_region_lit (fun ds => ?_)
  refine WS_new hF (by rfl) (y_box (by rfl)) (fun b1 => ?_)
  refine WS_det hF (by rfl) (y_assign (c := .bool _) (by rfl)) ?_
  refine WS_nil ?_
  refine Then_normal ?_
  refine W_seq ?_
  refine W_region_lit (fun ds => ?_)
  refine WS_det hF (by rfl) (y_callL (by rfl) (by rfl) Tryz.call10 (fun w hw => alive_any w)) ?_
  refine WS_det hF (by rfl) (y_assign (c := .bool _) (by rfl)) ?_
  refine WS_nil ?_
  refine Then_normal ?_
  refine W_seq ?_
  refine W_seq ?_
  refine W_region_lit (fun ds => ?_)
  refine WS_det hF (by rfl) (y_loadN (by rfl) Tryz.isAgg29 Tryz.sizeOf29 (Mem.own (us := [.slice _ _ _, .int .i64 _, .int .i64 _, .int .i64 _, .int .i64 _, .slice _ _ _]) 0 (by rfl) (by rfl)) (by rfl)) ?_
  refine WS_det hF (by rfl) (y_callL (by rfl) (by rfl) Tryz.call11 (fun w hw => Ct_eq (ltruth_any l a cap ae cape w (hx.st w hw) (he.st w hw)) (by rw [hr]))) ?_
  refine WS_det hF (by rfl) (y_not (by rfl)) ?_
  refine WS_det hF (by rfl) (y_move (c := .bool _) (by rfl)) ?_
  refine WS_det hF (by rfl) (y_fieldAddr (by rfl) fa29_2) ?_
  refine WS_det hF (by rfl) (y_load1 (by rfl) Tryz.isAgg27 (Mem.own1 0 (by rfl) (by rfl))) ?_
  refine WS_det hF (by rfl) (y_len (by rfl) Tryz.runUnderlying27) ?_
  refine WS_det hF (by rfl) (YD_yes (y_eql (by rfl) (by rfl)) dect) ?_
  refine WS_det hF (by rfl) (by first | exact y_pick_t (c := .bool _) (by rfl) (by rfl) | exact y_pick_f (c := .bool _) (by rfl) (by rfl)) ?_
  refine WS_det hF (by rfl) (y_move (c := .bool _) (by rfl)) ?_
  refine WS_no hF (by rfl) ?_
  refine WS_no hF (by rfl) ?_
  refine WS_det hF (by rfl) (by first | exact y_pick_t (c := .bool _) (by rfl) (by rfl) | exact y_pick_f (c := .bool _) (by rfl) (by rfl)) ?_
  refine WS_nil ?_
  refine Then_normal ?_
  refine W_cond (by rfl) (fun c2 => ?_) (fun c2 => ?_)
  ·
    try simp only [Bool.not_eq_true', Bool.not_eq_false', decide_eq_true_eq, decide_eq_false_iff_not, ne_eq, Classical.not_not, Int.not_lt, Int.not_le] at c2
    refine W_seq ?_
    refine W_region_lit (fun ds => ?_)
    refine WS_det hF (by rfl) (y_move (c := .bool _) (by rfl)) ?_
    refine WS_det hF (by rfl) (y_assign (c := .bool _) (by rfl)) ?_
    refine WS_nil ?_
    refine Then_normal ?_
    refine W_ret ?_
    refine Then_ret ?_
    refine Fin_ret [.bool _] [] Tryz.results3 ⟨by rfl, trivial⟩ HSub.nil ?_
    rfl
  · cases c2
theorem tankCut_ok (l : Lg) (a : Option Addr) (cap : Nat) (ae : Option Addr) (cape : Nat) (p : Int) (m : Nat) (w : World) (hn : l.tk.n ≤ 1000000) (hnes : l.es.length ≤ 1000000) (hp0 : 0 ≤ p) (hp1 : p ≤ 255) (hx : Ints w a l.tk.n cap l.tk.pints) (he : Ens w ae l.es.length cape l.es) (hr : l.trB = true) (h00 : 0 < l.es.length) (hJ : 1 + p % (l.es.length : Int) = (m : Int)) (hm1 : 1 ≤ m) (hmn : m ≤ l.es.length) :
    Ct Tryz.prog 3 #[.agg #[.slice a l.tk.n cap, .int .i64 l.tk.leak, .int .i64 l.tk.foot, .int .i64 l.start.lo, .int .i64 l.start.hi, .slice ae l.es.length cape], .int .u8 p] w fun v _ => v = .bool true := by
  obtain ⟨hrd, h0⟩ := Lg.trB_iff.1 hr
  obtain ⟨_, _, herr⟩ := Lg.rdy_iff.1 hrd
  have hh : l.holdsB = true := l.holdsB_iff.2 (l.aerr0 h0).2
  have hok := l.ok_of herr
  have hn12 := hok.n12
  have hn2 := hok.tk.n2
  have hf := hok.tk.full_bd
  have hA := Lg.hold_all hok hh hmn
  have hin := l.at_in (m := m)
  have hhl := Lg.hd_len hmn
  have hcap := he.le
  have hatn := Lg.at_n hok hh
  have hatm := Lg.at_ne hok hh hmn
  have hF := wide_wide
  refine Ct_start (args := [_, _]) Tryz.func3 (by rfl) Tryz.ntmps3 (by rfl) ?_
  refine W_seq ?_
  refine W_region_lit (fun ds => ?_)
  refine WS_new hF (by rfl) (y_box (by rfl)) (fun b1 => ?_)
  refine WS_det hF (by rfl) (y_assign (c := .bool _) (by rfl)) ?_
  refine WS_nil ?_
  refine Then_normal ?_
  refine W_seq ?_
  refine W_region_lit (fun ds => ?_)
  refine WS_det hF (by rfl) (y_callL (by rfl) (by rfl) Tryz.call10 (fun w hw => alive_any w)) ?_
  refine WS_det hF (by rfl) (y_assign (c := .bool _) (by rfl)) ?_
  refine WS_nil ?_
  refine Then_normal ?_
  refine W_seq ?_
  refine W_seq ?_
  refine W_region_lit (fun ds => ?_)
  refine WS_det hF (by rfl) (y_loadN (by rfl) Tryz.isAgg29 Tryz.sizeOf29 (Mem.own (us := [.slice _ _ _, .int .i64 _, .int .i64 _, .int .i64 _, .int .i64 _, .slice _ _ _]) 0 (by rfl) (by rfl)) (by rfl)) ?_
  refine WS_det hF (by rfl) (y_callL (by rfl) (by rfl) Tryz.call11 (fun w hw => Ct_eq (ltruth_any l a cap ae cape w (hx.st w hw) (he.st w hw)) (by rw [hr]))) ?_
  refine WS_det hF (by rfl) (y_not (by rfl)) ?_
  refine WS_det hF (by rfl) (y_move (c := .bool _) (by rfl)) ?_
  refine WS_det hF (by rfl) (y_fieldAddr (by rfl) fa29_2) ?_
  refine WS_det hF (by rfl) (y_load1 (by rfl) Tryz.isAgg27 (Mem.own1 0 (by rfl) (by rfl))) ?_
  refine WS_det hF (by rfl) (y_len (by rfl) Tryz.runUnderlying27) ?_
  refine WS_det hF (by rfl) (YD_no (y_eql (by rfl) (by rfl)) dect) ?_
  refine WS_det hF (by rfl) (by first | exact y_pick_t (c := .bool _) (by rfl) (by rfl) | exact y_pick_f (c := .bool _) (by rfl) (by rfl)) ?_
  refine WS_det hF (by rfl) (y_move (c := .bool _) (by rfl)) ?_
  refine WS_det hF (by rfl) (y_move (c := .bool _) (by rfl)) ?_
  refine WS_det hF (by rfl) (y_not (by rfl)) ?_
  refine WS_det hF (by rfl) (by first | exact y_pick_t (c := .bool _) (by rfl) (by rfl) | exact y_pick_f (c := .bool _) (by rfl) (by rfl)) ?_
  refine WS_nil ?_
  refine Then_normal ?_
  refine W_cond (by rfl) (fun c2 => ?_) (fun c2 => ?_)
  · cases c2
  ·
    try simp only [Bool.not_eq_true', Bool.not_eq_false', decide_eq_true_eq, decide_eq_false_iff_not, ne_eq, Classical.not_not, Int.not_lt, Int.not_le] at c2
    refine W_skip ?_
    refine Then_normal ?_
    refine W_seq ?_
    refine W_region_lit (fun ds => ?_)
    refine WS_det hF (by rfl) (y_fieldAddr (by rfl) fa29_2) ?_
    refine WS_det hF (by rfl) (y_load1 (by rfl) Tryz.isAgg27 (Mem.own1 0 (by rfl) (by rfl))) ?_
    refine WS_det hF (by rfl) (y_len (by rfl) Tryz.runUnderlying27) ?_
    refine WS_det hF (by rfl) (y_assign (c := .int .i64 _) (by rfl)) ?_
    refine WS_nil ?_
    refine Then_normal ?_
    refine W_seq ?_
    refine W_region_lit (fun ds => ?_)
    refine WS_det hF (by rfl) (y_move (c := .int .u8 _) (by rfl)) ?_
    refine WS_det hF (by rfl) (y_conv_iu (by rfl) Tryz.runUnderlying5 Tryz.runUnderlying3 (by first | exact IntWalk.i64_in _ (by omega) | exact IntWalk.u64_in _ (by omega))) ?_
    refine WS_det hF (by rfl) (y_move (c := .int .i64 _) (by rfl)) ?_
    refine WS_det hF (by rfl) (y_rem (by rfl) (by rfl) (by omega) (by omega)) ?_
    refine WS_det hF (by rfl) (YD_eq (y_add (by rfl) (by rfl) (by unfold I64; omega)) (congrArg (Value.int _) hJ)) ?_
    refine WS_det hF (by rfl) (y_assign (c := .int .i64 _) (by rfl)) ?_
    refine WS_nil ?_
    refine Then_normal ?_
    refine W_seq ?_
    refine W_region_lit (fun ds => ?_)
    refine WS_det hF (by rfl) (y_loadN (by rfl) Tryz.isAgg29 Tryz.sizeOf29 (Mem.own (us := [.slice _ _ _, .int .i64 _, .int .i64 _, .int .i64 _, .int .i64 _, .slice _ _ _]) 0 (by rfl) (by rfl)) (by rfl)) ?_
    refine WS_det hF (by rfl) (y_move (c := .int .i64 _) (by rfl)) ?_
    refine WS_det hF (by rfl) (y_callL (by rfl) (by rfl) Tryz.call12 (fun w hw => Ct_eq (holds_any l a cap ae cape (m : Int) w hn (hx.st w hw) (he.st w hw)) (Lg.holdsV_at h0 hmn))) ?_
    refine WS_det hF (by rfl) (y_move (c := .tuple _) (by rfl)) ?_
    refine WS_det hF (by rfl) (y_extract (c := .agg _) (by rfl) (by rfl)) ?_
    refine WS_det hF (by rfl) (y_extract (c := .int .i64 _) (by rfl) (by rfl)) ?_
    refine WS_new hF (by rfl) (y_alloc Tryz.zeroValue26 (by rfl)) (fun b2 => ?_)
    refine WS_store hF (us := [.int .i64 _, .int .i64 _]) (i := 0) (by rfl) (by rfl) Tryz.sizeOf26 (by rfl) (by rfl) (by rfl) (by first | decide | exact Nat.le_of_ble_eq_true rfl | simp) ?_
    refine WS_det hF (by rfl) (y_assign (c := .int .i64 _) (by rfl)) ?_
    refine WS_nil ?_
    refine Then_normal ?_
    refine W_seq ?_
    refine W_keep [(2, .pointer _), (4, .bool _), (5, .bool _), (6, .int .i64 _), (7, .int .i64 _), (8, .pointer _), (9, .int .i64 _)] (by repeat (first | exact trivial | refine ⟨by rfl, ?_⟩)) (fun e => ?_)
    refine W_region_lit (fun ds => ?_)
    refine WS_det hF (by rfl) (y_loadN (by rfl) Tryz.isAgg29 Tryz.sizeOf29 (Mem.own (us := [.slice _ _ _, .int .i64 _, .int .i64 _, .int .i64 _, .int .i64 _, .slice _ _ _]) 1 (by rfl) (by rfl)) (by rfl)) ?_
    refine WS_gen hF (by rfl) (y_callL (by rfl) (by rfl) Tryz.call13 (fun w hw => twin_any l a cap ae cape w hnes hn (hx.st w hw) (he.st w hw))) ?_
    rintro _ _ ⟨y1, yc1, y2, yc2, Hy1, Hy2, rfl, hr1, hr2, rfl⟩
    obtain ⟨bb, rfl⟩ := NewRow.at0 hr2 h00
    have hcy : l.es.length ≤ yc2 := by obtain ⟨_, _, h, hle, _⟩ := hr2; cases h; exact hle
    refine WS_back ?_
    refine WS_new hF (by rfl) (y_alloc Tryz.zeroValue29 (by rfl)) (fun b3 => ?_)
    refine WS_store hF (us := [.slice _ _ _, .int .i64 _, .int .i64 _, .int .i64 _, .int .i64 _, .slice _ _ _]) (i := 0) (by rfl) (by rfl) Tryz.sizeOf29 (by rfl) (by rfl) (by rfl) (by first | decide | exact Nat.le_of_ble_eq_true rfl | simp) ?_
    refine WS_nil ?_
    refine Then_normal ?_
    refine W_seq ?_
    refine W_region_lit (fun ds => ?_)
    refine WS_det hF (by rfl) (y_fieldAddr (by rfl) fa29_2) ?_
    refine WS_det hF (by rfl) (y_load1 (by rfl) Tryz.isAgg27 (Mem.own1 0 (by rfl) (by rfl))) ?_
    refine WS_det hF (by rfl) (y_move (c := .int .i64 _) (by rfl)) ?_
    refine WS_det hF (by rfl) (YD_eq (y_slice_hi (h := m) (by rfl) (by rfl) rfl (by omega) Tryz.runUnderlying27 Tryz.sizeOf38) (show Value.slice _ m yc2 = .slice (some ⟨bb, 0, none⟩) (l.hd m).es.length yc2 by rw [shift0, hhl])) ?_
    refine WS_det hF (by rfl) (y_fieldAddr (by rfl) fa29_2) ?_
    refine WS_store hF (us := [.slice _ _ _]) (i := 0) (by rfl) (by rfl) Tryz.sizeOf27 (by rfl) (by rfl) (by rfl) (by first | decide | exact Nat.le_of_ble_eq_true rfl | simp) ?_
    refine WS_nil ?_
    refine Then_normal ?_
    refine W_seq ?_
    refine W_region_lit (fun ds => ?_)
    refine WS_det hF (by rfl) (y_loadN (by rfl) Tryz.isAgg29 Tryz.sizeOf29 (Mem.own (us := [.slice _ _ _, .int .i64 _, .int .i64 _, .int .i64 _, .int .i64 _, .slice _ _ _]) 0 (by rfl) (by rfl)) (by rfl)) ?_
    refine WS_det hF (by rfl) (y_move (c := .int .i64 _) (by rfl)) ?_
    refine WS_det hF (by rfl) (y_callL (by rfl) (by rfl) Tryz.call12 (fun w hw => Ct_eq (holds_any (l.hd m) y1 yc1 (some ⟨bb, 0, none⟩) yc2 (m : Int) w hn (NewRow.ints hr1 hx.len sbA w hw) (Rws.take (NewRow.rws en_len hr2 he.len sbA w hw) hmn)) (Lg.hd_holds hok hh hmn))) ?_
    refine WS_det hF (by rfl) (y_move (c := .tuple _) (by rfl)) ?_
    refine WS_det hF (by rfl) (y_extract (c := .agg _) (by rfl) (by rfl)) ?_
    refine WS_det hF (by rfl) (y_extract (c := .int .i64 _) (by rfl) (by rfl)) ?_
    refine WS_new hF (by rfl) (y_alloc Tryz.zeroValue26 (by rfl)) (fun b4 => ?_)
    refine WS_store hF (us := [.int .i64 _, .int .i64 _]) (i := 0) (by rfl) (by rfl) Tryz.sizeOf26 (by rfl) (by rfl) (by rfl) (by first | decide | exact Nat.le_of_ble_eq_true rfl | simp) ?_
    refine WS_det hF (by rfl) (y_assign (c := .int .i64 _) (by rfl)) ?_
    refine WS_nil ?_
    refine Then_normal ?_
    refine W_seq ?_
    refine W_seq ?_
    refine W_draw0 hF Tryzmixed [] (by decide +kernel) (fun ds => ?_)
    refine P_det (by rfl) (Over_nil (y_move (c := .int .i64 _) (by rfl))) ?_
    refine P_det (by rfl) (Over_nil (YD_no (y_neq (by rfl) (by rfl)) dect)) ?_
    refine P_det (by rfl) (Over_nil (y_move (c := .bool _) (by rfl))) ?_
    refine P_det (by rfl) (Over_nil (y_move (c := .int .i64 _) (by rfl))) ?_
    refine P_det (by rfl) (Over_nil (YD_no (y_neq (by rfl) (by rfl)) dect)) ?_
    refine P_det (by rfl) (Over_nil (by first | exact y_pick_t (c := .bool _) (by rfl) (by rfl) | exact y_pick_f (c := .bool _) (by rfl) (by rfl))) ?_
    refine P_det (by rfl) (Over_nil (y_move (c := .bool _) (by rfl))) ?_
    refine P_det (by rfl) (Over_nil (y_fieldAddr (by rfl) fa26_0)) ?_
    refine P_det (by rfl) (Over_nil (y_load1 (by rfl) Tryz.isAgg3 (Mem.own1 2 (by rfl) (by rfl)))) ?_
    refine P_det (by rfl) (Over_nil (y_fieldAddr (by rfl) fa26_0)) ?_
    refine P_det (by rfl) (Over_nil (y_load1 (by rfl) Tryz.isAgg3 (Mem.own1 0 (by rfl) (by rfl)))) ?_
    refine P_det (by rfl) (Over_nil (YD_no (y_lss (by rfl) (by rfl)) dect)) ?_
    refine P_det (by rfl) (Over_nil (by first | exact y_pick_t (c := .bool _) (by rfl) (by rfl) | exact y_pick_f (c := .bool _) (by rfl) (by rfl))) ?_
    refine P_det (by rfl) (Over_nil (y_move (c := .bool _) (by rfl))) ?_
    refine P_det (by rfl) (Over_nil (y_fieldAddr (by rfl) fa26_1)) ?_
    refine P_det (by rfl) (Over_nil (y_load1 (by rfl) Tryz.isAgg3 (Mem.own1 2 (by rfl) (by rfl)))) ?_
    refine P_det (by rfl) (Over_nil (y_fieldAddr (by rfl) fa26_1)) ?_
    refine P_det (by rfl) (Over_nil (y_load1 (by rfl) Tryz.isAgg3 (Mem.own1 0 (by rfl) (by rfl)))) ?_
    refine P_det (by rfl) (Over_nil (YD_no (y_gtr (by rfl) (by rfl)) dect)) ?_
    refine P_det (by rfl) (Over_nil (by first | exact y_pick_t (c := .bool _) (by rfl) (by rfl) | exact y_pick_f (c := .bool _) (by rfl) (by rfl))) ?_
    refine P_det (by rfl) (Over_nil (y_move (c := .bool _) (by rfl))) ?_
    refine P_det (by rfl) (Over_nil (y_fieldAddr (by rfl) fa26_0)) ?_
    refine P_det (by rfl) (Over_nil (y_load1 (by rfl) Tryz.isAgg3 (Mem.own1 0 (by rfl) (by rfl)))) ?_
    refine P_det (by rfl) (Over_nil (YD_no (y_lss (by rfl) (by rfl)) dect)) ?_
    refine P_det (by rfl) (Over_nil (by first | exact y_pick_t (c := .bool _) (by rfl) (by rfl) | exact y_pick_f (c := .bool _) (by rfl) (by rfl))) ?_
    refine P_det (by rfl) (Over_nil (y_move (c := .bool _) (by rfl))) ?_
    refine P_det (by rfl) (Over_nil (y_fieldAddr (by rfl) fa26_1)) ?_
    refine P_det (by rfl) (Over_nil (y_load1 (by rfl) Tryz.isAgg3 (Mem.own1 0 (by rfl) (by rfl)))) ?_
    refine P_det (by rfl) (Over_nil (y_fieldAddr (by rfl) fa29_0)) ?_
    refine P_det (by rfl) (Over_nil (y_loadN (by rfl) Tryz.isAgg24 Tryz.sizeOf24 (Mem.own (us := [.slice _ _ _, .int .i64 _, .int .i64 _]) 3 (by rfl) (by rfl)) (by rfl))) ?_
    refine P_det (by rfl) (Over_nil (y_callL (by rfl) (by rfl) Tryz.call14 (fun w hw => full_any l.tk a cap w hn (by omega) (hx.st w hw)))) ?_
    refine P_det (by rfl) (Over_nil (YD_no (y_gtr (by rfl) (by rfl)) dect)) ?_
    refine P_det (by rfl) (Over_nil (by first | exact y_pick_t (c := .bool _) (by rfl) (by rfl) | exact y_pick_f (c := .bool _) (by rfl) (by rfl))) ?_
    refine P_det (by rfl) (Over_nil (y_move (c := .bool _) (by rfl))) ?_
    refine P_det (by rfl) (Over_nil (y_fieldAddr (by rfl) fa26_0)) ?_
    refine P_det (by rfl) (Over_nil (y_load1 (by rfl) Tryz.isAgg3 (Mem.own1 0 (by rfl) (by rfl)))) ?_
    refine P_det (by rfl) (Over_nil (y_fieldAddr (by rfl) fa26_1)) ?_
    refine P_det (by rfl) (Over_nil (y_load1 (by rfl) Tryz.isAgg3 (Mem.own1 0 (by rfl) (by rfl)))) ?_
    refine P_det (by rfl) (Over_nil (YD_no (y_gtr (by rfl) (by rfl)) dect)) ?_
    refine P_det (by rfl) (Over_nil (by first | exact y_pick_t (c := .bool _) (by rfl) (by rfl) | exact y_pick_f (c := .bool _) (by rfl) (by rfl))) ?_
    refine PW_end (by rfl) ?_
    refine OverAll_nil ?_
    rintro -
    refine Then_normal ?_
    refine W_cond (by rfl) (fun c10 => ?_) (fun c10 => ?_)
    · cases c10
    ·
      try simp only [Bool.not_eq_true', Bool.not_eq_false', decide_eq_true_eq, decide_eq_false_iff_not, ne_eq, Classical.not_not, Int.not_lt, Int.not_le] at c10
      refine W_skip ?_
      refine Then_normal ?_
      refine W_seq ?_
      refine W_seq ?_
      refine W_keep [(2, .pointer _), (4, .bool _), (5, .bool _), (6, .int .i64 _), (7, .int .i64 _), (8, .pointer _), (11, .pointer _)] (by repeat (first | exact trivial | refine ⟨by rfl, ?_⟩)) (fun e => ?_)
      refine W_region_lit (fun ds => ?_)
      refine WS_det hF (by rfl) (y_move (c := .int .i64 _) (by rfl)) ?_
      refine WS_det hF (by rfl) (y_move (c := .int .i64 _) (by rfl)) ?_
      refine WS_det hF (by rfl) (y_eql (by rfl) (by rfl)) ?_
      refine WS_nil ?_
      refine Then_normal ?_
      refine W_cond (by rfl) (fun c12 => ?_) (fun c12 => ?_)
      ·
        try simp only [Bool.not_eq_true', Bool.not_eq_false', decide_eq_true_eq, decide_eq_false_iff_not, ne_eq, Classical.not_not, Int.not_lt, Int.not_le] at c12
        have hmeq : l.at m = l.hold m := by rw [show m = l.es.length by omega]; exact hatn
        refine W_seq ?_
        refine W_region_lit (fun ds => ?_)
        refine WS_det hF (by rfl) (y_move (c := .bool _) (by rfl)) ?_
        refine WS_det hF (by rfl) (y_move (c := .bool _) (by rfl)) ?_
        refine WS_det hF (by rfl) (y_loadN (by rfl) Tryz.isAgg26 Tryz.sizeOf26 (Mem.own (us := [.int .i64 _, .int .i64 _]) 2 (by rfl) (by rfl)) (by rfl)) ?_
        refine WS_det hF (by rfl) (y_loadN (by rfl) Tryz.isAgg26 Tryz.sizeOf26 (Mem.own (us := [.int .i64 _, .int .i64 _]) 0 (by rfl) (by rfl)) (by rfl)) ?_
        refine WS_det hF (by rfl) (YD_yes (y_eqlA (by rfl) (by rfl) eqA26) (by
                                        rw [hmeq]
                                        simp [ieq_self])) ?_
        refine WS_det hF (by rfl) (by first | exact y_pick_t (c := .bool _) (by rfl) (by rfl) | exact y_pick_f (c := .bool _) (by rfl) (by rfl)) ?_
        refine WS_det hF (by rfl) (y_assign (c := .bool _) (by rfl)) ?_
        refine WS_nil ?_
        refine Then_normal ?_
        refine W_ret ?_
        refine Then_ret ?_
        refine Fin_ret [.bool _] [] Tryz.results3 ⟨by rfl, trivial⟩ HSub.nil ?_
        rfl
      ·
        try simp only [Bool.not_eq_true', Bool.not_eq_false', decide_eq_true_eq, decide_eq_false_iff_not, ne_eq, Classical.not_not, Int.not_lt, Int.not_le] at c12
        have hmlt : m < l.es.length := by omega
        have hC := Lg.cut hok hh hm1 hmlt
        obtain ⟨b, o, rfl, hc⟩ := he.cell m hmlt
        change At w b _ (l.e m).cells at hc
        have hc1 : At w b (o + (m - 1) * 4) (l.e (m - 1)).cells := he.at (k := m - 1) (by omega)
        have hdd : l.drip m = l.tk.leak * ((l.e m).day - (l.e (m - 1)).day) := by unfold Lg.drip; rw [if_neg (by omega)]
        have hdb := hok.drip_bd hmlt
        have hk1 : l.es.length - m + m = l.es.length := by omega
        have hcm : cape ≠ m := by omega
        have hrl : (l.rs m (l.hold m)).es.length = l.es.length - m + 1 := Lg.rs_len
        have hR1 : (l.rs m (l.hold m)).holdsV 0 = .tuple #[.agg #[.int .i64 (l.at m).lo, .int .i64 (l.at m).hi], .int .i64 0] := by
          rw [← hC.at0]; exact Lg.holdsV_at hC.ae (Nat.zero_le _)
        have hR2 : (l.rs m (l.hold m)).holdsV ((l.rs m (l.hold m)).es.length : Int) = .tuple #[.agg #[.int .i64 (l.at l.es.length).lo, .int .i64 (l.at l.es.length).hi], .int .i64 0] := by
          rw [← hC.atn]; exact Lg.holdsV_at hC.ae (Nat.le_refl _)
        have hR3 : (l.rs m (l.hold m)).movedV 1 = .tuple #[.agg #[.int .i64 (l.lostS m).lo, .int .i64 (l.lostS m).hi], .int .i64 0] := by
          rw [← hC.mv]; exact Lg.movedV_at (j := 1) hC.ae (by omega) (by omega) (by show (2 : Int) ≠ 3; decide)
        refine W_skip ?_
        refine Then_normal ?_
        refine W_seq ?_
        refine W_region_lit (fun ds => ?_)
        refine WS_det hF (by rfl) (y_loadN (by rfl) Tryz.isAgg29 Tryz.sizeOf29 (Mem.own (us := [.slice _ _ _, .int .i64 _, .int .i64 _, .int .i64 _, .int .i64 _, .slice _ _ _]) 3 (by rfl) (by rfl)) (by rfl)) ?_
        refine WS_gen hF (by rfl) (y_callL (by rfl) (by rfl) Tryz.call13 (fun w hw => twin_any l a cap (some ⟨b, o, none⟩) cape w hnes hn (hx.st w hw) (he.st w hw))) ?_
        rintro _ _ ⟨z1, zc1, z2, zc2, Hz1, Hz2, rfl, hz1, hz2, rfl⟩
        refine WS_back ?_
        refine WS_new hF (by rfl) (y_alloc Tryz.zeroValue29 (by rfl)) (fun br => ?_)
        refine WS_store hF (us := [.slice _ _ _, .int .i64 _, .int .i64 _, .int .i64 _, .int .i64 _, .slice _ _ _]) (i := 0) (by rfl) (by rfl) Tryz.sizeOf29 (by rfl) (by rfl) (by rfl) (by first | decide | exact Nat.le_of_ble_eq_true rfl | simp) ?_
        refine WS_nil ?_
        refine Then_normal ?_
        refine W_seq ?_
        refine W_region_lit (fun ds => ?_)
        refine WS_det hF (by rfl) (y_loadN (by rfl) Tryz.isAgg26 Tryz.sizeOf26 (Mem.own (us := [.int .i64 _, .int .i64 _]) 1 (by rfl) (by rfl)) (by rfl)) ?_
        refine WS_det hF (by rfl) (y_fieldAddr (by rfl) fa29_1) ?_
        refine WS_store hF (us := [.int .i64 _, .int .i64 _]) (i := 0) (by rfl) (by rfl) Tryz.sizeOf26 (by rfl) (by rfl) (by rfl) (by first | decide | exact Nat.le_of_ble_eq_true rfl | simp) ?_
        refine WS_nil ?_
        refine Then_normal ?_
        refine W_seq ?_
        refine W_region_lit (fun ds => ?_)
        refine WS_det hF (by rfl) (y_fieldAddr (by rfl) fa29_2) ?_
        refine WS_det hF (by rfl) (y_load1 (by rfl) Tryz.isAgg27 (Mem.own1 4 (by rfl) (by rfl))) ?_
        refine WS_det hF (by rfl) (y_move (c := .int .i64 _) (by rfl)) ?_
        refine WS_det hF (by rfl) (y_index (k := m) (by rfl) (by rfl) (by first | rfl | omega) (by first | decide | omega) Tryz.runUnderlying27 Tryz.sizeOf38) ?_
        refine WS_det hF (by rfl) (y_loadN (by rfl) Tryz.isAgg38 Tryz.sizeOf38 (by first | exact Mem.old (by assumption) | exact Mem.oldAt (us := [.int .i64 _, .int .i64 _, .int .i64 _, .int .i64 _]) (by assumption) (by rfl) | exact Mem.oldAtL (us := [.int .i64 _, .int .i64 _, .int .i64 _, .int .i64 _]) (by assumption) (by rfl) (by rfl)) (by rfl)) ?_
        refine WS_new hF (by rfl) (y_alloc Tryz.zeroValue38 (by rfl)) (fun b5 => ?_)
        refine WS_store hF (us := [.int .i64 _, .int .i64 _, .int .i64 _, .int .i64 _]) (i := 0) (by rfl) (by rfl) Tryz.sizeOf38 (by rfl) (by rfl) (by rfl) (by first | decide | exact Nat.le_of_ble_eq_true rfl | simp) ?_
        refine WS_nil ?_
        refine Then_normal ?_
        refine W_seq ?_
        refine W_draw0 hF Tryzmixed [] (by decide +kernel) (fun ds => ?_)
        refine P_det (by rfl) (Over_nil (y_fieldAddr (by rfl) fa29_0)) ?_
        refine P_det (by rfl) (Over_nil (y_loadN (by rfl) Tryz.isAgg24 Tryz.sizeOf24 (Mem.own (us := [.slice _ _ _, .int .i64 _, .int .i64 _]) 5 (by rfl) (by rfl)) (by rfl))) ?_
        refine P_det (by rfl) (Over_nil (y_callL (by rfl) (by rfl) Tryz.call14 (fun w hw => full_any l.tk a cap w hn (by omega) (hx.st w hw)))) ?_
        refine P_det (by rfl) (Over_nil (y_fieldAddr (by rfl) fa29_0)) ?_
        refine P_det (by rfl) (Over_nil (y_fieldAddr (by rfl) fa24_1)) ?_
        refine P_det (by rfl) (Over_nil (y_load1 (by rfl) Tryz.isAgg3 (Mem.own1 5 (by rfl) (by rfl)))) ?_
        refine P_det (by rfl) (Over_nil (y_fieldAddr (by rfl) fa38_0)) ?_
        refine P_det (by rfl) (Over_nil (y_load1 (by rfl) Tryz.isAgg3 (Mem.own1 0 (by rfl) (by rfl)))) ?_
        refine P_det (by rfl) (Over_nil (y_fieldAddr (by rfl) fa29_2)) ?_
        refine P_det (by rfl) (Over_nil (y_load1 (by rfl) Tryz.isAgg27 (Mem.own1 5 (by rfl) (by rfl)))) ?_
        refine P_det (by rfl) (Over_nil (y_move (c := .int .i64 _) (by rfl))) ?_
        refine P_det (by rfl) (Over_nil (y_sub (by rfl) (by rfl) (by unfold I64; omega))) ?_
        refine P_det (by rfl) (Over_nil (y_index (k := m - 1) (by rfl) (by rfl) (by first | rfl | omega) (by first | decide | omega) Tryz.runUnderlying27 Tryz.sizeOf38)) ?_
        refine P_det (by rfl) (Over_nil (y_fieldAddr (by rfl) fa38_0)) ?_
        refine P_det (by rfl) (Over_nil (y_load1 (by rfl) Tryz.isAgg3 (by first | exact Mem.old1 (by assumption) | exact Mem.oldAt1 (by assumption) (by rfl) | exact Mem.old (by assumption) | exact Mem.oldAtL1 (by assumption) (by rfl) (by rfl)))) ?_
        refine P_det (by rfl) (Over_nil (y_sub (by rfl) (by rfl) (by have := hok.day m hmlt; have := hok.day (m - 1) (by omega); unfold I64; omega))) ?_
        refine P_det (by rfl) (Over_nil (y_mul (by rfl) (by rfl) (by rw [← hdd]; unfold I64; omega))) ?_
        refine P_det (by rfl) (Over_nil (YD_eq (y_min (by rfl) (by rfl)) (show Value.int _ _ = .int .i64 (min l.tk.full (l.drip m)) by rw [hdd]))) ?_
        refine P_det (by rfl) (Over_nil (y_assign (c := .int .i64 _) (by rfl))) ?_
        refine PW_end (by rfl) ?_
        refine OverAll_nil ?_
        rintro -
        refine Then_normal ?_
        refine W_seq ?_
        refine W_keep [(2, .pointer _), (4, .bool _), (5, .bool _), (6, .int .i64 _), (7, .int .i64 _), (8, .pointer _), (13, .pointer _), (14, .pointer _), (15, .int .i64 _)] (by repeat (first | exact trivial | refine ⟨by rfl, ?_⟩)) (fun e => ?_)
        apply W_draw1D hF Tryzmixed [1000000] 153 _ (i := 1) (by rfl) (by decide +kernel)
        intro ds
        refine P_det (by rfl) (Over_out (by rfl) (Over_nil (y_fieldAddr (by rfl) fa38_0))) ?_
        refine P_det (by rfl) (Over_out (by rfl) (Over_nil (y_load1 (by rfl) Tryz.isAgg3 (Mem.own1 0 (by rfl) (by rfl))))) ?_
        refine P_det (by rfl) (Over_out (by rfl) (Over_nil (y_move (c := .int .i64 _) (by rfl)))) ?_
        refine P_det (by rfl) (Over_out (by rfl) (Over_nil (y_callL (by rfl) (by rfl) Tryz.call15 (fun w hw => lentry_any _ _ _ _ w)))) ?_
        refine P_new (by rfl) (by rfl) (Over_out (by rfl) (Over_nil (y_buildSliceL bs27_1_0 (by rfl)))) ?_
        refine P_det (by rfl) (Over_out (by rfl) (Over_out (by rfl) (Over_nil (y_fieldAddr (by rfl) fa29_2)))) ?_
        refine P_det (by rfl) (Over_out (by rfl) (Over_out (by rfl) (Over_nil (y_load1 (by rfl) Tryz.isAgg27 (Mem.own1 4 (by rfl) (by rfl)))))) ?_
        refine P_det (by rfl) (Over_out (by rfl) (Over_out (by rfl) (Over_nil (y_move (c := .int .i64 _) (by rfl))))) ?_
        refine P_det (by rfl) (Over_out (by rfl) (Over_out (by rfl) (Over_nil (YD_eq (y_slice_lo (l := m) (by rfl) (by rfl) rfl (by omega) Tryz.runUnderlying27 Tryz.sizeOf38) (show Value.slice _ _ _ = .slice (some ⟨b, o + m * 4, none⟩) (l.es.length - m) (cape - m) by rw [shift_some hcm]))))) ?_
        refine P_new (by rfl) (by rfl) (Over_in (by rfl) (Over_out (by rfl) (Over_nil (by rintro _ _ ⟨b7, rfl, rfl⟩; exact (y_appendF (by rfl) (by rfl) Tryz.underlying27 infEntry (by rfl) (Mem.own (us := [.int _ _, .int _ _, .int _ _, .int _ _]) 0 (by rfl) (by rfl)) (by rfl) (.inr ⟨_, _, rfl, Mem.old (Rws.rowFrom en_len he (m := m) (l.es.length - m) (by omega))⟩) (rowOf_len en_len _ _) (by omega) (by omega) (by omega)))))) ?_
        refine P_det (by rfl) (Over_out (by rfl) (Over_out (by rfl) (Over_out (by rfl) (Over_nil (y_fieldAddr (by rfl) fa29_2))))) ?_
        refine P_st 1000000 2 (by rfl) (by rfl) (by rfl) (by rfl) (by rfl) (Over_in (by rfl) (Over_out (by rfl) (Over_nil (by intro vb9 l153 hb9; obtain ⟨ra, rcap, rfl, hrr⟩ := rs_row (s := l.hold m) hmlt hb9; exact (st_preD (fun _ => by rfl) (by rfl) (by rfl) Tryz.sizeOf27 (by rfl) (by rfl) (by first | decide | exact Nat.le_of_ble_eq_true rfl | simp)))))) ?_
        refine PW_end (by rfl) ?_
        refine OverAll_cons (fun w153 l153 => ?_)
        refine OverAll_cons (fun w148 l148 => ?_)
        refine OverAll_cons (fun w1000000 l1000000 => ?_)
        refine OverAll_nil ?_
        rintro ⟨⟨⟨-, h153⟩, h148⟩, h1000000⟩
        obtain ⟨b6, rfl, rfl⟩ := h148
        obtain ⟨ra, rcap, rfl, hrr⟩ := rs_row (s := l.hold m) hmlt h153
        obtain rfl := h1000000
        refine Then_normal ?_
        refine W_seq ?_
        refine W_perm (List.Perm.append_left _ (List.Perm.append_left _ List.perm_append_comm)) ?_
        refine W_region_lit (fun ds => ?_)
        refine WS_det hF (by rfl) (y_loadN (by rfl) Tryz.isAgg29 Tryz.sizeOf29 (Mem.own (us := [.slice _ _ _, .int .i64 _, .int .i64 _, .int .i64 _, .int .i64 _, .slice _ _ _]) 0 (by rfl) (by rfl)) (by rfl)) ?_
        refine WS_det hF (by rfl) (y_callL (by rfl) (by rfl) Tryz.call12 (fun w hw => Ct_eq (holds_any (l.rs m (l.hold m)) z1 zc1 ra rcap 0 w hn (NewRow.ints hz1 hx.len sbB w hw) (NewRow.rws en_len hrr rfl sbB w hw)) hR1)) ?_
        refine WS_det hF (by rfl) (y_move (c := .tuple _) (by rfl)) ?_
        refine WS_det hF (by rfl) (y_extract (c := .agg _) (by rfl) (by rfl)) ?_
        refine WS_det hF (by rfl) (y_extract (c := .int .i64 _) (by rfl) (by rfl)) ?_
        refine WS_new hF (by rfl) (y_alloc Tryz.zeroValue26 (by rfl)) (fun b10 => ?_)
        refine WS_store hF (us := [.int .i64 _, .int .i64 _]) (i := 0) (by rfl) (by rfl) Tryz.sizeOf26 (by rfl) (by rfl) (by rfl) (by first | decide | exact Nat.le_of_ble_eq_true rfl | simp) ?_
        refine WS_det hF (by rfl) (y_assign (c := .int .i64 _) (by rfl)) ?_
        refine WS_nil ?_
        refine Then_normal ?_
        refine W_seq ?_
        refine W_region_lit (fun ds => ?_)
        refine WS_det hF (by rfl) (y_loadN (by rfl) Tryz.isAgg29 Tryz.sizeOf29 (Mem.own (us := [.slice _ _ _, .int .i64 _, .int .i64 _, .int .i64 _, .int .i64 _, .slice _ _ _]) 1 (by rfl) (by rfl)) (by rfl)) ?_
        refine WS_det hF (by rfl) (y_fieldAddr (by rfl) fa29_2) ?_
        refine WS_det hF (by rfl) (y_load1 (by rfl) Tryz.isAgg27 (Mem.own1 1 (by rfl) (by rfl))) ?_
        refine WS_det hF (by rfl) (y_len (by rfl) Tryz.runUnderlying27) ?_
        refine WS_det hF (by rfl) (y_callL (by rfl) (by rfl) Tryz.call12 (fun w hw => Ct_eq (holds_any (l.rs m (l.hold m)) z1 zc1 ra rcap ((l.rs m (l.hold m)).es.length : Int) w hn (NewRow.ints hz1 hx.len sbB w hw) (NewRow.rws en_len hrr rfl sbB w hw)) hR2)) ?_
        refine WS_det hF (by rfl) (y_move (c := .tuple _) (by rfl)) ?_
        refine WS_det hF (by rfl) (y_extract (c := .agg _) (by rfl) (by rfl)) ?_
        refine WS_det hF (by rfl) (y_extract (c := .int .i64 _) (by rfl) (by rfl)) ?_
        refine WS_new hF (by rfl) (y_alloc Tryz.zeroValue26 (by rfl)) (fun b11 => ?_)
        refine WS_store hF (us := [.int .i64 _, .int .i64 _]) (i := 0) (by rfl) (by rfl) Tryz.sizeOf26 (by rfl) (by rfl) (by rfl) (by first | decide | exact Nat.le_of_ble_eq_true rfl | simp) ?_
        refine WS_det hF (by rfl) (y_assign (c := .int .i64 _) (by rfl)) ?_
        refine WS_nil ?_
        refine Then_normal ?_
        refine W_seq ?_
        refine W_keep [(2, .pointer _), (4, .bool _), (5, .bool _), (6, .int .i64 _), (7, .int .i64 _), (8, .pointer _), (13, .pointer _), (16, .pointer _), (17, .int .i64 _), (18, .pointer _), (19, .int .i64 _)] (by repeat (first | exact trivial | refine ⟨by rfl, ?_⟩)) (fun e => ?_)
        refine W_region_lit (fun ds => ?_)
        refine WS_det hF (by rfl) (y_loadN (by rfl) Tryz.isAgg29 Tryz.sizeOf29 (Mem.own (us := [.slice _ _ _, .int .i64 _, .int .i64 _, .int .i64 _, .int .i64 _, .slice _ _ _]) 8 (by rfl) (by rfl)) (by rfl)) ?_
        refine WS_det hF (by rfl) (y_move (c := .int .i64 _) (by rfl)) ?_
        refine WS_det hF (by rfl) (y_callL (by rfl) (by rfl) Tryz.call12 (fun w hw => Ct_eq (holds_any l a cap (some ⟨b, o, none⟩) cape (l.es.length : Int) w hn (hx.st w hw) (he.st w hw)) (Lg.holdsV_at h0 (Nat.le_refl l.es.length)))) ?_
        refine WS_det hF (by rfl) (y_move (c := .tuple _) (by rfl)) ?_
        refine WS_det hF (by rfl) (y_extract (c := .agg _) (by rfl) (by rfl)) ?_
        refine WS_det hF (by rfl) (y_extract (c := .int .i64 _) (by rfl) (by rfl)) ?_
        refine WS_new hF (by rfl) (y_alloc Tryz.zeroValue26 (by rfl)) (fun b12 => ?_)
        refine WS_store hF (us := [.int .i64 _, .int .i64 _]) (i := 0) (by rfl) (by rfl) Tryz.sizeOf26 (by rfl) (by rfl) (by rfl) (by first | decide | exact Nat.le_of_ble_eq_true rfl | simp) ?_
        refine WS_det hF (by rfl) (y_assign (c := .int .i64 _) (by rfl)) ?_
        refine WS_nil ?_
        refine Then_normal ?_
        refine W_seq ?_
        refine W_region_lit (fun ds => ?_)
        refine WS_det hF (by rfl) (y_loadN (by rfl) Tryz.isAgg29 Tryz.sizeOf29 (Mem.own (us := [.slice _ _ _, .int .i64 _, .int .i64 _, .int .i64 _, .int .i64 _, .slice _ _ _]) 3 (by rfl) (by rfl)) (by rfl)) ?_
        refine WS_det hF (by rfl) (y_callL (by rfl) (by rfl) Tryz.call16 (fun w hw => Ct_eq (moved_any (l.rs m (l.hold m)) z1 zc1 ra rcap 1 w hn (NewRow.ints hz1 hx.len sbB w hw) (NewRow.rws en_len hrr rfl sbB w hw)) hR3)) ?_
        refine WS_det hF (by rfl) (y_move (c := .tuple _) (by rfl)) ?_
        refine WS_det hF (by rfl) (y_extract (c := .agg _) (by rfl) (by rfl)) ?_
        refine WS_det hF (by rfl) (y_extract (c := .int .i64 _) (by rfl) (by rfl)) ?_
        refine WS_new hF (by rfl) (y_alloc Tryz.zeroValue26 (by rfl)) (fun b13 => ?_)
        refine WS_store hF (us := [.int .i64 _, .int .i64 _]) (i := 0) (by rfl) (by rfl) Tryz.sizeOf26 (by rfl) (by rfl) (by rfl) (by first | decide | exact Nat.le_of_ble_eq_true rfl | simp) ?_
        refine WS_det hF (by rfl) (y_assign (c := .int .i64 _) (by rfl)) ?_
        refine WS_nil ?_
        refine Then_normal ?_
        refine W_seq ?_
        refine W_region_lit (fun ds => ?_)
        refine WS_det hF (by rfl) (y_loadN (by rfl) Tryz.isAgg29 Tryz.sizeOf29 (Mem.own (us := [.slice _ _ _, .int .i64 _, .int .i64 _, .int .i64 _, .int .i64 _, .slice _ _ _]) 10 (by rfl) (by rfl)) (by rfl)) ?_
        refine WS_det hF (by rfl) (y_move (c := .int .i64 _) (by rfl)) ?_
        refine WS_det hF (by rfl) (y_callL (by rfl) (by rfl) Tryz.call17 (fun w hw => Ct_eq (lost_any l a cap (some ⟨b, o, none⟩) cape (m : Int) w hn (hx.st w hw) (he.st w hw)) (Lg.lostV_at h0 (by omega) hmlt))) ?_
        refine WS_det hF (by rfl) (y_move (c := .tuple _) (by rfl)) ?_
        refine WS_det hF (by rfl) (y_extract (c := .agg _) (by rfl) (by rfl)) ?_
        refine WS_det hF (by rfl) (y_extract (c := .int .i64 _) (by rfl) (by rfl)) ?_
        refine WS_new hF (by rfl) (y_alloc Tryz.zeroValue26 (by rfl)) (fun b14 => ?_)
        refine WS_store hF (us := [.int .i64 _, .int .i64 _]) (i := 0) (by rfl) (by rfl) Tryz.sizeOf26 (by rfl) (by rfl) (by rfl) (by first | decide | exact Nat.le_of_ble_eq_true rfl | simp) ?_
        refine WS_det hF (by rfl) (y_assign (c := .int .i64 _) (by rfl)) ?_
        refine WS_nil ?_
        refine Then_normal ?_
        refine W_seq ?_
        refine W_region_lit (fun ds => ?_)
        refine WS_det hF (by rfl) (y_move (c := .bool _) (by rfl)) ?_
        refine WS_det hF (by rfl) (y_move (c := .bool _) (by rfl)) ?_
        refine WS_det hF (by rfl) (y_move (c := .int .i64 _) (by rfl)) ?_
        refine WS_det hF (by rfl) (YD_yes (y_eql (by rfl) (by rfl)) dect) ?_
        refine WS_det hF (by rfl) (by first | exact y_pick_t (c := .bool _) (by rfl) (by rfl) | exact y_pick_f (c := .bool _) (by rfl) (by rfl)) ?_
        refine WS_det hF (by rfl) (y_move (c := .bool _) (by rfl)) ?_
        refine WS_det hF (by rfl) (y_loadN (by rfl) Tryz.isAgg26 Tryz.sizeOf26 (Mem.own (us := [.int .i64 _, .int .i64 _]) 4 (by rfl) (by rfl)) (by rfl)) ?_
        refine WS_det hF (by rfl) (y_loadN (by rfl) Tryz.isAgg26 Tryz.sizeOf26 (Mem.own (us := [.int .i64 _, .int .i64 _]) 10 (by rfl) (by rfl)) (by rfl)) ?_
        refine WS_det hF (by rfl) (YD_yes (y_eqlA (by rfl) (by rfl) eqA26) (by
                                        simp [ieq_self])) ?_
        refine WS_det hF (by rfl) (by first | exact y_pick_t (c := .bool _) (by rfl) (by rfl) | exact y_pick_f (c := .bool _) (by rfl) (by rfl)) ?_
        refine WS_det hF (by rfl) (y_move (c := .bool _) (by rfl)) ?_
        refine WS_det hF (by rfl) (y_move (c := .int .i64 _) (by rfl)) ?_
        refine WS_det hF (by rfl) (YD_yes (y_eql (by rfl) (by rfl)) dect) ?_
        refine WS_det hF (by rfl) (by first | exact y_pick_t (c := .bool _) (by rfl) (by rfl) | exact y_pick_f (c := .bool _) (by rfl) (by rfl)) ?_
        refine WS_det hF (by rfl) (y_move (c := .bool _) (by rfl)) ?_
        refine WS_det hF (by rfl) (y_move (c := .int .i64 _) (by rfl)) ?_
        refine WS_det hF (by rfl) (YD_yes (y_eql (by rfl) (by rfl)) dect) ?_
        refine WS_det hF (by rfl) (by first | exact y_pick_t (c := .bool _) (by rfl) (by rfl) | exact y_pick_f (c := .bool _) (by rfl) (by rfl)) ?_
        refine WS_det hF (by rfl) (y_move (c := .bool _) (by rfl)) ?_
        refine WS_det hF (by rfl) (y_loadN (by rfl) Tryz.isAgg26 Tryz.sizeOf26 (Mem.own (us := [.int .i64 _, .int .i64 _]) 3 (by rfl) (by rfl)) (by rfl)) ?_
        refine WS_det hF (by rfl) (y_loadN (by rfl) Tryz.isAgg26 Tryz.sizeOf26 (Mem.own (us := [.int .i64 _, .int .i64 _]) 2 (by rfl) (by rfl)) (by rfl)) ?_
        refine WS_det hF (by rfl) (YD_yes (y_eqlA (by rfl) (by rfl) eqA26) (by
                                        simp [ieq_self])) ?_
        refine WS_det hF (by rfl) (by first | exact y_pick_t (c := .bool _) (by rfl) (by rfl) | exact y_pick_f (c := .bool _) (by rfl) (by rfl)) ?_
        refine WS_det hF (by rfl) (y_move (c := .bool _) (by rfl)) ?_
        refine WS_det hF (by rfl) (y_move (c := .int .i64 _) (by rfl)) ?_
        refine WS_det hF (by rfl) (YD_yes (y_eql (by rfl) (by rfl)) dect) ?_
        refine WS_det hF (by rfl) (by first | exact y_pick_t (c := .bool _) (by rfl) (by rfl) | exact y_pick_f (c := .bool _) (by rfl) (by rfl)) ?_
        refine WS_det hF (by rfl) (y_move (c := .bool _) (by rfl)) ?_
        refine WS_det hF (by rfl) (y_move (c := .int .i64 _) (by rfl)) ?_
        refine WS_det hF (by rfl) (YD_yes (y_eql (by rfl) (by rfl)) dect) ?_
        refine WS_det hF (by rfl) (by first | exact y_pick_t (c := .bool _) (by rfl) (by rfl) | exact y_pick_f (c := .bool _) (by rfl) (by rfl)) ?_
        refine WS_det hF (by rfl) (y_move (c := .bool _) (by rfl)) ?_
        refine WS_det hF (by rfl) (y_loadN (by rfl) Tryz.isAgg26 Tryz.sizeOf26 (Mem.own (us := [.int .i64 _, .int .i64 _]) 1 (by rfl) (by rfl)) (by rfl)) ?_
        refine WS_det hF (by rfl) (y_loadN (by rfl) Tryz.isAgg26 Tryz.sizeOf26 (Mem.own (us := [.int .i64 _, .int .i64 _]) 0 (by rfl) (by rfl)) (by rfl)) ?_
        refine WS_det hF (by rfl) (YD_yes (y_eqlA (by rfl) (by rfl) eqA26) (by
                                        simp [ieq_self])) ?_
        refine WS_det hF (by rfl) (by first | exact y_pick_t (c := .bool _) (by rfl) (by rfl) | exact y_pick_f (c := .bool _) (by rfl) (by rfl)) ?_
        refine WS_det hF (by rfl) (y_assign (c := .bool _) (by rfl)) ?_
        refine WS_nil ?_
        refine Then_normal ?_
        refine W_ret ?_
        refine Fin_ret [.bool _] [] Tryz.results3 ⟨by rfl, trivial⟩ HSub.nil ?_
        rfl
theorem tankCut_any (l : Lg) (a : Option Addr) (cap : Nat) (ae : Option Addr) (cape : Nat) (p : Int) (w : World) (hx : Ints w a l.tk.n cap l.tk.pints) (he : Ens w ae l.es.length cape l.es) (hp0 : 0 ≤ p) (hp1 : p ≤ 255) :
    Ct Tryz.prog 3 #[.agg #[.slice a l.tk.n cap, .int .i64 l.tk.leak, .int .i64 l.tk.foot, .int .i64 l.start.lo, .int .i64 l.start.hi, .slice ae l.es.length cape], .int .u8 p] w fun v _ => v = .bool true := by
  cases hr : l.trB with
  | false => exact tankCut_no l a cap ae cape p w hx he hr
  | true =>
    obtain ⟨h1, h2, h3⟩ := Lg.rdy_iff.1 (Lg.trB_iff.1 hr).1
    by_cases h00 : l.es.length = 0
    · exact tankCut_zero l a cap ae cape p w hx he hr h00
    · have e1 := Int.emod_nonneg p (show (l.es.length : Int) ≠ 0 by omega)
      have e2 := Int.emod_lt_of_pos p (show 0 < (l.es.length : Int) by omega)
      obtain ⟨m, hm⟩ : ∃ m : Nat, 1 + p % (l.es.length : Int) = (m : Int) := Int.eq_ofNat_of_zero_le (by omega)
      exact tankCut_ok l a cap ae cape p m w (by omega) (by omega) hp0 hp1 hx he hr (by omega) hm (by omega) (by omega)
end Go.Proofs.YthkimgfgpphgnaaGreat.T

namespace Go.Proofs.YthkimgfgpphgnaaGreat
open Go.RowKit Go.Proofs Go.Eng Go.ChangeShapes Go.WideShapes Go.ChangeAt Go.Joins T
set_option maxRecDepth 100000
set_option linter.unusedVariables false

theorem walkTankCut (v0 v1 : Value) (W : World) (h0 : ∃ (l0 : Lg) (a0 : Option Addr) (cap0 : Nat) (ae0 : Option Addr) (cape0 : Nat), v0 = .agg #[.slice a0 l0.tk.n cap0, .int .i64 l0.tk.leak, .int .i64 l0.tk.foot, .int .i64 l0.start.lo, .int .i64 l0.start.hi, .slice ae0 l0.es.length cape0] ∧ Ints W a0 l0.tk.n cap0 l0.tk.pints ∧ Ens W ae0 l0.es.length cape0 l0.es) (h1 : ∃ n1 : Int, v1 = .int .u8 n1 ∧ 0 ≤ n1 ∧ n1 ≤ 255) :
    Calls Tryz.prog 3 #[v0, v1] W fun e W' => e = .returned (.bool true) ∧ Below W.heap.size W W' := by
  obtain ⟨l0, a0, cap0, ae0, cape0, rfl, hx0, he0⟩ := h0
  obtain ⟨n1, rfl, hn1, hm1⟩ := h1
  refine Calls.mono (tankCut_any l0 a0 cap0 ae0 cape0 n1 W hx0 he0 hn1 hm1) ?_
  rintro e W' ⟨v, rfl, Hn, hb, _, rfl⟩
  exact ⟨rfl, hb⟩

theorem liftTankCut (os : Os) (started : os.Started) (H : Type) (enc : TypeId × Value → H) :
    ReturnsInHanded {} Tryz.checked os 3 .any (Rows.tankCutSpec.pre6 enc Tryz.prog Tryz.f3 Rows.tankCutRow.domain false) (Rows.tankCutSpec.post enc Tryz.prog Tryz.f3 false true false false) := by
  refine returnsInHanded_of_change (C := Tryz.checked) own started (by kernel_rfl) Tryz.func3
    (ChangeSpec.witness6 (enc := enc) (C := Tryz.checked) false ⟨#[], #[.agg #[.slice none 0 0, .int .i64 0, .int .i64 0, .int .i64 0, .int .i64 0, .slice none 0 0], .int .u8 0], []⟩ 8 (by kernel_rfl) (by kernel_rfl) (by kernel_rfl) (by kernel_rfl)) ?_
  intro W base args ds gs before hval0 hW hcnd _
  have hval : ∀ (j : Nat) t v, Tryz.f3.params[j]? = some t → args[j]? = some v → Value.okWide Tryz.prog W .any base t v := hval0
  have hW' := hW
  obtain ⟨p, q, hA0, hV, rfl, hfz, hnd⟩ := hW
  have hA : DataW.TrodAll enc Tryz.prog W 0 (fun _ => true) true Tryz.f3.params.toList args.toList ds p := hA0
  rw [Tryz.params3] at hA hval
  obtain ⟨v0, vs0, d0, ds0, p0, q0, hargs, rfl, rfl, h0, r0⟩ := trodAll_cons hA
  obtain ⟨v1, vs1, d1, ds1, p1, q1, rfl, rfl, rfl, h1, r1⟩ := trodAll_cons r0
  obtain ⟨rfl, rfl, rfl⟩ := trodAll_nil r1
  obtain rfl : args = #[v0, v1] := by cases args; simp_all
  obtain ⟨rfl, rfl⟩ := trodVars_none hV
  have lt0 : ∀ x ∈ p0, x.block < W.heap.size := by obtain ⟨m, hm⟩ := h0; exact DataW.trod_lt m _ _ _ hm
  have lt1 : ∀ x ∈ p1, x.block < W.heap.size := by obtain ⟨m, hm⟩ := h1; exact DataW.trod_lt m _ _ _ hm
  have o0 : ∃ (l0 : Lg) (a0 : Option Addr) (cap0 : Nat) (ae0 : Option Addr) (cape0 : Nat), v0 = .agg #[.slice a0 l0.tk.n cap0, .int .i64 l0.tk.leak, .int .i64 l0.tk.foot, .int .i64 l0.start.lo, .int .i64 l0.start.hi, .slice ae0 l0.es.length cape0] ∧ Ints W a0 l0.tk.n cap0 l0.tk.pints ∧ Ens W ae0 l0.es.length cape0 l0.es := open_log (hval 0 _ v0 rfl rfl) h0 (fun _ => rfl)
  have o1 : ∃ n1 : Int, v1 = .int .u8 n1 ∧ 0 ≤ n1 ∧ n1 ≤ 255 := open_u8 Tryz.underlying5 (hval 1 _ v1 rfl rfl) h1
  clear hA0 hval0
  refine (walkTankCut v0 v1 W o0 o1).mono fun e W' ⟨he, bel⟩ => ?_
  subst he
  exact ⟨_, rfl, _, _, _, [], _, [], hW', trodAll_mk1 (shut_bool Tryz.underlying4 _),
    (trodAll_cons_mk (Below.trod laidOut (by kernel_rfl) (of_decide_eq_true (by kernel_rfl)) h0 bel lt0) (trodAll_cons_mk (Below.trod laidOut (by kernel_rfl) (of_decide_eq_true (by kernel_rfl)) h1 bel lt1) trodAll_mk0)), rfl, bel.frame _, fun h => by cases h⟩

theorem tankCut : Rows.TankCutSaid :=
  OpenClaim.holds_of_wide 3 Tryz.f3 rfl rfl rfl rfl rfl rfl rfl ⟨rfl, rfl, rfl, rfl, rfl⟩ rfl rfl rfl rfl rfl (by kernel_rfl) Tryz.func3 (by kernel_rfl)
    (of_decide_eq_true (by kernel_rfl)) (by unfold Func.isWrapper; first | (rw [if_pos (by decide +kernel)]; kernel_rfl) | (rw [if_neg (by decide +kernel)]; exact ⟨rfl, rfl⟩))
    (fun os started H enc _ => liftTankCut os started H enc)
end Go.Proofs.YthkimgfgpphgnaaGreat
