/- Proved: for every input, with no condition, the law TankStays returns true and the input reads as it did (Rows.TankStaysSaid). -/
import Derived.Test.YthkimgfgpphgnaaGreatMb5
import Derived.Test.YthkimgfgpphgnaaGreatMb2
set_option linter.unusedVariables false
set_option linter.unusedSimpArgs false
/- A drawing of nothing more leaves all as it was: the law walked. -/
namespace Go.Proofs.YthkimgfgpphgnaaGreat.T
open Go.RowKit Go.Proofs Go.Eng
set_option maxRecDepth 100000
set_option maxHeartbeats 2000000
set_option linter.unusedVariables false
set_option linter.unusedSimpArgs false



theorem AddV.full {l : Lg} {x : En} {v : Value} {Hn : List Blk} (h : AddV l x v Hn) (h9 : l.addE x = 9) : v = .tuple #[zeroLg, .int .i64 9] ∧ Hn = [] := by
  obtain ⟨v0, rfl, h1, _⟩ := h
  obtain ⟨rfl, rfl⟩ := h1 (by omega)
  rw [h9]
  exact ⟨rfl, rfl⟩
theorem Lg.add_full {l : Lg} {x : En} (h : l.err = 0) (hn : l.es.length = 12) : l.addE x = 9 := by
  unfold Lg.addE
  rw [if_pos h, if_pos hn]
theorem tankStays_no (l : Lg) (a : Option Addr) (cap : Nat) (ae : Option Addr) (cape : Nat) (p : Int) (w : World) (hx : Ints w a l.tk.n cap l.tk.pints) (he : Ens w ae l.es.length cape l.es) (hr : l.trB = false) :
    Ct Tryz.prog 8 #[.agg #[.slice a l.tk.n cap, .int .i64 l.tk.leak, .int .i64 l.tk.foot, .int .i64 l.start.lo, .int .i64 l.start.hi, .slice ae l.es.length cape], .int .u8 p] w fun v _ => v = .bool true := by
  have hF := wide_wide
  refine Ct_start (args := [_, _]) Tryz.func8 (by rfl) Tryz.ntmps8 (by rfl) ?_
  refine W_seq ?_
  refine W_region_lit (fun ds => ?_)
  refine WS_new hF (by rfl) (y_box (by rfl)) (fun b1 => ?_)
  refine WS_det hF (by rfl) (y_assign (c := .bool _) (by rfl)) ?_
  refine WS_nil ?_
  refine Then_normal ?_
  refine W_seq ?_
  refine W_region_lit (fun ds => ?_)
  refine WS_det hF (by rfl) (y_callL (by rfl) (by rfl) Tryz.call10 (fun w hw => alive_any w)) ?_
  refine WS_det hF (by rfl) (y_assign (c := .bool _) (by rfl)) ?_
  refine WS_nil ?_
  refine Then_normal ?_
  refine W_seq ?_
  refine W_seq ?_
  refine W_region_lit (fun ds => ?_)
  refine WS_det hF (by rfl) (y_loadN (by rfl) Tryz.isAgg29 Tryz.sizeOf29 (Mem.own (us := [.slice _ _ _, .int .i64 _, .int .i64 _, .int .i64 _, .int .i64 _, .slice _ _ _]) 0 (by rfl) (by rfl)) (by rfl)) ?_
  refine WS_det hF (by rfl) (y_callL (by rfl) (by rfl) Tryz.call11 (fun w hw => Ct_eq (ltruth_any l a cap ae cape w (hx.st w hw) (he.st w hw)) (by rw [hr]))) ?_
  refine WS_det hF (by rfl) (y_not (by rfl)) ?_
  refine WS_det hF (by rfl) (y_move (c := .bool _) (by rfl)) ?_
  refine WS_no hF (by rfl) ?_
  refine WS_no hF (by rfl) ?_
  refine WS_det hF (by rfl) (by first | exact y_pick_t (c := .bool _) (by rfl) (by rfl) | exact y_pick_f (c := .bool _) (by rfl) (by rfl)) ?_
  refine WS_nil ?_
  refine Then_normal ?_
  refine W_cond (by rfl) (fun c2 => ?_) (fun c2 => ?_)
  ·
    try simp only [Bool.not_eq_true', Bool.not_eq_false', decide_eq_true_eq, decide_eq_false_iff_not, ne_eq, Classical.not_not, Int.not_lt, Int.not_le] at c2
    refine W_seq ?_
    refine W_region_lit (fun ds => ?_)
    refine WS_det hF (by rfl) (y_move (c := .bool _) (by rfl)) ?_
    refine WS_det hF (by rfl) (y_assign (c := .bool _) (by rfl)) ?_
    refine WS_nil ?_
    refine Then_normal ?_
    refine W_ret ?_
    refine Then_ret ?_
    refine Fin_ret [.bool _] [] Tryz.results8 ⟨by rfl, trivial⟩ HSub.nil ?_
    rfl
  · cases c2
theorem tankStays_full (l : Lg) (a : Option Addr) (cap : Nat) (ae : Option Addr) (cape : Nat) (p : Int) (w : World) (hn : l.tk.n ≤ 1000000) (hnes : l.es.length ≤ 1000000) (hx : Ints w a l.tk.n cap l.tk.pints) (he : Ens w ae l.es.length cape l.es) (hr : l.trB = true) (h12 : l.es.length = 12) :
    Ct Tryz.prog 8 #[.agg #[.slice a l.tk.n cap, .int .i64 l.tk.leak, .int .i64 l.tk.foot, .int .i64 l.start.lo, .int .i64 l.start.hi, .slice ae l.es.length cape], .int .u8 p] w fun v _ => v = .bool true := by
  obtain ⟨hrd, h0⟩ := Lg.trB_iff.1 hr
  obtain ⟨_, _, herr⟩ := Lg.rdy_iff.1 hrd
  have hh : l.holdsB = true := l.holdsB_iff.2 (l.aerr0 h0).2
  have hok := l.ok_of herr
  have hn2 := hok.tk.n2
  have hf := hok.tk.full_bd
  have hne1 := Lg.at_ne hok hh (Nat.le_refl _)
  have hbd1 := Lg.at_bd hok hh (Nat.le_refl _)
  have hup := hok.tk.eight_bd hok.tk.foot0 hok.tk.foot1
  have hup2 : 0 ≤ l.tk.up l.tk.foot ∧ l.tk.up l.tk.foot ≤ 600 := by unfold Tk.up; omega
  have hday : l.dayAt l.es.length = if l.es.length = 0 then 0 else (l.e (l.es.length - 1)).day := rfl
  have h9 := fun x => Lg.add_full (x := x) herr h12
  have hF := wide_wide
  refine Ct_start (args := [_, _]) Tryz.func8 (by rfl) Tryz.ntmps8 (by rfl) ?_
  refine W_seq ?_
  refine W_region_lit (fun ds => ?_)
  refine WS_new hF (by rfl) (y_box (by rfl)) (fun b1 => ?_)
  refine WS_det hF (by rfl) (y_assign (c := .bool _) (by rfl)) ?_
  refine WS_nil ?_
  refine Then_normal ?_
  refine W_seq ?_
  refine W_region_lit (fun ds => ?_)
  refine WS_det hF (by rfl) (y_callL (by rfl) (by rfl) Tryz.call10 (fun w hw => alive_any w)) ?_
  refine WS_det hF (by rfl) (y_assign (c := .bool _) (by rfl)) ?_
  refine WS_nil ?_
  refine Then_normal ?_
  refine W_seq ?_
  refine W_seq ?_
  refine W_region_lit (fun ds => ?_)
  refine WS_det hF (by rfl) (y_loadN (by rfl) Tryz.isAgg29 Tryz.sizeOf29 (Mem.own (us := [.slice _ _ _, .int .i64 _, .int .i64 _, .int .i64 _, .int .i64 _, .slice _ _ _]) 0 (by rfl) (by rfl)) (by rfl)) ?_
  refine WS_det hF (by rfl) (y_callL (by rfl) (by rfl) Tryz.call11 (fun w hw => Ct_eq (ltruth_any l a cap ae cape w (hx.st w hw) (he.st w hw)) (by rw [hr]))) ?_
  refine WS_det hF (by rfl) (y_not (by rfl)) ?_
  refine WS_det hF (by rfl) (y_move (c := .bool _) (by rfl)) ?_
  refine WS_det hF (by rfl) (y_move (c := .bool _) (by rfl)) ?_
  refine WS_det hF (by rfl) (y_not (by rfl)) ?_
  refine WS_det hF (by rfl) (by first | exact y_pick_t (c := .bool _) (by rfl) (by rfl) | exact y_pick_f (c := .bool _) (by rfl) (by rfl)) ?_
  refine WS_nil ?_
  refine Then_normal ?_
  refine W_cond (by rfl) (fun c2 => ?_) (fun c2 => ?_)
  · cases c2
  ·
    try simp only [Bool.not_eq_true', Bool.not_eq_false', decide_eq_true_eq, decide_eq_false_iff_not, ne_eq, Classical.not_not, Int.not_lt, Int.not_le] at c2
    refine W_skip ?_
    refine Then_normal ?_
    refine W_seq ?_
    refine W_region_lit (fun ds => ?_)
    refine WS_det hF (by rfl) (y_fieldAddr (by rfl) fa29_2) ?_
    refine WS_det hF (by rfl) (y_load1 (by rfl) Tryz.isAgg27 (Mem.own1 0 (by rfl) (by rfl))) ?_
    refine WS_det hF (by rfl) (y_len (by rfl) Tryz.runUnderlying27) ?_
    refine WS_det hF (by rfl) (y_assign (c := .int .i64 _) (by rfl)) ?_
    refine WS_nil ?_
    refine Then_normal ?_
    refine W_seq ?_
    refine W_region_lit (fun ds => ?_)
    refine WS_det hF (by rfl) (y_loadN (by rfl) Tryz.isAgg29 Tryz.sizeOf29 (Mem.own (us := [.slice _ _ _, .int .i64 _, .int .i64 _, .int .i64 _, .int .i64 _, .slice _ _ _]) 0 (by rfl) (by rfl)) (by rfl)) ?_
    refine WS_det hF (by rfl) (y_move (c := .int .i64 _) (by rfl)) ?_
    refine WS_det hF (by rfl) (y_callL (by rfl) (by rfl) Tryz.call12 (fun w hw => Ct_eq (holds_any l a cap ae cape (l.es.length : Int) w hn (hx.st w hw) (he.st w hw)) (Lg.holdsV_at h0 (Nat.le_refl l.es.length)))) ?_
    refine WS_det hF (by rfl) (y_move (c := .tuple _) (by rfl)) ?_
    refine WS_det hF (by rfl) (y_extract (c := .agg _) (by rfl) (by rfl)) ?_
    refine WS_det hF (by rfl) (y_extract (c := .int .i64 _) (by rfl) (by rfl)) ?_
    refine WS_new hF (by rfl) (y_alloc Tryz.zeroValue26 (by rfl)) (fun b2 => ?_)
    refine WS_store hF (us := [.int .i64 _, .int .i64 _]) (i := 0) (by rfl) (by rfl) Tryz.sizeOf26 (by rfl) (by rfl) (by rfl) (by first | decide | exact Nat.le_of_ble_eq_true rfl | simp) ?_
    refine WS_det hF (by rfl) (y_assign (c := .int .i64 _) (by rfl)) ?_
    refine WS_nil ?_
    refine Then_normal ?_
    refine W_seq ?_
    refine W_region_lit (fun ds => ?_)
    refine WS_det hF (by rfl) (y_loadN (by rfl) Tryz.isAgg29 Tryz.sizeOf29 (Mem.own (us := [.slice _ _ _, .int .i64 _, .int .i64 _, .int .i64 _, .int .i64 _, .slice _ _ _]) 1 (by rfl) (by rfl)) (by rfl)) ?_
    refine WS_det hF (by rfl) (y_callL (by rfl) (by rfl) Tryz.call28 (fun w hw => Ct_eq (ready_any l a cap ae cape w hn (hx.st w hw) (he.st w hw)) (Lg.readyV_ok h0))) ?_
    refine WS_det hF (by rfl) (y_move (c := .tuple _) (by rfl)) ?_
    refine WS_det hF (by rfl) (y_extract (c := .agg _) (by rfl) (by rfl)) ?_
    refine WS_det hF (by rfl) (y_extract (c := .int .i64 _) (by rfl) (by rfl)) ?_
    refine WS_new hF (by rfl) (y_alloc Tryz.zeroValue26 (by rfl)) (fun b3 => ?_)
    refine WS_store hF (us := [.int .i64 _, .int .i64 _]) (i := 0) (by rfl) (by rfl) Tryz.sizeOf26 (by rfl) (by rfl) (by rfl) (by first | decide | exact Nat.le_of_ble_eq_true rfl | simp) ?_
    refine WS_det hF (by rfl) (y_assign (c := .int .i64 _) (by rfl)) ?_
    refine WS_nil ?_
    refine Then_normal ?_
    refine W_seq ?_
    refine W_keep [(1, .int .u8 _), (2, .pointer _), (4, .bool _), (5, .bool _), (6, .int .i64 _), (7, .pointer _), (8, .int .i64 _), (9, .pointer _), (10, .int .i64 _)] (by repeat (first | exact trivial | refine ⟨by rfl, ?_⟩)) (fun e => ?_)
    refine W_region_lit (fun ds => ?_)
    refine WS_det hF (by rfl) (y_loadN (by rfl) Tryz.isAgg29 Tryz.sizeOf29 (Mem.own (us := [.slice _ _ _, .int .i64 _, .int .i64 _, .int .i64 _, .int .i64 _, .slice _ _ _]) 2 (by rfl) (by rfl)) (by rfl)) ?_
    refine WS_det hF (by rfl) (y_callL (by rfl) (by rfl) Tryz.call29 (fun w hw => Ct_eq (room_any l a cap ae cape w hn (hx.st w hw) (he.st w hw)) (Lg.roomV_ok h0))) ?_
    refine WS_det hF (by rfl) (y_move (c := .tuple _) (by rfl)) ?_
    refine WS_det hF (by rfl) (y_extract (c := .agg _) (by rfl) (by rfl)) ?_
    refine WS_det hF (by rfl) (y_extract (c := .int .i64 _) (by rfl) (by rfl)) ?_
    refine WS_new hF (by rfl) (y_alloc Tryz.zeroValue26 (by rfl)) (fun b4 => ?_)
    refine WS_store hF (us := [.int .i64 _, .int .i64 _]) (i := 0) (by rfl) (by rfl) Tryz.sizeOf26 (by rfl) (by rfl) (by rfl) (by first | decide | exact Nat.le_of_ble_eq_true rfl | simp) ?_
    refine WS_det hF (by rfl) (y_assign (c := .int .i64 _) (by rfl)) ?_
    refine WS_nil ?_
    refine Then_normal ?_
    refine W_seq ?_
    refine W_draw0 hF Tryzmixed [] (by decide +kernel) (fun ds => ?_)
    refine P_det (by rfl) (Over_nil (y_fieldAddr (by rfl) fa29_0)) ?_
    refine P_det (by rfl) (Over_nil (y_loadN (by rfl) Tryz.isAgg24 Tryz.sizeOf24 (Mem.own (us := [.slice _ _ _, .int .i64 _, .int .i64 _]) 3 (by rfl) (by rfl)) (by rfl))) ?_
    refine P_det (by rfl) (Over_nil (y_callL (by rfl) (by rfl) Tryz.call14 (fun w hw => full_any l.tk a cap w hn (by omega) (hx.st w hw)))) ?_
    refine P_det (by rfl) (Over_nil (y_fieldAddr (by rfl) fa29_0)) ?_
    refine P_det (by rfl) (Over_nil (y_loadN (by rfl) Tryz.isAgg24 Tryz.sizeOf24 (Mem.own (us := [.slice _ _ _, .int .i64 _, .int .i64 _]) 3 (by rfl) (by rfl)) (by rfl))) ?_
    refine P_det (by rfl) (Over_nil (y_callL (by rfl) (by rfl) Tryz.call30 (fun w hw => foots_any l a cap ae cape w hok.tk hn (hx.st w hw) (he.st w hw)))) ?_
    refine P_det (by rfl) (Over_nil (y_assign (c := .int .i64 _) (by rfl))) ?_
    refine P_det (by rfl) (Over_nil (y_assign (c := .int .i64 _) (by rfl))) ?_
    refine PW_end (by rfl) ?_
    refine OverAll_nil ?_
    rintro -
    refine Then_normal ?_
    refine W_seq ?_
    refine W_seq ?_
    refine W_draw0 hF Tryzmixed [] (by decide +kernel) (fun ds => ?_)
    refine P_det (by rfl) (Over_nil (y_move (c := .int .i64 _) (by rfl))) ?_
    refine P_det (by rfl) (Over_nil (YD_no (y_neq (by rfl) (by rfl)) dect)) ?_
    refine P_det (by rfl) (Over_nil (y_move (c := .bool _) (by rfl))) ?_
    refine P_det (by rfl) (Over_nil (y_move (c := .int .i64 _) (by rfl))) ?_
    refine P_det (by rfl) (Over_nil (YD_no (y_neq (by rfl) (by rfl)) dect)) ?_
    refine P_det (by rfl) (Over_nil (by first | exact y_pick_t (c := .bool _) (by rfl) (by rfl) | exact y_pick_f (c := .bool _) (by rfl) (by rfl))) ?_
    refine P_det (by rfl) (Over_nil (y_move (c := .bool _) (by rfl))) ?_
    refine P_det (by rfl) (Over_nil (y_move (c := .int .i64 _) (by rfl))) ?_
    refine P_det (by rfl) (Over_nil (YD_no (y_neq (by rfl) (by rfl)) dect)) ?_
    refine P_det (by rfl) (Over_nil (by first | exact y_pick_t (c := .bool _) (by rfl) (by rfl) | exact y_pick_f (c := .bool _) (by rfl) (by rfl))) ?_
    refine P_det (by rfl) (Over_nil (y_move (c := .bool _) (by rfl))) ?_
    refine P_det (by rfl) (Over_nil (y_loadN (by rfl) Tryz.isAgg26 Tryz.sizeOf26 (Mem.own (us := [.int .i64 _, .int .i64 _]) 0 (by rfl) (by rfl)) (by rfl))) ?_
    refine P_det (by rfl) (Over_nil (y_move (c := .int .i64 _) (by rfl))) ?_
    refine P_det (by rfl) (Over_nil (y_fieldAddr (by rfl) fa26_1)) ?_
    refine P_det (by rfl) (Over_nil (y_load1 (by rfl) Tryz.isAgg3 (Mem.own1 2 (by rfl) (by rfl)))) ?_
    refine P_det (by rfl) (Over_nil (y_sub (by rfl) (by rfl) (by unfold I64; omega))) ?_
    refine P_det (by rfl) (Over_nil (y_move (c := .int .i64 _) (by rfl))) ?_
    refine P_det (by rfl) (Over_nil (y_fieldAddr (by rfl) fa26_0)) ?_
    refine P_det (by rfl) (Over_nil (y_load1 (by rfl) Tryz.isAgg3 (Mem.own1 2 (by rfl) (by rfl)))) ?_
    refine P_det (by rfl) (Over_nil (y_sub (by rfl) (by rfl) (by unfold I64; omega))) ?_
    refine P_det (by rfl) (Over_nil (y_callL (by rfl) (by rfl) Tryz.call22 (fun w hw => lspan_any _ _ w))) ?_
    refine P_det (by rfl) (Over_nil (YD_no (y_neqlA (by rfl) (by rfl) neqA26) (by
                                        simp [ieq_self]))) ?_
    refine P_det (by rfl) (Over_nil (by first | exact y_pick_t (c := .bool _) (by rfl) (by rfl) | exact y_pick_f (c := .bool _) (by rfl) (by rfl))) ?_
    refine P_det (by rfl) (Over_nil (y_move (c := .bool _) (by rfl))) ?_
    refine P_det (by rfl) (Over_nil (y_fieldAddr (by rfl) fa26_0)) ?_
    refine P_det (by rfl) (Over_nil (y_load1 (by rfl) Tryz.isAgg3 (Mem.own1 1 (by rfl) (by rfl)))) ?_
    refine P_det (by rfl) (Over_nil (y_fieldAddr (by rfl) fa26_0)) ?_
    refine P_det (by rfl) (Over_nil (y_load1 (by rfl) Tryz.isAgg3 (Mem.own1 2 (by rfl) (by rfl)))) ?_
    refine P_det (by rfl) (Over_nil (y_move (c := .int .i64 _) (by rfl))) ?_
    refine P_det (by rfl) (Over_nil (y_sub (by rfl) (by rfl) (by unfold I64; omega))) ?_
    refine P_det (by rfl) (Over_nil (y_max (by rfl) (by rfl))) ?_
    refine P_det (by rfl) (Over_nil (YD_no (y_neq (by rfl) (by rfl)) dect)) ?_
    refine P_det (by rfl) (Over_nil (by first | exact y_pick_t (c := .bool _) (by rfl) (by rfl) | exact y_pick_f (c := .bool _) (by rfl) (by rfl))) ?_
    refine P_det (by rfl) (Over_nil (y_move (c := .bool _) (by rfl))) ?_
    refine P_det (by rfl) (Over_nil (y_fieldAddr (by rfl) fa26_1)) ?_
    refine P_det (by rfl) (Over_nil (y_load1 (by rfl) Tryz.isAgg3 (Mem.own1 1 (by rfl) (by rfl)))) ?_
    refine P_det (by rfl) (Over_nil (y_fieldAddr (by rfl) fa26_1)) ?_
    refine P_det (by rfl) (Over_nil (y_load1 (by rfl) Tryz.isAgg3 (Mem.own1 2 (by rfl) (by rfl)))) ?_
    refine P_det (by rfl) (Over_nil (y_move (c := .int .i64 _) (by rfl))) ?_
    refine P_det (by rfl) (Over_nil (y_sub (by rfl) (by rfl) (by unfold I64; omega))) ?_
    refine P_det (by rfl) (Over_nil (y_max (by rfl) (by rfl))) ?_
    refine P_det (by rfl) (Over_nil (YD_no (y_neq (by rfl) (by rfl)) dect)) ?_
    refine P_det (by rfl) (Over_nil (by first | exact y_pick_t (c := .bool _) (by rfl) (by rfl) | exact y_pick_f (c := .bool _) (by rfl) (by rfl))) ?_
    refine P_det (by rfl) (Over_nil (y_move (c := .bool _) (by rfl))) ?_
    refine P_det (by rfl) (Over_nil (y_fieldAddr (by rfl) fa26_0)) ?_
    refine P_det (by rfl) (Over_nil (y_load1 (by rfl) Tryz.isAgg3 (Mem.own1 2 (by rfl) (by rfl)))) ?_
    refine P_det (by rfl) (Over_nil (y_move (c := .int .i64 _) (by rfl))) ?_
    refine P_det (by rfl) (Over_nil (y_geq (by rfl) (by rfl))) ?_
    refine P_det (by rfl) (Over_nil (y_move (c := .bool _) (by rfl))) ?_
    refine P_split 115 (by rfl) (fun g9_48 => ?_) (fun g9_48 => ?_)
    ·
      try simp only [Bool.not_eq_true', Bool.not_eq_false', decide_eq_true_eq, decide_eq_false_iff_not, ne_eq, Classical.not_not, Int.not_lt, Int.not_le] at g9_48
      refine P_det (by rfl) (Over_nil (y_fieldAddr (by rfl) fa26_0)) ?_
      refine P_det (by rfl) (Over_nil (y_load1 (by rfl) Tryz.isAgg3 (Mem.own1 1 (by rfl) (by rfl)))) ?_
      refine P_det (by rfl) (Over_nil (y_fieldAddr (by rfl) fa26_1)) ?_
      refine P_det (by rfl) (Over_nil (y_load1 (by rfl) Tryz.isAgg3 (Mem.own1 0 (by rfl) (by rfl)))) ?_
      refine P_det (by rfl) (Over_nil (y_add (by rfl) (by rfl) (by unfold I64; omega))) ?_
      refine P_det (by rfl) (Over_nil (y_move (c := .int .i64 _) (by rfl))) ?_
      refine P_det (by rfl) (Over_nil (y_move (c := .int .i64 _) (by rfl))) ?_
      refine P_det (by rfl) (Over_nil (y_sub (by rfl) (by rfl) (by unfold I64; omega))) ?_
      refine P_det (by rfl) (Over_nil (YD_no (y_neq (by rfl) (by rfl)) dect)) ?_
      refine P_det (by rfl) (Over_nil (y_move (c := .bool _) (by rfl))) ?_
      refine P_det (by rfl) (Over_nil (y_fieldAddr (by rfl) fa26_1)) ?_
      refine P_det (by rfl) (Over_nil (y_load1 (by rfl) Tryz.isAgg3 (Mem.own1 1 (by rfl) (by rfl)))) ?_
      refine P_det (by rfl) (Over_nil (y_fieldAddr (by rfl) fa26_0)) ?_
      refine P_det (by rfl) (Over_nil (y_load1 (by rfl) Tryz.isAgg3 (Mem.own1 0 (by rfl) (by rfl)))) ?_
      refine P_det (by rfl) (Over_nil (y_add (by rfl) (by rfl) (by unfold I64; omega))) ?_
      refine P_det (by rfl) (Over_nil (y_move (c := .int .i64 _) (by rfl))) ?_
      refine P_det (by rfl) (Over_nil (y_move (c := .int .i64 _) (by rfl))) ?_
      refine P_det (by rfl) (Over_nil (y_sub (by rfl) (by rfl) (by unfold I64; omega))) ?_
      refine P_det (by rfl) (Over_nil (YD_no (y_neq (by rfl) (by rfl)) dect)) ?_
      refine P_det (by rfl) (Over_nil (by first | exact y_pick_t (c := .bool _) (by rfl) (by rfl) | exact y_pick_f (c := .bool _) (by rfl) (by rfl))) ?_
      refine P_det (by rfl) (Over_nil (by first | exact y_pick_t (c := .bool _) (by rfl) (by rfl) | exact y_pick_f (c := .bool _) (by rfl) (by rfl))) ?_
      refine P_det (by rfl) (Over_nil (by first | exact y_pick_t (c := .bool _) (by rfl) (by rfl) | exact y_pick_f (c := .bool _) (by rfl) (by rfl))) ?_
      refine PW_end (by rfl) ?_
      refine OverAll_nil ?_
      rintro -
      refine Then_normal ?_
      refine W_cond (by rfl) (fun c9 => ?_) (fun c9 => ?_)
      · cases c9
      ·
        try simp only [Bool.not_eq_true', Bool.not_eq_false', decide_eq_true_eq, decide_eq_false_iff_not, ne_eq, Classical.not_not, Int.not_lt, Int.not_le] at c9
        refine W_skip ?_
        refine Then_normal ?_
        refine W_seq ?_
        refine W_keep [(1, .int .u8 _), (2, .pointer _), (4, .bool _), (5, .bool _), (6, .int .i64 _), (7, .pointer _), (9, .pointer _)] (by repeat (first | exact trivial | refine ⟨by rfl, ?_⟩)) (fun e => ?_)
        refine W_region_lit (fun ds => ?_)
        refine WS_det hF (by rfl) (y_assign (c := .int .i64 _) (by rfl)) ?_
        refine WS_nil ?_
        refine Then_normal ?_
        refine W_J1H (γ := Int) (fun d => d = l.dayAt l.es.length) [(1, .int .u8 _), (2, .pointer _), (4, .bool _), (5, .bool _), (6, .int .i64 _), (7, .pointer _), (9, .pointer _)] (fun d => [(15, .int .i64 d)]) slt ?_ ?_
        ·
          rintro d e hd
          refine W_seq ?_
          refine W_draw0 hF Tryzmixed [16] (by decide +kernel) (fun ds => ?_)
          refine P_det (by rfl) (Over_nil (y_loadN (by rfl) Tryz.isAgg29 Tryz.sizeOf29 (Mem.own (us := [.slice _ _ _, .int .i64 _, .int .i64 _, .int .i64 _, .int .i64 _, .slice _ _ _]) 3 (by rfl) (by rfl)) (by rfl))) ?_
          refine P_det (by rfl) (Over_nil (y_move (c := .int .i64 _) (by rfl))) ?_
          refine P_det (by rfl) (Over_nil (y_callL (by rfl) (by rfl) Tryz.call15 (fun w hw => lentry_any _ _ _ _ w))) ?_
          refine P_new (by rfl) (by rfl) (Over_nil (y_callL (by rfl) (by rfl) Tryz.call19 (fun w hw => add_any l a cap ae cape (drE d 0) w hn (hx.st w hw) (he.st w hw)))) ?_
          refine P_ali [151] (fun e => e 151) (by rfl) (by rfl) (by rfl) (fun _ _ h => h 151 (List.mem_singleton.2 rfl)) (Over_in (by rfl) (Over_nil (by intro vb6 l151 hb6; obtain ⟨rfl, rfl⟩ := AddV.full hb6 (h9 _); exact (YD0_of (y_move (c := .tuple _) (by rfl)))))) ?_
          refine P_ali [147] (fun e => tupAt (e 147) 0) (by rfl) (by rfl) (by rfl) (fun _ _ h => congrArg (tupAt · 0) (h 147 (List.mem_singleton.2 rfl))) (Over_in (by rfl) (Over_in (by rfl) (Over_nil (by intro vb8 l151 hb8; obtain ⟨rfl, rfl⟩ := AddV.full hb8 (h9 _); rintro vb9 _ ⟨hvb9, rfl⟩; replace hvb9 : vb9 = .tuple _ := hvb9; subst hvb9; exact (YD0_of (y_extract (c := .agg _) (by rfl) (by rfl))))))) ?_
          refine P_ali [147] (fun e => tupAt (e 147) 1) (by rfl) (by rfl) (by rfl) (fun _ _ h => congrArg (tupAt · 1) (h 147 (List.mem_singleton.2 rfl))) (Over_out (by rfl) (Over_in (by rfl) (Over_in (by rfl) (Over_nil (by intro vb11 l151 hb11; obtain ⟨rfl, rfl⟩ := AddV.full hb11 (h9 _); rintro vb12 _ ⟨hvb12, rfl⟩; replace hvb12 : vb12 = .tuple _ := hvb12; subst hvb12; exact (YD0_of (y_extract (c := .int .i64 _) (by rfl) (by rfl)))))))) ?_
          refine P_newSD 152 (by rfl) (by rfl) (by rfl) (Over_out (by rfl) (Over_out (by rfl) (Over_out (by rfl) (Over_out (by rfl) (Over_nil (y_alloc Tryz.zeroValue29 (by rfl))))))) ?_
          refine P_st 16 0 (by rfl) (by rfl) (by rfl) (by rfl) (by rfl) (Over_out (by rfl) (Over_in (by rfl) (Over_in (by rfl) (Over_in (by rfl) (Over_nil (by intro vb15 l151 hb15; obtain ⟨rfl, rfl⟩ := AddV.full hb15 (h9 _); rintro vb16 _ ⟨hvb16, rfl⟩; replace hvb16 : vb16 = .tuple _ := hvb16; subst hvb16; rintro vb17 _ ⟨hvb17, rfl⟩; replace hvb17 : vb17 = .agg _ := hvb17; subst hvb17; exact (st_newD (by rfl) (by rfl) Tryz.sizeOf29 (by rfl) (by rfl) (by first | decide | exact Nat.le_of_ble_eq_true rfl | simp)))))))) ?_
          refine P_ali [153] (fun e => e 153) (by rfl) (by rfl) (by rfl) (fun _ _ h => h 153 (List.mem_singleton.2 rfl)) (Over_out (by rfl) (Over_in (by rfl) (Over_out (by rfl) (Over_in (by rfl) (Over_in (by rfl) (Over_nil (by intro vb18 l151 hb18; obtain ⟨rfl, rfl⟩ := AddV.full hb18 (h9 _); rintro vb19 _ ⟨hvb19, rfl⟩; replace hvb19 : vb19 = .tuple _ := hvb19; subst hvb19; rintro vb20 _ ⟨hvb20, rfl⟩; replace hvb20 : vb20 = .int .i64 _ := hvb20; subst hvb20; exact (YD0_of (y_assign (c := .int .i64 _) (by rfl)))))))))) ?_
          refine PW_end (by rfl) ?_
          refine OverAll_cons (fun w17 l17 => ?_)
          refine OverAll_cons (fun w16 l16 => ?_)
          refine OverAll_cons (fun w153 l153 => ?_)
          refine OverAll_cons (fun w152 l152 => ?_)
          refine OverAll_cons (fun w147 l147 => ?_)
          refine OverAll_cons (fun w151 l151 => ?_)
          refine OverAll_nil ?_
          rintro ⟨⟨⟨⟨⟨⟨-, h17⟩, h16⟩, h153⟩, h152⟩, h147⟩, h151⟩
          obtain ⟨rfl, rfl⟩ := AddV.full h151 (h9 _)
          obtain ⟨h147, rfl⟩ := h147
          replace h147 : w147 = .tuple _ := h147
          subst h147
          obtain ⟨h152, rfl⟩ := h152
          replace h152 : w152 = .agg _ := h152
          subst h152
          obtain ⟨h153, rfl⟩ := h153
          replace h153 : w153 = .int .i64 _ := h153
          subst h153
          obtain ⟨h17, rfl⟩ := h17
          replace h17 : w17 = .int .i64 _ := h17
          subst h17
          obtain ⟨b14, rfl, rfl⟩ := h16
          refine Then_normal ?_
          refine W_seq ?_
          refine W_seq ?_
          refine W_region_lit (fun ds => ?_)
          refine WS_det hF (by rfl) (y_move (c := .int .i64 _) (by rfl)) ?_
          refine WS_det hF (by rfl) (YD_yes (y_neq (by rfl) (by rfl)) dect) ?_
          refine WS_nil ?_
          refine Then_normal ?_
          refine W_cond (by rfl) (fun c15 => ?_) (fun c15 => ?_)
          ·
            try simp only [Bool.not_eq_true', Bool.not_eq_false', decide_eq_true_eq, decide_eq_false_iff_not, ne_eq, Classical.not_not, Int.not_lt, Int.not_le] at c15
            refine W_seq ?_
            refine W_region_lit (fun ds => ?_)
            refine WS_det hF (by rfl) (y_move (c := .bool _) (by rfl)) ?_
            refine WS_det hF (by rfl) (y_move (c := .bool _) (by rfl)) ?_
            refine WS_det hF (by rfl) (y_move (c := .int .i64 _) (by rfl)) ?_
            refine WS_det hF (by rfl) (YD_yes (y_eql (by rfl) (by rfl)) dect) ?_
            refine WS_det hF (by rfl) (by first | exact y_pick_t (c := .bool _) (by rfl) (by rfl) | exact y_pick_f (c := .bool _) (by rfl) (by rfl)) ?_
            refine WS_det hF (by rfl) (y_move (c := .bool _) (by rfl)) ?_
            refine WS_det hF (by rfl) (y_move (c := .int .i64 _) (by rfl)) ?_
            refine WS_det hF (by rfl) (YD_yes (y_eql (by rfl) (by rfl)) dect) ?_
            refine WS_det hF (by rfl) (by first | exact y_pick_t (c := .bool _) (by rfl) (by rfl) | exact y_pick_f (c := .bool _) (by rfl) (by rfl)) ?_
            refine WS_det hF (by rfl) (y_assign (c := .bool _) (by rfl)) ?_
            refine WS_nil ?_
            refine Then_normal ?_
            refine W_ret ?_
            refine Then_ret ?_
            refine Fin_ret [.bool _] [] Tryz.results8 ⟨by rfl, trivial⟩ HSub.nil ?_
            rfl
          · cases c15
        ·
          intro J14
          refine W_seq ?_
          refine W_seq ?_
          refine W_region_lit (fun ds => ?_)
          refine WS_det hF (by rfl) (y_move (c := .int .i64 _) (by rfl)) ?_
          refine WS_det hF (by rfl) (y_gtr (by rfl) (by rfl)) ?_
          refine WS_nil ?_
          refine Then_normal ?_
          refine W_cond (by rfl) (fun c12 => ?_) (fun c12 => ?_)
          ·
            try simp only [Bool.not_eq_true', Bool.not_eq_false', decide_eq_true_eq, decide_eq_false_iff_not, ne_eq, Classical.not_not, Int.not_lt, Int.not_le] at c12
            obtain ⟨b, o, rfl, hc⟩ := he.cell (l.es.length - 1) (by omega)
            change At w b _ (l.e (l.es.length - 1)).cells at hc
            refine W_region_lit (fun ds => ?_)
            refine WS_det hF (by rfl) (y_fieldAddr (by rfl) fa29_2) ?_
            refine WS_det hF (by rfl) (y_load1 (by rfl) Tryz.isAgg27 (Mem.own1 3 (by rfl) (by rfl))) ?_
            refine WS_det hF (by rfl) (y_move (c := .int .i64 _) (by rfl)) ?_
            refine WS_det hF (by rfl) (y_sub (by rfl) (by rfl) (by unfold I64; omega)) ?_
            refine WS_det hF (by rfl) (y_index (k := l.es.length - 1) (by rfl) (by rfl) (by first | rfl | omega) (by first | decide | omega) Tryz.runUnderlying27 Tryz.sizeOf38) ?_
            refine WS_det hF (by rfl) (y_fieldAddr (by rfl) fa38_0) ?_
            refine WS_det hF (by rfl) (y_load1 (by rfl) Tryz.isAgg3 (by first | exact Mem.old1 (by assumption) | exact Mem.oldAt1 (by assumption) (by rfl) | exact Mem.old (by assumption) | exact Mem.oldAtL1 (by assumption) (by rfl) (by rfl))) ?_
            refine WS_det hF (by rfl) (y_assign (c := .int .i64 _) (by rfl)) ?_
            refine WS_nil ?_
            refine Then_normal ?_
            exact J14 ((l.e (l.es.length - 1)).day) _ _  (by rw [hday, if_neg (by omega)]) slt slt (HSub.sub sbA)
          ·
            try simp only [Bool.not_eq_true', Bool.not_eq_false', decide_eq_true_eq, decide_eq_false_iff_not, ne_eq, Classical.not_not, Int.not_lt, Int.not_le] at c12
            refine W_skip ?_
            refine Then_normal ?_
            exact J14 (0) _ _  (by rw [hday, if_pos (by omega)]) slt slt (HSub.sub sbA)
    ·
      try simp only [Bool.not_eq_true', Bool.not_eq_false', decide_eq_true_eq, decide_eq_false_iff_not, ne_eq, Classical.not_not, Int.not_lt, Int.not_le] at g9_48
      refine P_no (by rfl) ?_
      refine P_no (by rfl) ?_
      refine P_no (by rfl) ?_
      refine P_no (by rfl) ?_
      refine P_no (by rfl) ?_
      refine P_no (by rfl) ?_
      refine P_no (by rfl) ?_
      refine P_no (by rfl) ?_
      refine P_no (by rfl) ?_
      refine P_no (by rfl) ?_
      refine P_no (by rfl) ?_
      refine P_no (by rfl) ?_
      refine P_no (by rfl) ?_
      refine P_no (by rfl) ?_
      refine P_no (by rfl) ?_
      refine P_no (by rfl) ?_
      refine P_no (by rfl) ?_
      refine P_no (by rfl) ?_
      refine P_no (by rfl) ?_
      refine P_no (by rfl) ?_
      refine P_det (by rfl) (Over_nil (by first | exact y_pick_t (c := .bool _) (by rfl) (by rfl) | exact y_pick_f (c := .bool _) (by rfl) (by rfl))) ?_
      refine P_det (by rfl) (Over_nil (by first | exact y_pick_t (c := .bool _) (by rfl) (by rfl) | exact y_pick_f (c := .bool _) (by rfl) (by rfl))) ?_
      refine PW_end (by rfl) ?_
      refine OverAll_nil ?_
      rintro -
      refine Then_normal ?_
      refine W_cond (by rfl) (fun c9 => ?_) (fun c9 => ?_)
      · cases c9
      ·
        try simp only [Bool.not_eq_true', Bool.not_eq_false', decide_eq_true_eq, decide_eq_false_iff_not, ne_eq, Classical.not_not, Int.not_lt, Int.not_le] at c9
        refine W_skip ?_
        refine Then_normal ?_
        refine W_seq ?_
        refine W_keep [(1, .int .u8 _), (2, .pointer _), (4, .bool _), (5, .bool _), (6, .int .i64 _), (7, .pointer _), (9, .pointer _)] (by repeat (first | exact trivial | refine ⟨by rfl, ?_⟩)) (fun e => ?_)
        refine W_region_lit (fun ds => ?_)
        refine WS_det hF (by rfl) (y_assign (c := .int .i64 _) (by rfl)) ?_
        refine WS_nil ?_
        refine Then_normal ?_
        refine W_J1H (γ := Int) (fun d => d = l.dayAt l.es.length) [(1, .int .u8 _), (2, .pointer _), (4, .bool _), (5, .bool _), (6, .int .i64 _), (7, .pointer _), (9, .pointer _)] (fun d => [(15, .int .i64 d)]) slt ?_ ?_
        ·
          rintro d e hd
          refine W_seq ?_
          refine W_draw0 hF Tryzmixed [16] (by decide +kernel) (fun ds => ?_)
          refine P_det (by rfl) (Over_nil (y_loadN (by rfl) Tryz.isAgg29 Tryz.sizeOf29 (Mem.own (us := [.slice _ _ _, .int .i64 _, .int .i64 _, .int .i64 _, .int .i64 _, .slice _ _ _]) 3 (by rfl) (by rfl)) (by rfl))) ?_
          refine P_det (by rfl) (Over_nil (y_move (c := .int .i64 _) (by rfl))) ?_
          refine P_det (by rfl) (Over_nil (y_callL (by rfl) (by rfl) Tryz.call15 (fun w hw => lentry_any _ _ _ _ w))) ?_
          refine P_new (by rfl) (by rfl) (Over_nil (y_callL (by rfl) (by rfl) Tryz.call19 (fun w hw => add_any l a cap ae cape (drE d 0) w hn (hx.st w hw) (he.st w hw)))) ?_
          refine P_ali [151] (fun e => e 151) (by rfl) (by rfl) (by rfl) (fun _ _ h => h 151 (List.mem_singleton.2 rfl)) (Over_in (by rfl) (Over_nil (by intro vb23 l151 hb23; obtain ⟨rfl, rfl⟩ := AddV.full hb23 (h9 _); exact (YD0_of (y_move (c := .tuple _) (by rfl)))))) ?_
          refine P_ali [147] (fun e => tupAt (e 147) 0) (by rfl) (by rfl) (by rfl) (fun _ _ h => congrArg (tupAt · 0) (h 147 (List.mem_singleton.2 rfl))) (Over_in (by rfl) (Over_in (by rfl) (Over_nil (by intro vb25 l151 hb25; obtain ⟨rfl, rfl⟩ := AddV.full hb25 (h9 _); rintro vb26 _ ⟨hvb26, rfl⟩; replace hvb26 : vb26 = .tuple _ := hvb26; subst hvb26; exact (YD0_of (y_extract (c := .agg _) (by rfl) (by rfl))))))) ?_
          refine P_ali [147] (fun e => tupAt (e 147) 1) (by rfl) (by rfl) (by rfl) (fun _ _ h => congrArg (tupAt · 1) (h 147 (List.mem_singleton.2 rfl))) (Over_out (by rfl) (Over_in (by rfl) (Over_in (by rfl) (Over_nil (by intro vb28 l151 hb28; obtain ⟨rfl, rfl⟩ := AddV.full hb28 (h9 _); rintro vb29 _ ⟨hvb29, rfl⟩; replace hvb29 : vb29 = .tuple _ := hvb29; subst hvb29; exact (YD0_of (y_extract (c := .int .i64 _) (by rfl) (by rfl)))))))) ?_
          refine P_newSD 152 (by rfl) (by rfl) (by rfl) (Over_out (by rfl) (Over_out (by rfl) (Over_out (by rfl) (Over_out (by rfl) (Over_nil (y_alloc Tryz.zeroValue29 (by rfl))))))) ?_
          refine P_st 16 0 (by rfl) (by rfl) (by rfl) (by rfl) (by rfl) (Over_out (by rfl) (Over_in (by rfl) (Over_in (by rfl) (Over_in (by rfl) (Over_nil (by intro vb32 l151 hb32; obtain ⟨rfl, rfl⟩ := AddV.full hb32 (h9 _); rintro vb33 _ ⟨hvb33, rfl⟩; replace hvb33 : vb33 = .tuple _ := hvb33; subst hvb33; rintro vb34 _ ⟨hvb34, rfl⟩; replace hvb34 : vb34 = .agg _ := hvb34; subst hvb34; exact (st_newD (by rfl) (by rfl) Tryz.sizeOf29 (by rfl) (by rfl) (by first | decide | exact Nat.le_of_ble_eq_true rfl | simp)))))))) ?_
          refine P_ali [153] (fun e => e 153) (by rfl) (by rfl) (by rfl) (fun _ _ h => h 153 (List.mem_singleton.2 rfl)) (Over_out (by rfl) (Over_in (by rfl) (Over_out (by rfl) (Over_in (by rfl) (Over_in (by rfl) (Over_nil (by intro vb35 l151 hb35; obtain ⟨rfl, rfl⟩ := AddV.full hb35 (h9 _); rintro vb36 _ ⟨hvb36, rfl⟩; replace hvb36 : vb36 = .tuple _ := hvb36; subst hvb36; rintro vb37 _ ⟨hvb37, rfl⟩; replace hvb37 : vb37 = .int .i64 _ := hvb37; subst hvb37; exact (YD0_of (y_assign (c := .int .i64 _) (by rfl)))))))))) ?_
          refine PW_end (by rfl) ?_
          refine OverAll_cons (fun w17 l17 => ?_)
          refine OverAll_cons (fun w16 l16 => ?_)
          refine OverAll_cons (fun w153 l153 => ?_)
          refine OverAll_cons (fun w152 l152 => ?_)
          refine OverAll_cons (fun w147 l147 => ?_)
          refine OverAll_cons (fun w151 l151 => ?_)
          refine OverAll_nil ?_
          rintro ⟨⟨⟨⟨⟨⟨-, h17⟩, h16⟩, h153⟩, h152⟩, h147⟩, h151⟩
          obtain ⟨rfl, rfl⟩ := AddV.full h151 (h9 _)
          obtain ⟨h147, rfl⟩ := h147
          replace h147 : w147 = .tuple _ := h147
          subst h147
          obtain ⟨h152, rfl⟩ := h152
          replace h152 : w152 = .agg _ := h152
          subst h152
          obtain ⟨h153, rfl⟩ := h153
          replace h153 : w153 = .int .i64 _ := h153
          subst h153
          obtain ⟨h17, rfl⟩ := h17
          replace h17 : w17 = .int .i64 _ := h17
          subst h17
          obtain ⟨b31, rfl, rfl⟩ := h16
          refine Then_normal ?_
          refine W_seq ?_
          refine W_seq ?_
          refine W_region_lit (fun ds => ?_)
          refine WS_det hF (by rfl) (y_move (c := .int .i64 _) (by rfl)) ?_
          refine WS_det hF (by rfl) (YD_yes (y_neq (by rfl) (by rfl)) dect) ?_
          refine WS_nil ?_
          refine Then_normal ?_
          refine W_cond (by rfl) (fun c15 => ?_) (fun c15 => ?_)
          ·
            try simp only [Bool.not_eq_true', Bool.not_eq_false', decide_eq_true_eq, decide_eq_false_iff_not, ne_eq, Classical.not_not, Int.not_lt, Int.not_le] at c15
            refine W_seq ?_
            refine W_region_lit (fun ds => ?_)
            refine WS_det hF (by rfl) (y_move (c := .bool _) (by rfl)) ?_
            refine WS_det hF (by rfl) (y_move (c := .bool _) (by rfl)) ?_
            refine WS_det hF (by rfl) (y_move (c := .int .i64 _) (by rfl)) ?_
            refine WS_det hF (by rfl) (YD_yes (y_eql (by rfl) (by rfl)) dect) ?_
            refine WS_det hF (by rfl) (by first | exact y_pick_t (c := .bool _) (by rfl) (by rfl) | exact y_pick_f (c := .bool _) (by rfl) (by rfl)) ?_
            refine WS_det hF (by rfl) (y_move (c := .bool _) (by rfl)) ?_
            refine WS_det hF (by rfl) (y_move (c := .int .i64 _) (by rfl)) ?_
            refine WS_det hF (by rfl) (YD_yes (y_eql (by rfl) (by rfl)) dect) ?_
            refine WS_det hF (by rfl) (by first | exact y_pick_t (c := .bool _) (by rfl) (by rfl) | exact y_pick_f (c := .bool _) (by rfl) (by rfl)) ?_
            refine WS_det hF (by rfl) (y_assign (c := .bool _) (by rfl)) ?_
            refine WS_nil ?_
            refine Then_normal ?_
            refine W_ret ?_
            refine Then_ret ?_
            refine Fin_ret [.bool _] [] Tryz.results8 ⟨by rfl, trivial⟩ HSub.nil ?_
            rfl
          · cases c15
        ·
          intro J14
          refine W_seq ?_
          refine W_seq ?_
          refine W_region_lit (fun ds => ?_)
          refine WS_det hF (by rfl) (y_move (c := .int .i64 _) (by rfl)) ?_
          refine WS_det hF (by rfl) (y_gtr (by rfl) (by rfl)) ?_
          refine WS_nil ?_
          refine Then_normal ?_
          refine W_cond (by rfl) (fun c12 => ?_) (fun c12 => ?_)
          ·
            try simp only [Bool.not_eq_true', Bool.not_eq_false', decide_eq_true_eq, decide_eq_false_iff_not, ne_eq, Classical.not_not, Int.not_lt, Int.not_le] at c12
            obtain ⟨b, o, rfl, hc⟩ := he.cell (l.es.length - 1) (by omega)
            change At w b _ (l.e (l.es.length - 1)).cells at hc
            refine W_region_lit (fun ds => ?_)
            refine WS_det hF (by rfl) (y_fieldAddr (by rfl) fa29_2) ?_
            refine WS_det hF (by rfl) (y_load1 (by rfl) Tryz.isAgg27 (Mem.own1 3 (by rfl) (by rfl))) ?_
            refine WS_det hF (by rfl) (y_move (c := .int .i64 _) (by rfl)) ?_
            refine WS_det hF (by rfl) (y_sub (by rfl) (by rfl) (by unfold I64; omega)) ?_
            refine WS_det hF (by rfl) (y_index (k := l.es.length - 1) (by rfl) (by rfl) (by first | rfl | omega) (by first | decide | omega) Tryz.runUnderlying27 Tryz.sizeOf38) ?_
            refine WS_det hF (by rfl) (y_fieldAddr (by rfl) fa38_0) ?_
            refine WS_det hF (by rfl) (y_load1 (by rfl) Tryz.isAgg3 (by first | exact Mem.old1 (by assumption) | exact Mem.oldAt1 (by assumption) (by rfl) | exact Mem.old (by assumption) | exact Mem.oldAtL1 (by assumption) (by rfl) (by rfl))) ?_
            refine WS_det hF (by rfl) (y_assign (c := .int .i64 _) (by rfl)) ?_
            refine WS_nil ?_
            refine Then_normal ?_
            exact J14 ((l.e (l.es.length - 1)).day) _ _  (by rw [hday, if_neg (by omega)]) slt slt (HSub.sub sbA)
          ·
            try simp only [Bool.not_eq_true', Bool.not_eq_false', decide_eq_true_eq, decide_eq_false_iff_not, ne_eq, Classical.not_not, Int.not_lt, Int.not_le] at c12
            refine W_skip ?_
            refine Then_normal ?_
            exact J14 (0) _ _  (by rw [hday, if_pos (by omega)]) slt slt (HSub.sub sbA)
theorem tankStays_ok (l : Lg) (a : Option Addr) (cap : Nat) (ae : Option Addr) (cape : Nat) (p : Int) (w : World) (hn : l.tk.n ≤ 1000000) (hnes : l.es.length ≤ 1000000) (hp0 : 0 ≤ p) (hp1 : p ≤ 255) (hx : Ints w a l.tk.n cap l.tk.pints) (he : Ens w ae l.es.length cape l.es) (hr : l.trB = true) (h12 : l.es.length < 12) :
    Ct Tryz.prog 8 #[.agg #[.slice a l.tk.n cap, .int .i64 l.tk.leak, .int .i64 l.tk.foot, .int .i64 l.start.lo, .int .i64 l.start.hi, .slice ae l.es.length cape], .int .u8 p] w fun v _ => v = .bool true := by
  obtain ⟨hrd, h0⟩ := Lg.trB_iff.1 hr
  obtain ⟨_, _, herr⟩ := Lg.rdy_iff.1 hrd
  have hh : l.holdsB = true := l.holdsB_iff.2 (l.aerr0 h0).2
  have hok := l.ok_of herr
  have hn2 := hok.tk.n2
  have hf := hok.tk.full_bd
  have hne1 := Lg.at_ne hok hh (Nat.le_refl _)
  have hbd1 := Lg.at_bd hok hh (Nat.le_refl _)
  have hup := hok.tk.eight_bd hok.tk.foot0 hok.tk.foot1
  have hup2 : 0 ≤ l.tk.up l.tk.foot ∧ l.tk.up l.tk.foot ≤ 600 := by unfold Tk.up; omega
  have hday : l.dayAt l.es.length = if l.es.length = 0 then 0 else (l.e (l.es.length - 1)).day := rfl
  have hvb := emod_bd (n := p) (m := (l.es.length : Int)) (by omega)
  obtain ⟨j, hvv⟩ : ∃ j : Nat, p % ((l.es.length : Int) + 1) = (j : Int) := Int.eq_ofNat_of_zero_le hvb.1
  have hj : j ≤ l.es.length := by omega
  have hF := wide_wide
  refine Ct_start (args := [_, _]) Tryz.func8 (by rfl) Tryz.ntmps8 (by rfl) ?_
  refine W_seq ?_
  refine W_region_lit (fun ds => ?_)
  refine WS_new hF (by rfl) (y_box (by rfl)) (fun b1 => ?_)
  refine WS_det hF (by rfl) (y_assign (c := .bool _) (by rfl)) ?_
  refine WS_nil ?_
  refine Then_normal ?_
  refine W_seq ?_
  refine W_region_lit (fun ds => ?_)
  refine WS_det hF (by rfl) (y_callL (by rfl) (by rfl) Tryz.call10 (fun w hw => alive_any w)) ?_
  refine WS_det hF (by rfl) (y_assign (c := .bool _) (by rfl)) ?_
  refine WS_nil ?_
  refine Then_normal ?_
  refine W_seq ?_
  refine W_seq ?_
  refine W_region_lit (fun ds => ?_)
  refine WS_det hF (by rfl) (y_loadN (by rfl) Tryz.isAgg29 Tryz.sizeOf29 (Mem.own (us := [.slice _ _ _, .int .i64 _, .int .i64 _, .int .i64 _, .int .i64 _, .slice _ _ _]) 0 (by rfl) (by rfl)) (by rfl)) ?_
  refine WS_det hF (by rfl) (y_callL (by rfl) (by rfl) Tryz.call11 (fun w hw => Ct_eq (ltruth_any l a cap ae cape w (hx.st w hw) (he.st w hw)) (by rw [hr]))) ?_
  refine WS_det hF (by rfl) (y_not (by rfl)) ?_
  refine WS_det hF (by rfl) (y_move (c := .bool _) (by rfl)) ?_
  refine WS_det hF (by rfl) (y_move (c := .bool _) (by rfl)) ?_
  refine WS_det hF (by rfl) (y_not (by rfl)) ?_
  refine WS_det hF (by rfl) (by first | exact y_pick_t (c := .bool _) (by rfl) (by rfl) | exact y_pick_f (c := .bool _) (by rfl) (by rfl)) ?_
  refine WS_nil ?_
  refine Then_normal ?_
  refine W_cond (by rfl) (fun c2 => ?_) (fun c2 => ?_)
  · cases c2
  ·
    try simp only [Bool.not_eq_true', Bool.not_eq_false', decide_eq_true_eq, decide_eq_false_iff_not, ne_eq, Classical.not_not, Int.not_lt, Int.not_le] at c2
    refine W_skip ?_
    refine Then_normal ?_
    refine W_seq ?_
    refine W_region_lit (fun ds => ?_)
    refine WS_det hF (by rfl) (y_fieldAddr (by rfl) fa29_2) ?_
    refine WS_det hF (by rfl) (y_load1 (by rfl) Tryz.isAgg27 (Mem.own1 0 (by rfl) (by rfl))) ?_
    refine WS_det hF (by rfl) (y_len (by rfl) Tryz.runUnderlying27) ?_
    refine WS_det hF (by rfl) (y_assign (c := .int .i64 _) (by rfl)) ?_
    refine WS_nil ?_
    refine Then_normal ?_
    refine W_seq ?_
    refine W_region_lit (fun ds => ?_)
    refine WS_det hF (by rfl) (y_loadN (by rfl) Tryz.isAgg29 Tryz.sizeOf29 (Mem.own (us := [.slice _ _ _, .int .i64 _, .int .i64 _, .int .i64 _, .int .i64 _, .slice _ _ _]) 0 (by rfl) (by rfl)) (by rfl)) ?_
    refine WS_det hF (by rfl) (y_move (c := .int .i64 _) (by rfl)) ?_
    refine WS_det hF (by rfl) (y_callL (by rfl) (by rfl) Tryz.call12 (fun w hw => Ct_eq (holds_any l a cap ae cape (l.es.length : Int) w hn (hx.st w hw) (he.st w hw)) (Lg.holdsV_at h0 (Nat.le_refl l.es.length)))) ?_
    refine WS_det hF (by rfl) (y_move (c := .tuple _) (by rfl)) ?_
    refine WS_det hF (by rfl) (y_extract (c := .agg _) (by rfl) (by rfl)) ?_
    refine WS_det hF (by rfl) (y_extract (c := .int .i64 _) (by rfl) (by rfl)) ?_
    refine WS_new hF (by rfl) (y_alloc Tryz.zeroValue26 (by rfl)) (fun b2 => ?_)
    refine WS_store hF (us := [.int .i64 _, .int .i64 _]) (i := 0) (by rfl) (by rfl) Tryz.sizeOf26 (by rfl) (by rfl) (by rfl) (by first | decide | exact Nat.le_of_ble_eq_true rfl | simp) ?_
    refine WS_det hF (by rfl) (y_assign (c := .int .i64 _) (by rfl)) ?_
    refine WS_nil ?_
    refine Then_normal ?_
    refine W_seq ?_
    refine W_region_lit (fun ds => ?_)
    refine WS_det hF (by rfl) (y_loadN (by rfl) Tryz.isAgg29 Tryz.sizeOf29 (Mem.own (us := [.slice _ _ _, .int .i64 _, .int .i64 _, .int .i64 _, .int .i64 _, .slice _ _ _]) 1 (by rfl) (by rfl)) (by rfl)) ?_
    refine WS_det hF (by rfl) (y_callL (by rfl) (by rfl) Tryz.call28 (fun w hw => Ct_eq (ready_any l a cap ae cape w hn (hx.st w hw) (he.st w hw)) (Lg.readyV_ok h0))) ?_
    refine WS_det hF (by rfl) (y_move (c := .tuple _) (by rfl)) ?_
    refine WS_det hF (by rfl) (y_extract (c := .agg _) (by rfl) (by rfl)) ?_
    refine WS_det hF (by rfl) (y_extract (c := .int .i64 _) (by rfl) (by rfl)) ?_
    refine WS_new hF (by rfl) (y_alloc Tryz.zeroValue26 (by rfl)) (fun b3 => ?_)
    refine WS_store hF (us := [.int .i64 _, .int .i64 _]) (i := 0) (by rfl) (by rfl) Tryz.sizeOf26 (by rfl) (by rfl) (by rfl) (by first | decide | exact Nat.le_of_ble_eq_true rfl | simp) ?_
    refine WS_det hF (by rfl) (y_assign (c := .int .i64 _) (by rfl)) ?_
    refine WS_nil ?_
    refine Then_normal ?_
    refine W_seq ?_
    refine W_keep [(1, .int .u8 _), (2, .pointer _), (4, .bool _), (5, .bool _), (6, .int .i64 _), (7, .pointer _), (8, .int .i64 _), (9, .pointer _), (10, .int .i64 _)] (by repeat (first | exact trivial | refine ⟨by rfl, ?_⟩)) (fun e => ?_)
    refine W_region_lit (fun ds => ?_)
    refine WS_det hF (by rfl) (y_loadN (by rfl) Tryz.isAgg29 Tryz.sizeOf29 (Mem.own (us := [.slice _ _ _, .int .i64 _, .int .i64 _, .int .i64 _, .int .i64 _, .slice _ _ _]) 2 (by rfl) (by rfl)) (by rfl)) ?_
    refine WS_det hF (by rfl) (y_callL (by rfl) (by rfl) Tryz.call29 (fun w hw => Ct_eq (room_any l a cap ae cape w hn (hx.st w hw) (he.st w hw)) (Lg.roomV_ok h0))) ?_
    refine WS_det hF (by rfl) (y_move (c := .tuple _) (by rfl)) ?_
    refine WS_det hF (by rfl) (y_extract (c := .agg _) (by rfl) (by rfl)) ?_
    refine WS_det hF (by rfl) (y_extract (c := .int .i64 _) (by rfl) (by rfl)) ?_
    refine WS_new hF (by rfl) (y_alloc Tryz.zeroValue26 (by rfl)) (fun b4 => ?_)
    refine WS_store hF (us := [.int .i64 _, .int .i64 _]) (i := 0) (by rfl) (by rfl) Tryz.sizeOf26 (by rfl) (by rfl) (by rfl) (by first | decide | exact Nat.le_of_ble_eq_true rfl | simp) ?_
    refine WS_det hF (by rfl) (y_assign (c := .int .i64 _) (by rfl)) ?_
    refine WS_nil ?_
    refine Then_normal ?_
    refine W_seq ?_
    refine W_draw0 hF Tryzmixed [] (by decide +kernel) (fun ds => ?_)
    refine P_det (by rfl) (Over_nil (y_fieldAddr (by rfl) fa29_0)) ?_
    refine P_det (by rfl) (Over_nil (y_loadN (by rfl) Tryz.isAgg24 Tryz.sizeOf24 (Mem.own (us := [.slice _ _ _, .int .i64 _, .int .i64 _]) 3 (by rfl) (by rfl)) (by rfl))) ?_
    refine P_det (by rfl) (Over_nil (y_callL (by rfl) (by rfl) Tryz.call14 (fun w hw => full_any l.tk a cap w hn (by omega) (hx.st w hw)))) ?_
    refine P_det (by rfl) (Over_nil (y_fieldAddr (by rfl) fa29_0)) ?_
    refine P_det (by rfl) (Over_nil (y_loadN (by rfl) Tryz.isAgg24 Tryz.sizeOf24 (Mem.own (us := [.slice _ _ _, .int .i64 _, .int .i64 _]) 3 (by rfl) (by rfl)) (by rfl))) ?_
    refine P_det (by rfl) (Over_nil (y_callL (by rfl) (by rfl) Tryz.call30 (fun w hw => foots_any l a cap ae cape w hok.tk hn (hx.st w hw) (he.st w hw)))) ?_
    refine P_det (by rfl) (Over_nil (y_assign (c := .int .i64 _) (by rfl))) ?_
    refine P_det (by rfl) (Over_nil (y_assign (c := .int .i64 _) (by rfl))) ?_
    refine PW_end (by rfl) ?_
    refine OverAll_nil ?_
    rintro -
    refine Then_normal ?_
    refine W_seq ?_
    refine W_seq ?_
    refine W_draw0 hF Tryzmixed [] (by decide +kernel) (fun ds => ?_)
    refine P_det (by rfl) (Over_nil (y_move (c := .int .i64 _) (by rfl))) ?_
    refine P_det (by rfl) (Over_nil (YD_no (y_neq (by rfl) (by rfl)) dect)) ?_
    refine P_det (by rfl) (Over_nil (y_move (c := .bool _) (by rfl))) ?_
    refine P_det (by rfl) (Over_nil (y_move (c := .int .i64 _) (by rfl))) ?_
    refine P_det (by rfl) (Over_nil (YD_no (y_neq (by rfl) (by rfl)) dect)) ?_
    refine P_det (by rfl) (Over_nil (by first | exact y_pick_t (c := .bool _) (by rfl) (by rfl) | exact y_pick_f (c := .bool _) (by rfl) (by rfl))) ?_
    refine P_det (by rfl) (Over_nil (y_move (c := .bool _) (by rfl))) ?_
    refine P_det (by rfl) (Over_nil (y_move (c := .int .i64 _) (by rfl))) ?_
    refine P_det (by rfl) (Over_nil (YD_no (y_neq (by rfl) (by rfl)) dect)) ?_
    refine P_det (by rfl) (Over_nil (by first | exact y_pick_t (c := .bool _) (by rfl) (by rfl) | exact y_pick_f (c := .bool _) (by rfl) (by rfl))) ?_
    refine P_det (by rfl) (Over_nil (y_move (c := .bool _) (by rfl))) ?_
    refine P_det (by rfl) (Over_nil (y_loadN (by rfl) Tryz.isAgg26 Tryz.sizeOf26 (Mem.own (us := [.int .i64 _, .int .i64 _]) 0 (by rfl) (by rfl)) (by rfl))) ?_
    refine P_det (by rfl) (Over_nil (y_move (c := .int .i64 _) (by rfl))) ?_
    refine P_det (by rfl) (Over_nil (y_fieldAddr (by rfl) fa26_1)) ?_
    refine P_det (by rfl) (Over_nil (y_load1 (by rfl) Tryz.isAgg3 (Mem.own1 2 (by rfl) (by rfl)))) ?_
    refine P_det (by rfl) (Over_nil (y_sub (by rfl) (by rfl) (by unfold I64; omega))) ?_
    refine P_det (by rfl) (Over_nil (y_move (c := .int .i64 _) (by rfl))) ?_
    refine P_det (by rfl) (Over_nil (y_fieldAddr (by rfl) fa26_0)) ?_
    refine P_det (by rfl) (Over_nil (y_load1 (by rfl) Tryz.isAgg3 (Mem.own1 2 (by rfl) (by rfl)))) ?_
    refine P_det (by rfl) (Over_nil (y_sub (by rfl) (by rfl) (by unfold I64; omega))) ?_
    refine P_det (by rfl) (Over_nil (y_callL (by rfl) (by rfl) Tryz.call22 (fun w hw => lspan_any _ _ w))) ?_
    refine P_det (by rfl) (Over_nil (YD_no (y_neqlA (by rfl) (by rfl) neqA26) (by
                                        simp [ieq_self]))) ?_
    refine P_det (by rfl) (Over_nil (by first | exact y_pick_t (c := .bool _) (by rfl) (by rfl) | exact y_pick_f (c := .bool _) (by rfl) (by rfl))) ?_
    refine P_det (by rfl) (Over_nil (y_move (c := .bool _) (by rfl))) ?_
    refine P_det (by rfl) (Over_nil (y_fieldAddr (by rfl) fa26_0)) ?_
    refine P_det (by rfl) (Over_nil (y_load1 (by rfl) Tryz.isAgg3 (Mem.own1 1 (by rfl) (by rfl)))) ?_
    refine P_det (by rfl) (Over_nil (y_fieldAddr (by rfl) fa26_0)) ?_
    refine P_det (by rfl) (Over_nil (y_load1 (by rfl) Tryz.isAgg3 (Mem.own1 2 (by rfl) (by rfl)))) ?_
    refine P_det (by rfl) (Over_nil (y_move (c := .int .i64 _) (by rfl))) ?_
    refine P_det (by rfl) (Over_nil (y_sub (by rfl) (by rfl) (by unfold I64; omega))) ?_
    refine P_det (by rfl) (Over_nil (y_max (by rfl) (by rfl))) ?_
    refine P_det (by rfl) (Over_nil (YD_no (y_neq (by rfl) (by rfl)) dect)) ?_
    refine P_det (by rfl) (Over_nil (by first | exact y_pick_t (c := .bool _) (by rfl) (by rfl) | exact y_pick_f (c := .bool _) (by rfl) (by rfl))) ?_
    refine P_det (by rfl) (Over_nil (y_move (c := .bool _) (by rfl))) ?_
    refine P_det (by rfl) (Over_nil (y_fieldAddr (by rfl) fa26_1)) ?_
    refine P_det (by rfl) (Over_nil (y_load1 (by rfl) Tryz.isAgg3 (Mem.own1 1 (by rfl) (by rfl)))) ?_
    refine P_det (by rfl) (Over_nil (y_fieldAddr (by rfl) fa26_1)) ?_
    refine P_det (by rfl) (Over_nil (y_load1 (by rfl) Tryz.isAgg3 (Mem.own1 2 (by rfl) (by rfl)))) ?_
    refine P_det (by rfl) (Over_nil (y_move (c := .int .i64 _) (by rfl))) ?_
    refine P_det (by rfl) (Over_nil (y_sub (by rfl) (by rfl) (by unfold I64; omega))) ?_
    refine P_det (by rfl) (Over_nil (y_max (by rfl) (by rfl))) ?_
    refine P_det (by rfl) (Over_nil (YD_no (y_neq (by rfl) (by rfl)) dect)) ?_
    refine P_det (by rfl) (Over_nil (by first | exact y_pick_t (c := .bool _) (by rfl) (by rfl) | exact y_pick_f (c := .bool _) (by rfl) (by rfl))) ?_
    refine P_det (by rfl) (Over_nil (y_move (c := .bool _) (by rfl))) ?_
    refine P_det (by rfl) (Over_nil (y_fieldAddr (by rfl) fa26_0)) ?_
    refine P_det (by rfl) (Over_nil (y_load1 (by rfl) Tryz.isAgg3 (Mem.own1 2 (by rfl) (by rfl)))) ?_
    refine P_det (by rfl) (Over_nil (y_move (c := .int .i64 _) (by rfl))) ?_
    refine P_det (by rfl) (Over_nil (y_geq (by rfl) (by rfl))) ?_
    refine P_det (by rfl) (Over_nil (y_move (c := .bool _) (by rfl))) ?_
    refine P_split 115 (by rfl) (fun g9_48 => ?_) (fun g9_48 => ?_)
    ·
      try simp only [Bool.not_eq_true', Bool.not_eq_false', decide_eq_true_eq, decide_eq_false_iff_not, ne_eq, Classical.not_not, Int.not_lt, Int.not_le] at g9_48
      refine P_det (by rfl) (Over_nil (y_fieldAddr (by rfl) fa26_0)) ?_
      refine P_det (by rfl) (Over_nil (y_load1 (by rfl) Tryz.isAgg3 (Mem.own1 1 (by rfl) (by rfl)))) ?_
      refine P_det (by rfl) (Over_nil (y_fieldAddr (by rfl) fa26_1)) ?_
      refine P_det (by rfl) (Over_nil (y_load1 (by rfl) Tryz.isAgg3 (Mem.own1 0 (by rfl) (by rfl)))) ?_
      refine P_det (by rfl) (Over_nil (y_add (by rfl) (by rfl) (by unfold I64; omega))) ?_
      refine P_det (by rfl) (Over_nil (y_move (c := .int .i64 _) (by rfl))) ?_
      refine P_det (by rfl) (Over_nil (y_move (c := .int .i64 _) (by rfl))) ?_
      refine P_det (by rfl) (Over_nil (y_sub (by rfl) (by rfl) (by unfold I64; omega))) ?_
      refine P_det (by rfl) (Over_nil (YD_no (y_neq (by rfl) (by rfl)) dect)) ?_
      refine P_det (by rfl) (Over_nil (y_move (c := .bool _) (by rfl))) ?_
      refine P_det (by rfl) (Over_nil (y_fieldAddr (by rfl) fa26_1)) ?_
      refine P_det (by rfl) (Over_nil (y_load1 (by rfl) Tryz.isAgg3 (Mem.own1 1 (by rfl) (by rfl)))) ?_
      refine P_det (by rfl) (Over_nil (y_fieldAddr (by rfl) fa26_0)) ?_
      refine P_det (by rfl) (Over_nil (y_load1 (by rfl) Tryz.isAgg3 (Mem.own1 0 (by rfl) (by rfl)))) ?_
      refine P_det (by rfl) (Over_nil (y_add (by rfl) (by rfl) (by unfold I64; omega))) ?_
      refine P_det (by rfl) (Over_nil (y_move (c := .int .i64 _) (by rfl))) ?_
      refine P_det (by rfl) (Over_nil (y_move (c := .int .i64 _) (by rfl))) ?_
      refine P_det (by rfl) (Over_nil (y_sub (by rfl) (by rfl) (by unfold I64; omega))) ?_
      refine P_det (by rfl) (Over_nil (YD_no (y_neq (by rfl) (by rfl)) dect)) ?_
      refine P_det (by rfl) (Over_nil (by first | exact y_pick_t (c := .bool _) (by rfl) (by rfl) | exact y_pick_f (c := .bool _) (by rfl) (by rfl))) ?_
      refine P_det (by rfl) (Over_nil (by first | exact y_pick_t (c := .bool _) (by rfl) (by rfl) | exact y_pick_f (c := .bool _) (by rfl) (by rfl))) ?_
      refine P_det (by rfl) (Over_nil (by first | exact y_pick_t (c := .bool _) (by rfl) (by rfl) | exact y_pick_f (c := .bool _) (by rfl) (by rfl))) ?_
      refine PW_end (by rfl) ?_
      refine OverAll_nil ?_
      rintro -
      refine Then_normal ?_
      refine W_cond (by rfl) (fun c9 => ?_) (fun c9 => ?_)
      · cases c9
      ·
        try simp only [Bool.not_eq_true', Bool.not_eq_false', decide_eq_true_eq, decide_eq_false_iff_not, ne_eq, Classical.not_not, Int.not_lt, Int.not_le] at c9
        refine W_skip ?_
        refine Then_normal ?_
        refine W_seq ?_
        refine W_keep [(1, .int .u8 _), (2, .pointer _), (4, .bool _), (5, .bool _), (6, .int .i64 _), (7, .pointer _), (9, .pointer _)] (by repeat (first | exact trivial | refine ⟨by rfl, ?_⟩)) (fun e => ?_)
        refine W_region_lit (fun ds => ?_)
        refine WS_det hF (by rfl) (y_assign (c := .int .i64 _) (by rfl)) ?_
        refine WS_nil ?_
        refine Then_normal ?_
        refine W_J1H (γ := Int) (fun d => d = l.dayAt l.es.length) [(1, .int .u8 _), (2, .pointer _), (4, .bool _), (5, .bool _), (6, .int .i64 _), (7, .pointer _), (9, .pointer _)] (fun d => [(15, .int .i64 d)]) slt ?_ ?_
        ·
          rintro d e hd
          refine W_seq ?_
          have hS := Lg.stay herr hh h12 hd
          have hy1 : (l.put (drE d 0)).holdsV (j : Int) = .tuple #[.agg #[.int .i64 (l.at j).lo, .int .i64 (l.at j).hi], .int .i64 0] := by
            rw [Lg.holdsV_at hS.ae (by rw [l.put_len]; omega), hS.at_ j hj]
          have hy2 : (l.put (drE d 0)).holdsV ((l.es.length : Int) + 1) = .tuple #[.agg #[.int .i64 (l.at l.es.length).lo, .int .i64 (l.at l.es.length).hi], .int .i64 0] := by
            have := Lg.holdsV_at (i := l.es.length + 1) hS.ae (by rw [l.put_len]; exact Nat.le_refl _)
            rw [hS.last] at this
            exact_mod_cast this
          have hy3 := Lg.leakedV_ok hS.ae
          rw [hS.lost (-1) (.inl rfl), hS.lost 1 (.inr rfl)] at hy3
          have hy4 := Lg.readyV_ok hS.ae
          rw [l.put_len, hS.last] at hy4
          have hy5 : (l.put (drE d 0)).movedV ((l.es.length : Int) + 1) = .tuple #[.agg #[.int .i64 0, .int .i64 0], .int .i64 0] := by
            have hk : ((l.put (drE d 0)).e l.es.length).kind = 2 := by rw [l.put_en]; rfl
            unfold Lg.movedV
            rw [if_pos hS.ae, show ((l.es.length : Int) + 1 - 1).toNat = l.es.length by omega, if_pos (by rw [inB1.2 ⟨by omega, by rw [l.put_len]; omega⟩, hk]; rfl), hS.moved]; rfl
          refine W_draw0 hF Tryzmixed [16] (by decide +kernel) (fun ds => ?_)
          refine P_det (by rfl) (Over_nil (y_loadN (by rfl) Tryz.isAgg29 Tryz.sizeOf29 (Mem.own (us := [.slice _ _ _, .int .i64 _, .int .i64 _, .int .i64 _, .int .i64 _, .slice _ _ _]) 3 (by rfl) (by rfl)) (by rfl))) ?_
          refine P_det (by rfl) (Over_nil (y_move (c := .int .i64 _) (by rfl))) ?_
          refine P_det (by rfl) (Over_nil (y_callL (by rfl) (by rfl) Tryz.call15 (fun w hw => lentry_any _ _ _ _ w))) ?_
          refine P_new (by rfl) (by rfl) (Over_nil (y_callL (by rfl) (by rfl) Tryz.call19 (fun w hw => add_any l a cap ae cape (drE d 0) w hn (hx.st w hw) (he.st w hw)))) ?_
          refine P_ali [151] (fun e => e 151) (by rfl) (by rfl) (by rfl) (fun _ _ h => h 151 (List.mem_singleton.2 rfl)) (Over_in (by rfl) (Over_nil (by intro vb6 l151 hb6; obtain ⟨y1, yc1, y2, yc2, Hy1, Hy2, rfl, hr1, hr2, rfl⟩ := AddV.ok hb6 hS.a1; exact (YD0_of (y_move (c := .tuple _) (by rfl)))))) ?_
          refine P_ali [147] (fun e => tupAt (e 147) 0) (by rfl) (by rfl) (by rfl) (fun _ _ h => congrArg (tupAt · 0) (h 147 (List.mem_singleton.2 rfl))) (Over_in (by rfl) (Over_in (by rfl) (Over_nil (by intro vb8 l151 hb8; obtain ⟨y1, yc1, y2, yc2, Hy1, Hy2, rfl, hr1, hr2, rfl⟩ := AddV.ok hb8 hS.a1; rintro vb9 _ ⟨hvb9, rfl⟩; replace hvb9 : vb9 = .tuple _ := hvb9; subst hvb9; exact (YD0_of (y_extract (c := .agg _) (by rfl) (by rfl))))))) ?_
          refine P_ali [147] (fun e => tupAt (e 147) 1) (by rfl) (by rfl) (by rfl) (fun _ _ h => congrArg (tupAt · 1) (h 147 (List.mem_singleton.2 rfl))) (Over_out (by rfl) (Over_in (by rfl) (Over_in (by rfl) (Over_nil (by intro vb11 l151 hb11; obtain ⟨y1, yc1, y2, yc2, Hy1, Hy2, rfl, hr1, hr2, rfl⟩ := AddV.ok hb11 hS.a1; rintro vb12 _ ⟨hvb12, rfl⟩; replace hvb12 : vb12 = .tuple _ := hvb12; subst hvb12; exact (YD0_of (y_extract (c := .int .i64 _) (by rfl) (by rfl)))))))) ?_
          refine P_newSD 152 (by rfl) (by rfl) (by rfl) (Over_out (by rfl) (Over_out (by rfl) (Over_out (by rfl) (Over_out (by rfl) (Over_nil (y_alloc Tryz.zeroValue29 (by rfl))))))) ?_
          refine P_st 16 0 (by rfl) (by rfl) (by rfl) (by rfl) (by rfl) (Over_out (by rfl) (Over_in (by rfl) (Over_in (by rfl) (Over_in (by rfl) (Over_nil (by intro vb15 l151 hb15; obtain ⟨y1, yc1, y2, yc2, Hy1, Hy2, rfl, hr1, hr2, rfl⟩ := AddV.ok hb15 hS.a1; rintro vb16 _ ⟨hvb16, rfl⟩; replace hvb16 : vb16 = .tuple _ := hvb16; subst hvb16; rintro vb17 _ ⟨hvb17, rfl⟩; replace hvb17 : vb17 = .agg _ := hvb17; subst hvb17; exact (st_newD (by rfl) (by rfl) Tryz.sizeOf29 (by rfl) (by rfl) (by first | decide | exact Nat.le_of_ble_eq_true rfl | simp)))))))) ?_
          refine P_ali [153] (fun e => e 153) (by rfl) (by rfl) (by rfl) (fun _ _ h => h 153 (List.mem_singleton.2 rfl)) (Over_out (by rfl) (Over_in (by rfl) (Over_out (by rfl) (Over_in (by rfl) (Over_in (by rfl) (Over_nil (by intro vb18 l151 hb18; obtain ⟨y1, yc1, y2, yc2, Hy1, Hy2, rfl, hr1, hr2, rfl⟩ := AddV.ok hb18 hS.a1; rintro vb19 _ ⟨hvb19, rfl⟩; replace hvb19 : vb19 = .tuple _ := hvb19; subst hvb19; rintro vb20 _ ⟨hvb20, rfl⟩; replace hvb20 : vb20 = .int .i64 _ := hvb20; subst hvb20; exact (YD0_of (y_assign (c := .int .i64 _) (by rfl)))))))))) ?_
          refine PW_end (by rfl) ?_
          refine OverAll_cons (fun w17 l17 => ?_)
          refine OverAll_cons (fun w16 l16 => ?_)
          refine OverAll_cons (fun w153 l153 => ?_)
          refine OverAll_cons (fun w152 l152 => ?_)
          refine OverAll_cons (fun w147 l147 => ?_)
          refine OverAll_cons (fun w151 l151 => ?_)
          refine OverAll_nil ?_
          rintro ⟨⟨⟨⟨⟨⟨-, h17⟩, h16⟩, h153⟩, h152⟩, h147⟩, h151⟩
          obtain ⟨y1, yc1, y2, yc2, Hy1, Hy2, rfl, hr1, hr2, rfl⟩ := AddV.ok h151 hS.a1
          obtain ⟨h147, rfl⟩ := h147
          replace h147 : w147 = .tuple _ := h147
          subst h147
          obtain ⟨h152, rfl⟩ := h152
          replace h152 : w152 = .agg _ := h152
          subst h152
          obtain ⟨h153, rfl⟩ := h153
          replace h153 : w153 = .int .i64 _ := h153
          subst h153
          obtain ⟨h17, rfl⟩ := h17
          replace h17 : w17 = .int .i64 _ := h17
          subst h17
          obtain ⟨b14, rfl, rfl⟩ := h16
          refine Then_normal ?_
          refine W_seq ?_
          refine W_seq ?_
          refine W_perm List.perm_append_comm ?_
          refine W_region_lit (fun ds => ?_)
          refine WS_det hF (by rfl) (y_move (c := .int .i64 _) (by rfl)) ?_
          refine WS_det hF (by rfl) (YD_no (y_neq (by rfl) (by rfl)) dect) ?_
          refine WS_nil ?_
          refine Then_normal ?_
          refine W_cond (by rfl) (fun c15 => ?_) (fun c15 => ?_)
          · cases c15
          ·
            try simp only [Bool.not_eq_true', Bool.not_eq_false', decide_eq_true_eq, decide_eq_false_iff_not, ne_eq, Classical.not_not, Int.not_lt, Int.not_le] at c15
            refine W_skip ?_
            refine Then_normal ?_
            refine W_seq ?_
            refine W_region_lit (fun ds => ?_)
            refine WS_det hF (by rfl) (y_move (c := .int .u8 _) (by rfl)) ?_
            refine WS_det hF (by rfl) (y_conv_iu (by rfl) Tryz.runUnderlying5 Tryz.runUnderlying3 (by first | exact IntWalk.i64_in _ (by omega) | exact IntWalk.u64_in _ (by omega))) ?_
            refine WS_det hF (by rfl) (y_move (c := .int .i64 _) (by rfl)) ?_
            refine WS_det hF (by rfl) (y_add (by rfl) (by rfl) (by unfold I64; omega)) ?_
            refine WS_det hF (by rfl) (YD_eq (y_rem (by rfl) (by rfl) (by omega) (by omega)) (congrArg (Value.int _) hvv)) ?_
            refine WS_det hF (by rfl) (y_assign (c := .int .i64 _) (by rfl)) ?_
            refine WS_nil ?_
            refine Then_normal ?_
            refine W_seq ?_
            refine W_region_lit (fun ds => ?_)
            refine WS_det hF (by rfl) (y_loadN (by rfl) Tryz.isAgg29 Tryz.sizeOf29 (Mem.own (us := [.slice _ _ _, .int .i64 _, .int .i64 _, .int .i64 _, .int .i64 _, .slice _ _ _]) 4 (by rfl) (by rfl)) (by rfl)) ?_
            refine WS_det hF (by rfl) (y_move (c := .int .i64 _) (by rfl)) ?_
            refine WS_det hF (by rfl) (y_callL (by rfl) (by rfl) Tryz.call12 (fun w hw => Ct_eq (holds_any l a cap ae cape (j : Int) w hn (hx.st w hw) (he.st w hw)) (Lg.holdsV_at h0 hj))) ?_
            refine WS_det hF (by rfl) (y_move (c := .tuple _) (by rfl)) ?_
            refine WS_det hF (by rfl) (y_extract (c := .agg _) (by rfl) (by rfl)) ?_
            refine WS_det hF (by rfl) (y_extract (c := .int .i64 _) (by rfl) (by rfl)) ?_
            refine WS_new hF (by rfl) (y_alloc Tryz.zeroValue26 (by rfl)) (fun b22 => ?_)
            refine WS_store hF (us := [.int .i64 _, .int .i64 _]) (i := 0) (by rfl) (by rfl) Tryz.sizeOf26 (by rfl) (by rfl) (by rfl) (by first | decide | exact Nat.le_of_ble_eq_true rfl | simp) ?_
            refine WS_det hF (by rfl) (y_assign (c := .int .i64 _) (by rfl)) ?_
            refine WS_nil ?_
            refine Then_normal ?_
            refine W_seq ?_
            refine W_region_lit (fun ds => ?_)
            refine WS_det hF (by rfl) (y_loadN (by rfl) Tryz.isAgg29 Tryz.sizeOf29 (Mem.own (us := [.slice _ _ _, .int .i64 _, .int .i64 _, .int .i64 _, .int .i64 _, .slice _ _ _]) 1 (by rfl) (by rfl)) (by rfl)) ?_
            refine WS_det hF (by rfl) (y_move (c := .int .i64 _) (by rfl)) ?_
            refine WS_det hF (by rfl) (y_callL (by rfl) (by rfl) Tryz.call12 (fun w hw => Ct_eq (holds_any (l.put (drE d 0)) y1 yc1 y2 yc2 (j : Int) w hn (NewRow.ints hr1 rfl sbA w hw) (NewRow.rws en_len hr2 rfl sbA w hw)) hy1)) ?_
            refine WS_det hF (by rfl) (y_move (c := .tuple _) (by rfl)) ?_
            refine WS_det hF (by rfl) (y_extract (c := .agg _) (by rfl) (by rfl)) ?_
            refine WS_det hF (by rfl) (y_extract (c := .int .i64 _) (by rfl) (by rfl)) ?_
            refine WS_new hF (by rfl) (y_alloc Tryz.zeroValue26 (by rfl)) (fun b23 => ?_)
            refine WS_store hF (us := [.int .i64 _, .int .i64 _]) (i := 0) (by rfl) (by rfl) Tryz.sizeOf26 (by rfl) (by rfl) (by rfl) (by first | decide | exact Nat.le_of_ble_eq_true rfl | simp) ?_
            refine WS_det hF (by rfl) (y_assign (c := .int .i64 _) (by rfl)) ?_
            refine WS_nil ?_
            refine Then_normal ?_
            refine W_seq ?_
            refine W_keep [(2, .pointer _), (4, .bool _), (5, .bool _), (6, .int .i64 _), (7, .pointer _), (9, .pointer _), (16, .pointer _), (19, .pointer _), (20, .int .i64 _), (21, .pointer _), (22, .int .i64 _)] (by repeat (first | exact trivial | refine ⟨by rfl, ?_⟩)) (fun e => ?_)
            refine W_region_lit (fun ds => ?_)
            refine WS_det hF (by rfl) (y_loadN (by rfl) Tryz.isAgg29 Tryz.sizeOf29 (Mem.own (us := [.slice _ _ _, .int .i64 _, .int .i64 _, .int .i64 _, .int .i64 _, .slice _ _ _]) 2 (by rfl) (by rfl)) (by rfl)) ?_
            refine WS_det hF (by rfl) (y_move (c := .int .i64 _) (by rfl)) ?_
            refine WS_det hF (by rfl) (y_add (by rfl) (by rfl) (by unfold I64; omega)) ?_
            refine WS_det hF (by rfl) (y_callL (by rfl) (by rfl) Tryz.call12 (fun w hw => Ct_eq (holds_any (l.put (drE d 0)) y1 yc1 y2 yc2 ((l.es.length : Int) + 1) w hn (NewRow.ints hr1 rfl sbA w hw) (NewRow.rws en_len hr2 rfl sbA w hw)) hy2)) ?_
            refine WS_det hF (by rfl) (y_move (c := .tuple _) (by rfl)) ?_
            refine WS_det hF (by rfl) (y_extract (c := .agg _) (by rfl) (by rfl)) ?_
            refine WS_det hF (by rfl) (y_extract (c := .int .i64 _) (by rfl) (by rfl)) ?_
            refine WS_new hF (by rfl) (y_alloc Tryz.zeroValue26 (by rfl)) (fun b24 => ?_)
            refine WS_store hF (us := [.int .i64 _, .int .i64 _]) (i := 0) (by rfl) (by rfl) Tryz.sizeOf26 (by rfl) (by rfl) (by rfl) (by first | decide | exact Nat.le_of_ble_eq_true rfl | simp) ?_
            refine WS_det hF (by rfl) (y_assign (c := .int .i64 _) (by rfl)) ?_
            refine WS_nil ?_
            refine Then_normal ?_
            refine W_seq ?_
            refine W_region_lit (fun ds => ?_)
            refine WS_det hF (by rfl) (y_loadN (by rfl) Tryz.isAgg29 Tryz.sizeOf29 (Mem.own (us := [.slice _ _ _, .int .i64 _, .int .i64 _, .int .i64 _, .int .i64 _, .slice _ _ _]) 7 (by rfl) (by rfl)) (by rfl)) ?_
            refine WS_det hF (by rfl) (y_callL (by rfl) (by rfl) Tryz.call21 (fun w hw => Ct_eq (leaked_any l a cap ae cape w hn (hx.st w hw) (he.st w hw)) (Lg.leakedV_ok h0))) ?_
            refine WS_det hF (by rfl) (y_move (c := .tuple _) (by rfl)) ?_
            refine WS_det hF (by rfl) (y_extract (c := .agg _) (by rfl) (by rfl)) ?_
            refine WS_det hF (by rfl) (y_extract (c := .int .i64 _) (by rfl) (by rfl)) ?_
            refine WS_new hF (by rfl) (y_alloc Tryz.zeroValue26 (by rfl)) (fun b25 => ?_)
            refine WS_store hF (us := [.int .i64 _, .int .i64 _]) (i := 0) (by rfl) (by rfl) Tryz.sizeOf26 (by rfl) (by rfl) (by rfl) (by first | decide | exact Nat.le_of_ble_eq_true rfl | simp) ?_
            refine WS_det hF (by rfl) (y_assign (c := .int .i64 _) (by rfl)) ?_
            refine WS_nil ?_
            refine Then_normal ?_
            refine W_seq ?_
            refine W_region_lit (fun ds => ?_)
            refine WS_det hF (by rfl) (y_loadN (by rfl) Tryz.isAgg29 Tryz.sizeOf29 (Mem.own (us := [.slice _ _ _, .int .i64 _, .int .i64 _, .int .i64 _, .int .i64 _, .slice _ _ _]) 4 (by rfl) (by rfl)) (by rfl)) ?_
            refine WS_det hF (by rfl) (y_callL (by rfl) (by rfl) Tryz.call21 (fun w hw => Ct_eq (leaked_any (l.put (drE d 0)) y1 yc1 y2 yc2 w hn (NewRow.ints hr1 rfl sbA w hw) (NewRow.rws en_len hr2 rfl sbA w hw)) hy3)) ?_
            refine WS_det hF (by rfl) (y_move (c := .tuple _) (by rfl)) ?_
            refine WS_det hF (by rfl) (y_extract (c := .agg _) (by rfl) (by rfl)) ?_
            refine WS_det hF (by rfl) (y_extract (c := .int .i64 _) (by rfl) (by rfl)) ?_
            refine WS_new hF (by rfl) (y_alloc Tryz.zeroValue26 (by rfl)) (fun b26 => ?_)
            refine WS_store hF (us := [.int .i64 _, .int .i64 _]) (i := 0) (by rfl) (by rfl) Tryz.sizeOf26 (by rfl) (by rfl) (by rfl) (by first | decide | exact Nat.le_of_ble_eq_true rfl | simp) ?_
            refine WS_det hF (by rfl) (y_assign (c := .int .i64 _) (by rfl)) ?_
            refine WS_nil ?_
            refine Then_normal ?_
            refine W_seq ?_
            refine W_region_lit (fun ds => ?_)
            refine WS_det hF (by rfl) (y_loadN (by rfl) Tryz.isAgg29 Tryz.sizeOf29 (Mem.own (us := [.slice _ _ _, .int .i64 _, .int .i64 _, .int .i64 _, .int .i64 _, .slice _ _ _]) 5 (by rfl) (by rfl)) (by rfl)) ?_
            refine WS_det hF (by rfl) (y_callL (by rfl) (by rfl) Tryz.call28 (fun w hw => Ct_eq (ready_any (l.put (drE d 0)) y1 yc1 y2 yc2 w hn (NewRow.ints hr1 rfl sbA w hw) (NewRow.rws en_len hr2 rfl sbA w hw)) hy4)) ?_
            refine WS_det hF (by rfl) (y_move (c := .tuple _) (by rfl)) ?_
            refine WS_det hF (by rfl) (y_extract (c := .agg _) (by rfl) (by rfl)) ?_
            refine WS_det hF (by rfl) (y_extract (c := .int .i64 _) (by rfl) (by rfl)) ?_
            refine WS_new hF (by rfl) (y_alloc Tryz.zeroValue26 (by rfl)) (fun b27 => ?_)
            refine WS_store hF (us := [.int .i64 _, .int .i64 _]) (i := 0) (by rfl) (by rfl) Tryz.sizeOf26 (by rfl) (by rfl) (by rfl) (by first | decide | exact Nat.le_of_ble_eq_true rfl | simp) ?_
            refine WS_det hF (by rfl) (y_assign (c := .int .i64 _) (by rfl)) ?_
            refine WS_nil ?_
            refine Then_normal ?_
            refine W_seq ?_
            refine W_keep [(4, .bool _), (5, .bool _), (6, .int .i64 _), (7, .pointer _), (9, .pointer _), (16, .pointer _), (19, .pointer _), (20, .int .i64 _), (21, .pointer _), (22, .int .i64 _), (23, .pointer _), (24, .int .i64 _), (25, .pointer _), (26, .int .i64 _), (27, .pointer _), (28, .int .i64 _), (29, .pointer _), (30, .int .i64 _)] (by repeat (first | exact trivial | refine ⟨by rfl, ?_⟩)) (fun e => ?_)
            refine W_region_lit (fun ds => ?_)
            refine WS_det hF (by rfl) (y_loadN (by rfl) Tryz.isAgg29 Tryz.sizeOf29 (Mem.own (us := [.slice _ _ _, .int .i64 _, .int .i64 _, .int .i64 _, .int .i64 _, .slice _ _ _]) 6 (by rfl) (by rfl)) (by rfl)) ?_
            refine WS_det hF (by rfl) (y_move (c := .int .i64 _) (by rfl)) ?_
            refine WS_det hF (by rfl) (y_add (by rfl) (by rfl) (by unfold I64; omega)) ?_
            refine WS_det hF (by rfl) (y_callL (by rfl) (by rfl) Tryz.call16 (fun w hw => Ct_eq (moved_any (l.put (drE d 0)) y1 yc1 y2 yc2 ((l.es.length : Int) + 1) w hn (NewRow.ints hr1 rfl sbA w hw) (NewRow.rws en_len hr2 rfl sbA w hw)) hy5)) ?_
            refine WS_det hF (by rfl) (y_move (c := .tuple _) (by rfl)) ?_
            refine WS_det hF (by rfl) (y_extract (c := .agg _) (by rfl) (by rfl)) ?_
            refine WS_det hF (by rfl) (y_extract (c := .int .i64 _) (by rfl) (by rfl)) ?_
            refine WS_new hF (by rfl) (y_alloc Tryz.zeroValue26 (by rfl)) (fun b28 => ?_)
            refine WS_store hF (us := [.int .i64 _, .int .i64 _]) (i := 0) (by rfl) (by rfl) Tryz.sizeOf26 (by rfl) (by rfl) (by rfl) (by first | decide | exact Nat.le_of_ble_eq_true rfl | simp) ?_
            refine WS_det hF (by rfl) (y_assign (c := .int .i64 _) (by rfl)) ?_
            refine WS_nil ?_
            refine Then_normal ?_
            refine W_seq ?_
            refine W_region_lit (fun ds => ?_)
            refine WS_det hF (by rfl) (y_move (c := .bool _) (by rfl)) ?_
            refine WS_det hF (by rfl) (y_move (c := .bool _) (by rfl)) ?_
            refine WS_det hF (by rfl) (y_move (c := .int .i64 _) (by rfl)) ?_
            refine WS_det hF (by rfl) (YD_yes (y_eql (by rfl) (by rfl)) dect) ?_
            refine WS_det hF (by rfl) (by first | exact y_pick_t (c := .bool _) (by rfl) (by rfl) | exact y_pick_f (c := .bool _) (by rfl) (by rfl)) ?_
            refine WS_det hF (by rfl) (y_move (c := .bool _) (by rfl)) ?_
            refine WS_det hF (by rfl) (y_move (c := .int .i64 _) (by rfl)) ?_
            refine WS_det hF (by rfl) (YD_yes (y_eql (by rfl) (by rfl)) dect) ?_
            refine WS_det hF (by rfl) (by first | exact y_pick_t (c := .bool _) (by rfl) (by rfl) | exact y_pick_f (c := .bool _) (by rfl) (by rfl)) ?_
            refine WS_det hF (by rfl) (y_move (c := .bool _) (by rfl)) ?_
            refine WS_det hF (by rfl) (y_loadN (by rfl) Tryz.isAgg26 Tryz.sizeOf26 (Mem.own (us := [.int .i64 _, .int .i64 _]) 6 (by rfl) (by rfl)) (by rfl)) ?_
            refine WS_det hF (by rfl) (y_loadN (by rfl) Tryz.isAgg26 Tryz.sizeOf26 (Mem.own (us := [.int .i64 _, .int .i64 _]) 5 (by rfl) (by rfl)) (by rfl)) ?_
            refine WS_det hF (by rfl) (YD_yes (y_eqlA (by rfl) (by rfl) eqA26) (by
                                        simp [ieq_self])) ?_
            refine WS_det hF (by rfl) (by first | exact y_pick_t (c := .bool _) (by rfl) (by rfl) | exact y_pick_f (c := .bool _) (by rfl) (by rfl)) ?_
            refine WS_det hF (by rfl) (y_move (c := .bool _) (by rfl)) ?_
            refine WS_det hF (by rfl) (y_move (c := .int .i64 _) (by rfl)) ?_
            refine WS_det hF (by rfl) (YD_yes (y_eql (by rfl) (by rfl)) dect) ?_
            refine WS_det hF (by rfl) (by first | exact y_pick_t (c := .bool _) (by rfl) (by rfl) | exact y_pick_f (c := .bool _) (by rfl) (by rfl)) ?_
            refine WS_det hF (by rfl) (y_move (c := .bool _) (by rfl)) ?_
            refine WS_det hF (by rfl) (y_loadN (by rfl) Tryz.isAgg26 Tryz.sizeOf26 (Mem.own (us := [.int .i64 _, .int .i64 _]) 4 (by rfl) (by rfl)) (by rfl)) ?_
            refine WS_det hF (by rfl) (y_loadN (by rfl) Tryz.isAgg26 Tryz.sizeOf26 (Mem.own (us := [.int .i64 _, .int .i64 _]) 10 (by rfl) (by rfl)) (by rfl)) ?_
            refine WS_det hF (by rfl) (YD_yes (y_eqlA (by rfl) (by rfl) eqA26) (by
                                        simp [ieq_self])) ?_
            refine WS_det hF (by rfl) (by first | exact y_pick_t (c := .bool _) (by rfl) (by rfl) | exact y_pick_f (c := .bool _) (by rfl) (by rfl)) ?_
            refine WS_det hF (by rfl) (y_move (c := .bool _) (by rfl)) ?_
            refine WS_det hF (by rfl) (y_move (c := .int .i64 _) (by rfl)) ?_
            refine WS_det hF (by rfl) (YD_yes (y_eql (by rfl) (by rfl)) dect) ?_
            refine WS_det hF (by rfl) (by first | exact y_pick_t (c := .bool _) (by rfl) (by rfl) | exact y_pick_f (c := .bool _) (by rfl) (by rfl)) ?_
            refine WS_det hF (by rfl) (y_move (c := .bool _) (by rfl)) ?_
            refine WS_det hF (by rfl) (y_move (c := .int .i64 _) (by rfl)) ?_
            refine WS_det hF (by rfl) (YD_yes (y_eql (by rfl) (by rfl)) dect) ?_
            refine WS_det hF (by rfl) (by first | exact y_pick_t (c := .bool _) (by rfl) (by rfl) | exact y_pick_f (c := .bool _) (by rfl) (by rfl)) ?_
            refine WS_det hF (by rfl) (y_move (c := .bool _) (by rfl)) ?_
            refine WS_det hF (by rfl) (y_loadN (by rfl) Tryz.isAgg26 Tryz.sizeOf26 (Mem.own (us := [.int .i64 _, .int .i64 _]) 3 (by rfl) (by rfl)) (by rfl)) ?_
            refine WS_det hF (by rfl) (y_loadN (by rfl) Tryz.isAgg26 Tryz.sizeOf26 (Mem.own (us := [.int .i64 _, .int .i64 _]) 2 (by rfl) (by rfl)) (by rfl)) ?_
            refine WS_det hF (by rfl) (YD_yes (y_eqlA (by rfl) (by rfl) eqA26) (by
                                        simp [ieq_self])) ?_
            refine WS_det hF (by rfl) (by first | exact y_pick_t (c := .bool _) (by rfl) (by rfl) | exact y_pick_f (c := .bool _) (by rfl) (by rfl)) ?_
            refine WS_det hF (by rfl) (y_move (c := .bool _) (by rfl)) ?_
            refine WS_det hF (by rfl) (y_move (c := .int .i64 _) (by rfl)) ?_
            refine WS_det hF (by rfl) (YD_yes (y_eql (by rfl) (by rfl)) dect) ?_
            refine WS_det hF (by rfl) (by first | exact y_pick_t (c := .bool _) (by rfl) (by rfl) | exact y_pick_f (c := .bool _) (by rfl) (by rfl)) ?_
            refine WS_det hF (by rfl) (y_move (c := .bool _) (by rfl)) ?_
            refine WS_det hF (by rfl) (y_loadN (by rfl) Tryz.isAgg26 Tryz.sizeOf26 (Mem.own (us := [.int .i64 _, .int .i64 _]) 1 (by rfl) (by rfl)) (by rfl)) ?_
            refine WS_det hF (by rfl) (y_loadN (by rfl) Tryz.isAgg26 Tryz.sizeOf26 (Mem.own (us := [.int .i64 _, .int .i64 _]) 9 (by rfl) (by rfl)) (by rfl)) ?_
            refine WS_det hF (by rfl) (YD_yes (y_eqlA (by rfl) (by rfl) eqA26) (by
                                        rw [Bool.and_eq_true]
                                        exact ⟨ieq_self, ieq_self⟩)) ?_
            refine WS_det hF (by rfl) (by first | exact y_pick_t (c := .bool _) (by rfl) (by rfl) | exact y_pick_f (c := .bool _) (by rfl) (by rfl)) ?_
            refine WS_det hF (by rfl) (y_move (c := .bool _) (by rfl)) ?_
            refine WS_det hF (by rfl) (y_move (c := .int .i64 _) (by rfl)) ?_
            refine WS_det hF (by rfl) (YD_yes (y_eql (by rfl) (by rfl)) dect) ?_
            refine WS_det hF (by rfl) (by first | exact y_pick_t (c := .bool _) (by rfl) (by rfl) | exact y_pick_f (c := .bool _) (by rfl) (by rfl)) ?_
            refine WS_det hF (by rfl) (y_move (c := .bool _) (by rfl)) ?_
            refine WS_det hF (by rfl) (y_loadN (by rfl) Tryz.isAgg26 Tryz.sizeOf26 (Mem.own (us := [.int .i64 _, .int .i64 _]) 0 (by rfl) (by rfl)) (by rfl)) ?_
            refine WS_det hF (by rfl) (y_buildL bd26 (by rfl)) ?_
            refine WS_det hF (by rfl) (YD_yes (y_eqlA (by rfl) (by rfl) eqA26) (by
                                        simp [ieq_self])) ?_
            refine WS_det hF (by rfl) (by first | exact y_pick_t (c := .bool _) (by rfl) (by rfl) | exact y_pick_f (c := .bool _) (by rfl) (by rfl)) ?_
            refine WS_det hF (by rfl) (y_assign (c := .bool _) (by rfl)) ?_
            refine WS_nil ?_
            refine Then_normal ?_
            refine W_ret ?_
            refine Fin_ret [.bool _] [] Tryz.results8 ⟨by rfl, trivial⟩ HSub.nil ?_
            rfl
        ·
          intro J14
          refine W_seq ?_
          refine W_seq ?_
          refine W_region_lit (fun ds => ?_)
          refine WS_det hF (by rfl) (y_move (c := .int .i64 _) (by rfl)) ?_
          refine WS_det hF (by rfl) (y_gtr (by rfl) (by rfl)) ?_
          refine WS_nil ?_
          refine Then_normal ?_
          refine W_cond (by rfl) (fun c12 => ?_) (fun c12 => ?_)
          ·
            try simp only [Bool.not_eq_true', Bool.not_eq_false', decide_eq_true_eq, decide_eq_false_iff_not, ne_eq, Classical.not_not, Int.not_lt, Int.not_le] at c12
            obtain ⟨b, o, rfl, hc⟩ := he.cell (l.es.length - 1) (by omega)
            change At w b _ (l.e (l.es.length - 1)).cells at hc
            refine W_region_lit (fun ds => ?_)
            refine WS_det hF (by rfl) (y_fieldAddr (by rfl) fa29_2) ?_
            refine WS_det hF (by rfl) (y_load1 (by rfl) Tryz.isAgg27 (Mem.own1 3 (by rfl) (by rfl))) ?_
            refine WS_det hF (by rfl) (y_move (c := .int .i64 _) (by rfl)) ?_
            refine WS_det hF (by rfl) (y_sub (by rfl) (by rfl) (by unfold I64; omega)) ?_
            refine WS_det hF (by rfl) (y_index (k := l.es.length - 1) (by rfl) (by rfl) (by first | rfl | omega) (by first | decide | omega) Tryz.runUnderlying27 Tryz.sizeOf38) ?_
            refine WS_det hF (by rfl) (y_fieldAddr (by rfl) fa38_0) ?_
            refine WS_det hF (by rfl) (y_load1 (by rfl) Tryz.isAgg3 (by first | exact Mem.old1 (by assumption) | exact Mem.oldAt1 (by assumption) (by rfl) | exact Mem.old (by assumption) | exact Mem.oldAtL1 (by assumption) (by rfl) (by rfl))) ?_
            refine WS_det hF (by rfl) (y_assign (c := .int .i64 _) (by rfl)) ?_
            refine WS_nil ?_
            refine Then_normal ?_
            exact J14 ((l.e (l.es.length - 1)).day) _ _  (by rw [hday, if_neg (by omega)]) slt slt (HSub.sub sbA)
          ·
            try simp only [Bool.not_eq_true', Bool.not_eq_false', decide_eq_true_eq, decide_eq_false_iff_not, ne_eq, Classical.not_not, Int.not_lt, Int.not_le] at c12
            refine W_skip ?_
            refine Then_normal ?_
            exact J14 (0) _ _  (by rw [hday, if_pos (by omega)]) slt slt (HSub.sub sbA)
    ·
      try simp only [Bool.not_eq_true', Bool.not_eq_false', decide_eq_true_eq, decide_eq_false_iff_not, ne_eq, Classical.not_not, Int.not_lt, Int.not_le] at g9_48
      refine P_no (by rfl) ?_
      refine P_no (by rfl) ?_
      refine P_no (by rfl) ?_
      refine P_no (by rfl) ?_
      refine P_no (by rfl) ?_
      refine P_no (by rfl) ?_
      refine P_no (by rfl) ?_
      refine P_no (by rfl) ?_
      refine P_no (by rfl) ?_
      refine P_no (by rfl) ?_
      refine P_no (by rfl) ?_
      refine P_no (by rfl) ?_
      refine P_no (by rfl) ?_
      refine P_no (by rfl) ?_
      refine P_no (by rfl) ?_
      refine P_no (by rfl) ?_
      refine P_no (by rfl) ?_
      refine P_no (by rfl) ?_
      refine P_no (by rfl) ?_
      refine P_no (by rfl) ?_
      refine P_det (by rfl) (Over_nil (by first | exact y_pick_t (c := .bool _) (by rfl) (by rfl) | exact y_pick_f (c := .bool _) (by rfl) (by rfl))) ?_
      refine P_det (by rfl) (Over_nil (by first | exact y_pick_t (c := .bool _) (by rfl) (by rfl) | exact y_pick_f (c := .bool _) (by rfl) (by rfl))) ?_
      refine PW_end (by rfl) ?_
      refine OverAll_nil ?_
      rintro -
      refine Then_normal ?_
      refine W_cond (by rfl) (fun c9 => ?_) (fun c9 => ?_)
      · cases c9
      ·
        try simp only [Bool.not_eq_true', Bool.not_eq_false', decide_eq_true_eq, decide_eq_false_iff_not, ne_eq, Classical.not_not, Int.not_lt, Int.not_le] at c9
        refine W_skip ?_
        refine Then_normal ?_
        refine W_seq ?_
        refine W_keep [(1, .int .u8 _), (2, .pointer _), (4, .bool _), (5, .bool _), (6, .int .i64 _), (7, .pointer _), (9, .pointer _)] (by repeat (first | exact trivial | refine ⟨by rfl, ?_⟩)) (fun e => ?_)
        refine W_region_lit (fun ds => ?_)
        refine WS_det hF (by rfl) (y_assign (c := .int .i64 _) (by rfl)) ?_
        refine WS_nil ?_
        refine Then_normal ?_
        refine W_J1H (γ := Int) (fun d => d = l.dayAt l.es.length) [(1, .int .u8 _), (2, .pointer _), (4, .bool _), (5, .bool _), (6, .int .i64 _), (7, .pointer _), (9, .pointer _)] (fun d => [(15, .int .i64 d)]) slt ?_ ?_
        ·
          rintro d e hd
          refine W_seq ?_
          have hS := Lg.stay herr hh h12 hd
          have hy1 : (l.put (drE d 0)).holdsV (j : Int) = .tuple #[.agg #[.int .i64 (l.at j).lo, .int .i64 (l.at j).hi], .int .i64 0] := by
            rw [Lg.holdsV_at hS.ae (by rw [l.put_len]; omega), hS.at_ j hj]
          have hy2 : (l.put (drE d 0)).holdsV ((l.es.length : Int) + 1) = .tuple #[.agg #[.int .i64 (l.at l.es.length).lo, .int .i64 (l.at l.es.length).hi], .int .i64 0] := by
            have := Lg.holdsV_at (i := l.es.length + 1) hS.ae (by rw [l.put_len]; exact Nat.le_refl _)
            rw [hS.last] at this
            exact_mod_cast this
          have hy3 := Lg.leakedV_ok hS.ae
          rw [hS.lost (-1) (.inl rfl), hS.lost 1 (.inr rfl)] at hy3
          have hy4 := Lg.readyV_ok hS.ae
          rw [l.put_len, hS.last] at hy4
          have hy5 : (l.put (drE d 0)).movedV ((l.es.length : Int) + 1) = .tuple #[.agg #[.int .i64 0, .int .i64 0], .int .i64 0] := by
            have hk : ((l.put (drE d 0)).e l.es.length).kind = 2 := by rw [l.put_en]; rfl
            unfold Lg.movedV
            rw [if_pos hS.ae, show ((l.es.length : Int) + 1 - 1).toNat = l.es.length by omega, if_pos (by rw [inB1.2 ⟨by omega, by rw [l.put_len]; omega⟩, hk]; rfl), hS.moved]; rfl
          refine W_draw0 hF Tryzmixed [16] (by decide +kernel) (fun ds => ?_)
          refine P_det (by rfl) (Over_nil (y_loadN (by rfl) Tryz.isAgg29 Tryz.sizeOf29 (Mem.own (us := [.slice _ _ _, .int .i64 _, .int .i64 _, .int .i64 _, .int .i64 _, .slice _ _ _]) 3 (by rfl) (by rfl)) (by rfl))) ?_
          refine P_det (by rfl) (Over_nil (y_move (c := .int .i64 _) (by rfl))) ?_
          refine P_det (by rfl) (Over_nil (y_callL (by rfl) (by rfl) Tryz.call15 (fun w hw => lentry_any _ _ _ _ w))) ?_
          refine P_new (by rfl) (by rfl) (Over_nil (y_callL (by rfl) (by rfl) Tryz.call19 (fun w hw => add_any l a cap ae cape (drE d 0) w hn (hx.st w hw) (he.st w hw)))) ?_
          refine P_ali [151] (fun e => e 151) (by rfl) (by rfl) (by rfl) (fun _ _ h => h 151 (List.mem_singleton.2 rfl)) (Over_in (by rfl) (Over_nil (by intro vb30 l151 hb30; obtain ⟨y1, yc1, y2, yc2, Hy1, Hy2, rfl, hr1, hr2, rfl⟩ := AddV.ok hb30 hS.a1; exact (YD0_of (y_move (c := .tuple _) (by rfl)))))) ?_
          refine P_ali [147] (fun e => tupAt (e 147) 0) (by rfl) (by rfl) (by rfl) (fun _ _ h => congrArg (tupAt · 0) (h 147 (List.mem_singleton.2 rfl))) (Over_in (by rfl) (Over_in (by rfl) (Over_nil (by intro vb32 l151 hb32; obtain ⟨y1, yc1, y2, yc2, Hy1, Hy2, rfl, hr1, hr2, rfl⟩ := AddV.ok hb32 hS.a1; rintro vb33 _ ⟨hvb33, rfl⟩; replace hvb33 : vb33 = .tuple _ := hvb33; subst hvb33; exact (YD0_of (y_extract (c := .agg _) (by rfl) (by rfl))))))) ?_
          refine P_ali [147] (fun e => tupAt (e 147) 1) (by rfl) (by rfl) (by rfl) (fun _ _ h => congrArg (tupAt · 1) (h 147 (List.mem_singleton.2 rfl))) (Over_out (by rfl) (Over_in (by rfl) (Over_in (by rfl) (Over_nil (by intro vb35 l151 hb35; obtain ⟨y1, yc1, y2, yc2, Hy1, Hy2, rfl, hr1, hr2, rfl⟩ := AddV.ok hb35 hS.a1; rintro vb36 _ ⟨hvb36, rfl⟩; replace hvb36 : vb36 = .tuple _ := hvb36; subst hvb36; exact (YD0_of (y_extract (c := .int .i64 _) (by rfl) (by rfl)))))))) ?_
          refine P_newSD 152 (by rfl) (by rfl) (by rfl) (Over_out (by rfl) (Over_out (by rfl) (Over_out (by rfl) (Over_out (by rfl) (Over_nil (y_alloc Tryz.zeroValue29 (by rfl))))))) ?_
          refine P_st 16 0 (by rfl) (by rfl) (by rfl) (by rfl) (by rfl) (Over_out (by rfl) (Over_in (by rfl) (Over_in (by rfl) (Over_in (by rfl) (Over_nil (by intro vb39 l151 hb39; obtain ⟨y1, yc1, y2, yc2, Hy1, Hy2, rfl, hr1, hr2, rfl⟩ := AddV.ok hb39 hS.a1; rintro vb40 _ ⟨hvb40, rfl⟩; replace hvb40 : vb40 = .tuple _ := hvb40; subst hvb40; rintro vb41 _ ⟨hvb41, rfl⟩; replace hvb41 : vb41 = .agg _ := hvb41; subst hvb41; exact (st_newD (by rfl) (by rfl) Tryz.sizeOf29 (by rfl) (by rfl) (by first | decide | exact Nat.le_of_ble_eq_true rfl | simp)))))))) ?_
          refine P_ali [153] (fun e => e 153) (by rfl) (by rfl) (by rfl) (fun _ _ h => h 153 (List.mem_singleton.2 rfl)) (Over_out (by rfl) (Over_in (by rfl) (Over_out (by rfl) (Over_in (by rfl) (Over_in (by rfl) (Over_nil (by intro vb42 l151 hb42; obtain ⟨y1, yc1, y2, yc2, Hy1, Hy2, rfl, hr1, hr2, rfl⟩ := AddV.ok hb42 hS.a1; rintro vb43 _ ⟨hvb43, rfl⟩; replace hvb43 : vb43 = .tuple _ := hvb43; subst hvb43; rintro vb44 _ ⟨hvb44, rfl⟩; replace hvb44 : vb44 = .int .i64 _ := hvb44; subst hvb44; exact (YD0_of (y_assign (c := .int .i64 _) (by rfl)))))))))) ?_
          refine PW_end (by rfl) ?_
          refine OverAll_cons (fun w17 l17 => ?_)
          refine OverAll_cons (fun w16 l16 => ?_)
          refine OverAll_cons (fun w153 l153 => ?_)
          refine OverAll_cons (fun w152 l152 => ?_)
          refine OverAll_cons (fun w147 l147 => ?_)
          refine OverAll_cons (fun w151 l151 => ?_)
          refine OverAll_nil ?_
          rintro ⟨⟨⟨⟨⟨⟨-, h17⟩, h16⟩, h153⟩, h152⟩, h147⟩, h151⟩
          obtain ⟨y1, yc1, y2, yc2, Hy1, Hy2, rfl, hr1, hr2, rfl⟩ := AddV.ok h151 hS.a1
          obtain ⟨h147, rfl⟩ := h147
          replace h147 : w147 = .tuple _ := h147
          subst h147
          obtain ⟨h152, rfl⟩ := h152
          replace h152 : w152 = .agg _ := h152
          subst h152
          obtain ⟨h153, rfl⟩ := h153
          replace h153 : w153 = .int .i64 _ := h153
          subst h153
          obtain ⟨h17, rfl⟩ := h17
          replace h17 : w17 = .int .i64 _ := h17
          subst h17
          obtain ⟨b38, rfl, rfl⟩ := h16
          refine Then_normal ?_
          refine W_seq ?_
          refine W_seq ?_
          refine W_perm List.perm_append_comm ?_
          refine W_region_lit (fun ds => ?_)
          refine WS_det hF (by rfl) (y_move (c := .int .i64 _) (by rfl)) ?_
          refine WS_det hF (by rfl) (YD_no (y_neq (by rfl) (by rfl)) dect) ?_
          refine WS_nil ?_
          refine Then_normal ?_
          refine W_cond (by rfl) (fun c15 => ?_) (fun c15 => ?_)
          · cases c15
          ·
            try simp only [Bool.not_eq_true', Bool.not_eq_false', decide_eq_true_eq, decide_eq_false_iff_not, ne_eq, Classical.not_not, Int.not_lt, Int.not_le] at c15
            refine W_skip ?_
            refine Then_normal ?_
            refine W_seq ?_
            refine W_region_lit (fun ds => ?_)
            refine WS_det hF (by rfl) (y_move (c := .int .u8 _) (by rfl)) ?_
            refine WS_det hF (by rfl) (y_conv_iu (by rfl) Tryz.runUnderlying5 Tryz.runUnderlying3 (by first | exact IntWalk.i64_in _ (by omega) | exact IntWalk.u64_in _ (by omega))) ?_
            refine WS_det hF (by rfl) (y_move (c := .int .i64 _) (by rfl)) ?_
            refine WS_det hF (by rfl) (y_add (by rfl) (by rfl) (by unfold I64; omega)) ?_
            refine WS_det hF (by rfl) (YD_eq (y_rem (by rfl) (by rfl) (by omega) (by omega)) (congrArg (Value.int _) hvv)) ?_
            refine WS_det hF (by rfl) (y_assign (c := .int .i64 _) (by rfl)) ?_
            refine WS_nil ?_
            refine Then_normal ?_
            refine W_seq ?_
            refine W_region_lit (fun ds => ?_)
            refine WS_det hF (by rfl) (y_loadN (by rfl) Tryz.isAgg29 Tryz.sizeOf29 (Mem.own (us := [.slice _ _ _, .int .i64 _, .int .i64 _, .int .i64 _, .int .i64 _, .slice _ _ _]) 4 (by rfl) (by rfl)) (by rfl)) ?_
            refine WS_det hF (by rfl) (y_move (c := .int .i64 _) (by rfl)) ?_
            refine WS_det hF (by rfl) (y_callL (by rfl) (by rfl) Tryz.call12 (fun w hw => Ct_eq (holds_any l a cap ae cape (j : Int) w hn (hx.st w hw) (he.st w hw)) (Lg.holdsV_at h0 hj))) ?_
            refine WS_det hF (by rfl) (y_move (c := .tuple _) (by rfl)) ?_
            refine WS_det hF (by rfl) (y_extract (c := .agg _) (by rfl) (by rfl)) ?_
            refine WS_det hF (by rfl) (y_extract (c := .int .i64 _) (by rfl) (by rfl)) ?_
            refine WS_new hF (by rfl) (y_alloc Tryz.zeroValue26 (by rfl)) (fun b46 => ?_)
            refine WS_store hF (us := [.int .i64 _, .int .i64 _]) (i := 0) (by rfl) (by rfl) Tryz.sizeOf26 (by rfl) (by rfl) (by rfl) (by first | decide | exact Nat.le_of_ble_eq_true rfl | simp) ?_
            refine WS_det hF (by rfl) (y_assign (c := .int .i64 _) (by rfl)) ?_
            refine WS_nil ?_
            refine Then_normal ?_
            refine W_seq ?_
            refine W_region_lit (fun ds => ?_)
            refine WS_det hF (by rfl) (y_loadN (by rfl) Tryz.isAgg29 Tryz.sizeOf29 (Mem.own (us := [.slice _ _ _, .int .i64 _, .int .i64 _, .int .i64 _, .int .i64 _, .slice _ _ _]) 1 (by rfl) (by rfl)) (by rfl)) ?_
            refine WS_det hF (by rfl) (y_move (c := .int .i64 _) (by rfl)) ?_
            refine WS_det hF (by rfl) (y_callL (by rfl) (by rfl) Tryz.call12 (fun w hw => Ct_eq (holds_any (l.put (drE d 0)) y1 yc1 y2 yc2 (j : Int) w hn (NewRow.ints hr1 rfl sbA w hw) (NewRow.rws en_len hr2 rfl sbA w hw)) hy1)) ?_
            refine WS_det hF (by rfl) (y_move (c := .tuple _) (by rfl)) ?_
            refine WS_det hF (by rfl) (y_extract (c := .agg _) (by rfl) (by rfl)) ?_
            refine WS_det hF (by rfl) (y_extract (c := .int .i64 _) (by rfl) (by rfl)) ?_
            refine WS_new hF (by rfl) (y_alloc Tryz.zeroValue26 (by rfl)) (fun b47 => ?_)
            refine WS_store hF (us := [.int .i64 _, .int .i64 _]) (i := 0) (by rfl) (by rfl) Tryz.sizeOf26 (by rfl) (by rfl) (by rfl) (by first | decide | exact Nat.le_of_ble_eq_true rfl | simp) ?_
            refine WS_det hF (by rfl) (y_assign (c := .int .i64 _) (by rfl)) ?_
            refine WS_nil ?_
            refine Then_normal ?_
            refine W_seq ?_
            refine W_keep [(2, .pointer _), (4, .bool _), (5, .bool _), (6, .int .i64 _), (7, .pointer _), (9, .pointer _), (16, .pointer _), (19, .pointer _), (20, .int .i64 _), (21, .pointer _), (22, .int .i64 _)] (by repeat (first | exact trivial | refine ⟨by rfl, ?_⟩)) (fun e => ?_)
            refine W_region_lit (fun ds => ?_)
            refine WS_det hF (by rfl) (y_loadN (by rfl) Tryz.isAgg29 Tryz.sizeOf29 (Mem.own (us := [.slice _ _ _, .int .i64 _, .int .i64 _, .int .i64 _, .int .i64 _, .slice _ _ _]) 2 (by rfl) (by rfl)) (by rfl)) ?_
            refine WS_det hF (by rfl) (y_move (c := .int .i64 _) (by rfl)) ?_
            refine WS_det hF (by rfl) (y_add (by rfl) (by rfl) (by unfold I64; omega)) ?_
            refine WS_det hF (by rfl) (y_callL (by rfl) (by rfl) Tryz.call12 (fun w hw => Ct_eq (holds_any (l.put (drE d 0)) y1 yc1 y2 yc2 ((l.es.length : Int) + 1) w hn (NewRow.ints hr1 rfl sbA w hw) (NewRow.rws en_len hr2 rfl sbA w hw)) hy2)) ?_
            refine WS_det hF (by rfl) (y_move (c := .tuple _) (by rfl)) ?_
            refine WS_det hF (by rfl) (y_extract (c := .agg _) (by rfl) (by rfl)) ?_
            refine WS_det hF (by rfl) (y_extract (c := .int .i64 _) (by rfl) (by rfl)) ?_
            refine WS_new hF (by rfl) (y_alloc Tryz.zeroValue26 (by rfl)) (fun b48 => ?_)
            refine WS_store hF (us := [.int .i64 _, .int .i64 _]) (i := 0) (by rfl) (by rfl) Tryz.sizeOf26 (by rfl) (by rfl) (by rfl) (by first | decide | exact Nat.le_of_ble_eq_true rfl | simp) ?_
            refine WS_det hF (by rfl) (y_assign (c := .int .i64 _) (by rfl)) ?_
            refine WS_nil ?_
            refine Then_normal ?_
            refine W_seq ?_
            refine W_region_lit (fun ds => ?_)
            refine WS_det hF (by rfl) (y_loadN (by rfl) Tryz.isAgg29 Tryz.sizeOf29 (Mem.own (us := [.slice _ _ _, .int .i64 _, .int .i64 _, .int .i64 _, .int .i64 _, .slice _ _ _]) 7 (by rfl) (by rfl)) (by rfl)) ?_
            refine WS_det hF (by rfl) (y_callL (by rfl) (by rfl) Tryz.call21 (fun w hw => Ct_eq (leaked_any l a cap ae cape w hn (hx.st w hw) (he.st w hw)) (Lg.leakedV_ok h0))) ?_
            refine WS_det hF (by rfl) (y_move (c := .tuple _) (by rfl)) ?_
            refine WS_det hF (by rfl) (y_extract (c := .agg _) (by rfl) (by rfl)) ?_
            refine WS_det hF (by rfl) (y_extract (c := .int .i64 _) (by rfl) (by rfl)) ?_
            refine WS_new hF (by rfl) (y_alloc Tryz.zeroValue26 (by rfl)) (fun b49 => ?_)
            refine WS_store hF (us := [.int .i64 _, .int .i64 _]) (i := 0) (by rfl) (by rfl) Tryz.sizeOf26 (by rfl) (by rfl) (by rfl) (by first | decide | exact Nat.le_of_ble_eq_true rfl | simp) ?_
            refine WS_det hF (by rfl) (y_assign (c := .int .i64 _) (by rfl)) ?_
            refine WS_nil ?_
            refine Then_normal ?_
            refine W_seq ?_
            refine W_region_lit (fun ds => ?_)
            refine WS_det hF (by rfl) (y_loadN (by rfl) Tryz.isAgg29 Tryz.sizeOf29 (Mem.own (us := [.slice _ _ _, .int .i64 _, .int .i64 _, .int .i64 _, .int .i64 _, .slice _ _ _]) 4 (by rfl) (by rfl)) (by rfl)) ?_
            refine WS_det hF (by rfl) (y_callL (by rfl) (by rfl) Tryz.call21 (fun w hw => Ct_eq (leaked_any (l.put (drE d 0)) y1 yc1 y2 yc2 w hn (NewRow.ints hr1 rfl sbA w hw) (NewRow.rws en_len hr2 rfl sbA w hw)) hy3)) ?_
            refine WS_det hF (by rfl) (y_move (c := .tuple _) (by rfl)) ?_
            refine WS_det hF (by rfl) (y_extract (c := .agg _) (by rfl) (by rfl)) ?_
            refine WS_det hF (by rfl) (y_extract (c := .int .i64 _) (by rfl) (by rfl)) ?_
            refine WS_new hF (by rfl) (y_alloc Tryz.zeroValue26 (by rfl)) (fun b50 => ?_)
            refine WS_store hF (us := [.int .i64 _, .int .i64 _]) (i := 0) (by rfl) (by rfl) Tryz.sizeOf26 (by rfl) (by rfl) (by rfl) (by first | decide | exact Nat.le_of_ble_eq_true rfl | simp) ?_
            refine WS_det hF (by rfl) (y_assign (c := .int .i64 _) (by rfl)) ?_
            refine WS_nil ?_
            refine Then_normal ?_
            refine W_seq ?_
            refine W_region_lit (fun ds => ?_)
            refine WS_det hF (by rfl) (y_loadN (by rfl) Tryz.isAgg29 Tryz.sizeOf29 (Mem.own (us := [.slice _ _ _, .int .i64 _, .int .i64 _, .int .i64 _, .int .i64 _, .slice _ _ _]) 5 (by rfl) (by rfl)) (by rfl)) ?_
            refine WS_det hF (by rfl) (y_callL (by rfl) (by rfl) Tryz.call28 (fun w hw => Ct_eq (ready_any (l.put (drE d 0)) y1 yc1 y2 yc2 w hn (NewRow.ints hr1 rfl sbA w hw) (NewRow.rws en_len hr2 rfl sbA w hw)) hy4)) ?_
            refine WS_det hF (by rfl) (y_move (c := .tuple _) (by rfl)) ?_
            refine WS_det hF (by rfl) (y_extract (c := .agg _) (by rfl) (by rfl)) ?_
            refine WS_det hF (by rfl) (y_extract (c := .int .i64 _) (by rfl) (by rfl)) ?_
            refine WS_new hF (by rfl) (y_alloc Tryz.zeroValue26 (by rfl)) (fun b51 => ?_)
            refine WS_store hF (us := [.int .i64 _, .int .i64 _]) (i := 0) (by rfl) (by rfl) Tryz.sizeOf26 (by rfl) (by rfl) (by rfl) (by first | decide | exact Nat.le_of_ble_eq_true rfl | simp) ?_
            refine WS_det hF (by rfl) (y_assign (c := .int .i64 _) (by rfl)) ?_
            refine WS_nil ?_
            refine Then_normal ?_
            refine W_seq ?_
            refine W_keep [(4, .bool _), (5, .bool _), (6, .int .i64 _), (7, .pointer _), (9, .pointer _), (16, .pointer _), (19, .pointer _), (20, .int .i64 _), (21, .pointer _), (22, .int .i64 _), (23, .pointer _), (24, .int .i64 _), (25, .pointer _), (26, .int .i64 _), (27, .pointer _), (28, .int .i64 _), (29, .pointer _), (30, .int .i64 _)] (by repeat (first | exact trivial | refine ⟨by rfl, ?_⟩)) (fun e => ?_)
            refine W_region_lit (fun ds => ?_)
            refine WS_det hF (by rfl) (y_loadN (by rfl) Tryz.isAgg29 Tryz.sizeOf29 (Mem.own (us := [.slice _ _ _, .int .i64 _, .int .i64 _, .int .i64 _, .int .i64 _, .slice _ _ _]) 6 (by rfl) (by rfl)) (by rfl)) ?_
            refine WS_det hF (by rfl) (y_move (c := .int .i64 _) (by rfl)) ?_
            refine WS_det hF (by rfl) (y_add (by rfl) (by rfl) (by unfold I64; omega)) ?_
            refine WS_det hF (by rfl) (y_callL (by rfl) (by rfl) Tryz.call16 (fun w hw => Ct_eq (moved_any (l.put (drE d 0)) y1 yc1 y2 yc2 ((l.es.length : Int) + 1) w hn (NewRow.ints hr1 rfl sbA w hw) (NewRow.rws en_len hr2 rfl sbA w hw)) hy5)) ?_
            refine WS_det hF (by rfl) (y_move (c := .tuple _) (by rfl)) ?_
            refine WS_det hF (by rfl) (y_extract (c := .agg _) (by rfl) (by rfl)) ?_
            refine WS_det hF (by rfl) (y_extract (c := .int .i64 _) (by rfl) (by rfl)) ?_
            refine WS_new hF (by rfl) (y_alloc Tryz.zeroValue26 (by rfl)) (fun b52 => ?_)
            refine WS_store hF (us := [.int .i64 _, .int .i64 _]) (i := 0) (by rfl) (by rfl) Tryz.sizeOf26 (by rfl) (by rfl) (by rfl) (by first | decide | exact Nat.le_of_ble_eq_true rfl | simp) ?_
            refine WS_det hF (by rfl) (y_assign (c := .int .i64 _) (by rfl)) ?_
            refine WS_nil ?_
            refine Then_normal ?_
            refine W_seq ?_
            refine W_region_lit (fun ds => ?_)
            refine WS_det hF (by rfl) (y_move (c := .bool _) (by rfl)) ?_
            refine WS_det hF (by rfl) (y_move (c := .bool _) (by rfl)) ?_
            refine WS_det hF (by rfl) (y_move (c := .int .i64 _) (by rfl)) ?_
            refine WS_det hF (by rfl) (YD_yes (y_eql (by rfl) (by rfl)) dect) ?_
            refine WS_det hF (by rfl) (by first | exact y_pick_t (c := .bool _) (by rfl) (by rfl) | exact y_pick_f (c := .bool _) (by rfl) (by rfl)) ?_
            refine WS_det hF (by rfl) (y_move (c := .bool _) (by rfl)) ?_
            refine WS_det hF (by rfl) (y_move (c := .int .i64 _) (by rfl)) ?_
            refine WS_det hF (by rfl) (YD_yes (y_eql (by rfl) (by rfl)) dect) ?_
            refine WS_det hF (by rfl) (by first | exact y_pick_t (c := .bool _) (by rfl) (by rfl) | exact y_pick_f (c := .bool _) (by rfl) (by rfl)) ?_
            refine WS_det hF (by rfl) (y_move (c := .bool _) (by rfl)) ?_
            refine WS_det hF (by rfl) (y_loadN (by rfl) Tryz.isAgg26 Tryz.sizeOf26 (Mem.own (us := [.int .i64 _, .int .i64 _]) 6 (by rfl) (by rfl)) (by rfl)) ?_
            refine WS_det hF (by rfl) (y_loadN (by rfl) Tryz.isAgg26 Tryz.sizeOf26 (Mem.own (us := [.int .i64 _, .int .i64 _]) 5 (by rfl) (by rfl)) (by rfl)) ?_
            refine WS_det hF (by rfl) (YD_yes (y_eqlA (by rfl) (by rfl) eqA26) (by
                                        simp [ieq_self])) ?_
            refine WS_det hF (by rfl) (by first | exact y_pick_t (c := .bool _) (by rfl) (by rfl) | exact y_pick_f (c := .bool _) (by rfl) (by rfl)) ?_
            refine WS_det hF (by rfl) (y_move (c := .bool _) (by rfl)) ?_
            refine WS_det hF (by rfl) (y_move (c := .int .i64 _) (by rfl)) ?_
            refine WS_det hF (by rfl) (YD_yes (y_eql (by rfl) (by rfl)) dect) ?_
            refine WS_det hF (by rfl) (by first | exact y_pick_t (c := .bool _) (by rfl) (by rfl) | exact y_pick_f (c := .bool _) (by rfl) (by rfl)) ?_
            refine WS_det hF (by rfl) (y_move (c := .bool _) (by rfl)) ?_
            refine WS_det hF (by rfl) (y_loadN (by rfl) Tryz.isAgg26 Tryz.sizeOf26 (Mem.own (us := [.int .i64 _, .int .i64 _]) 4 (by rfl) (by rfl)) (by rfl)) ?_
            refine WS_det hF (by rfl) (y_loadN (by rfl) Tryz.isAgg26 Tryz.sizeOf26 (Mem.own (us := [.int .i64 _, .int .i64 _]) 10 (by rfl) (by rfl)) (by rfl)) ?_
            refine WS_det hF (by rfl) (YD_yes (y_eqlA (by rfl) (by rfl) eqA26) (by
                                        simp [ieq_self])) ?_
            refine WS_det hF (by rfl) (by first | exact y_pick_t (c := .bool _) (by rfl) (by rfl) | exact y_pick_f (c := .bool _) (by rfl) (by rfl)) ?_
            refine WS_det hF (by rfl) (y_move (c := .bool _) (by rfl)) ?_
            refine WS_det hF (by rfl) (y_move (c := .int .i64 _) (by rfl)) ?_
            refine WS_det hF (by rfl) (YD_yes (y_eql (by rfl) (by rfl)) dect) ?_
            refine WS_det hF (by rfl) (by first | exact y_pick_t (c := .bool _) (by rfl) (by rfl) | exact y_pick_f (c := .bool _) (by rfl) (by rfl)) ?_
            refine WS_det hF (by rfl) (y_move (c := .bool _) (by rfl)) ?_
            refine WS_det hF (by rfl) (y_move (c := .int .i64 _) (by rfl)) ?_
            refine WS_det hF (by rfl) (YD_yes (y_eql (by rfl) (by rfl)) dect) ?_
            refine WS_det hF (by rfl) (by first | exact y_pick_t (c := .bool _) (by rfl) (by rfl) | exact y_pick_f (c := .bool _) (by rfl) (by rfl)) ?_
            refine WS_det hF (by rfl) (y_move (c := .bool _) (by rfl)) ?_
            refine WS_det hF (by rfl) (y_loadN (by rfl) Tryz.isAgg26 Tryz.sizeOf26 (Mem.own (us := [.int .i64 _, .int .i64 _]) 3 (by rfl) (by rfl)) (by rfl)) ?_
            refine WS_det hF (by rfl) (y_loadN (by rfl) Tryz.isAgg26 Tryz.sizeOf26 (Mem.own (us := [.int .i64 _, .int .i64 _]) 2 (by rfl) (by rfl)) (by rfl)) ?_
            refine WS_det hF (by rfl) (YD_yes (y_eqlA (by rfl) (by rfl) eqA26) (by
                                        simp [ieq_self])) ?_
            refine WS_det hF (by rfl) (by first | exact y_pick_t (c := .bool _) (by rfl) (by rfl) | exact y_pick_f (c := .bool _) (by rfl) (by rfl)) ?_
            refine WS_det hF (by rfl) (y_move (c := .bool _) (by rfl)) ?_
            refine WS_det hF (by rfl) (y_move (c := .int .i64 _) (by rfl)) ?_
            refine WS_det hF (by rfl) (YD_yes (y_eql (by rfl) (by rfl)) dect) ?_
            refine WS_det hF (by rfl) (by first | exact y_pick_t (c := .bool _) (by rfl) (by rfl) | exact y_pick_f (c := .bool _) (by rfl) (by rfl)) ?_
            refine WS_det hF (by rfl) (y_move (c := .bool _) (by rfl)) ?_
            refine WS_det hF (by rfl) (y_loadN (by rfl) Tryz.isAgg26 Tryz.sizeOf26 (Mem.own (us := [.int .i64 _, .int .i64 _]) 1 (by rfl) (by rfl)) (by rfl)) ?_
            refine WS_det hF (by rfl) (y_loadN (by rfl) Tryz.isAgg26 Tryz.sizeOf26 (Mem.own (us := [.int .i64 _, .int .i64 _]) 9 (by rfl) (by rfl)) (by rfl)) ?_
            refine WS_det hF (by rfl) (YD_yes (y_eqlA (by rfl) (by rfl) eqA26) (by
                                        rw [Bool.and_eq_true]
                                        exact ⟨ieq_self, ieq_self⟩)) ?_
            refine WS_det hF (by rfl) (by first | exact y_pick_t (c := .bool _) (by rfl) (by rfl) | exact y_pick_f (c := .bool _) (by rfl) (by rfl)) ?_
            refine WS_det hF (by rfl) (y_move (c := .bool _) (by rfl)) ?_
            refine WS_det hF (by rfl) (y_move (c := .int .i64 _) (by rfl)) ?_
            refine WS_det hF (by rfl) (YD_yes (y_eql (by rfl) (by rfl)) dect) ?_
            refine WS_det hF (by rfl) (by first | exact y_pick_t (c := .bool _) (by rfl) (by rfl) | exact y_pick_f (c := .bool _) (by rfl) (by rfl)) ?_
            refine WS_det hF (by rfl) (y_move (c := .bool _) (by rfl)) ?_
            refine WS_det hF (by rfl) (y_loadN (by rfl) Tryz.isAgg26 Tryz.sizeOf26 (Mem.own (us := [.int .i64 _, .int .i64 _]) 0 (by rfl) (by rfl)) (by rfl)) ?_
            refine WS_det hF (by rfl) (y_buildL bd26 (by rfl)) ?_
            refine WS_det hF (by rfl) (YD_yes (y_eqlA (by rfl) (by rfl) eqA26) (by
                                        simp [ieq_self])) ?_
            refine WS_det hF (by rfl) (by first | exact y_pick_t (c := .bool _) (by rfl) (by rfl) | exact y_pick_f (c := .bool _) (by rfl) (by rfl)) ?_
            refine WS_det hF (by rfl) (y_assign (c := .bool _) (by rfl)) ?_
            refine WS_nil ?_
            refine Then_normal ?_
            refine W_ret ?_
            refine Fin_ret [.bool _] [] Tryz.results8 ⟨by rfl, trivial⟩ HSub.nil ?_
            rfl
        ·
          intro J14
          refine W_seq ?_
          refine W_seq ?_
          refine W_region_lit (fun ds => ?_)
          refine WS_det hF (by rfl) (y_move (c := .int .i64 _) (by rfl)) ?_
          refine WS_det hF (by rfl) (y_gtr (by rfl) (by rfl)) ?_
          refine WS_nil ?_
          refine Then_normal ?_
          refine W_cond (by rfl) (fun c12 => ?_) (fun c12 => ?_)
          ·
            try simp only [Bool.not_eq_true', Bool.not_eq_false', decide_eq_true_eq, decide_eq_false_iff_not, ne_eq, Classical.not_not, Int.not_lt, Int.not_le] at c12
            obtain ⟨b, o, rfl, hc⟩ := he.cell (l.es.length - 1) (by omega)
            change At w b _ (l.e (l.es.length - 1)).cells at hc
            refine W_region_lit (fun ds => ?_)
            refine WS_det hF (by rfl) (y_fieldAddr (by rfl) fa29_2) ?_
            refine WS_det hF (by rfl) (y_load1 (by rfl) Tryz.isAgg27 (Mem.own1 3 (by rfl) (by rfl))) ?_
            refine WS_det hF (by rfl) (y_move (c := .int .i64 _) (by rfl)) ?_
            refine WS_det hF (by rfl) (y_sub (by rfl) (by rfl) (by unfold I64; omega)) ?_
            refine WS_det hF (by rfl) (y_index (k := l.es.length - 1) (by rfl) (by rfl) (by first | rfl | omega) (by first | decide | omega) Tryz.runUnderlying27 Tryz.sizeOf38) ?_
            refine WS_det hF (by rfl) (y_fieldAddr (by rfl) fa38_0) ?_
            refine WS_det hF (by rfl) (y_load1 (by rfl) Tryz.isAgg3 (by first | exact Mem.old1 (by assumption) | exact Mem.oldAt1 (by assumption) (by rfl) | exact Mem.old (by assumption) | exact Mem.oldAtL1 (by assumption) (by rfl) (by rfl))) ?_
            refine WS_det hF (by rfl) (y_assign (c := .int .i64 _) (by rfl)) ?_
            refine WS_nil ?_
            refine Then_normal ?_
            exact J14 ((l.e (l.es.length - 1)).day) _ _  (by rw [hday, if_neg (by omega)]) slt slt (HSub.sub sbA)
          ·
            try simp only [Bool.not_eq_true', Bool.not_eq_false', decide_eq_true_eq, decide_eq_false_iff_not, ne_eq, Classical.not_not, Int.not_lt, Int.not_le] at c12
            refine W_skip ?_
            refine Then_normal ?_
            exact J14 (0) _ _  (by rw [hday, if_pos (by omega)]) slt slt (HSub.sub sbA)
theorem tankStays_any (l : Lg) (a : Option Addr) (cap : Nat) (ae : Option Addr) (cape : Nat) (p : Int) (w : World) (hx : Ints w a l.tk.n cap l.tk.pints) (he : Ens w ae l.es.length cape l.es) (hp0 : 0 ≤ p) (hp1 : p ≤ 255) :
    Ct Tryz.prog 8 #[.agg #[.slice a l.tk.n cap, .int .i64 l.tk.leak, .int .i64 l.tk.foot, .int .i64 l.start.lo, .int .i64 l.start.hi, .slice ae l.es.length cape], .int .u8 p] w fun v _ => v = .bool true := by
  cases hr : l.trB with
  | false => exact tankStays_no l a cap ae cape p w hx he hr
  | true =>
    obtain ⟨h1, h2, h3⟩ := Lg.rdy_iff.1 (Lg.trB_iff.1 hr).1
    by_cases h12 : l.es.length = 12
    · exact tankStays_full l a cap ae cape p w (by omega) (by omega) hx he hr h12
    · exact tankStays_ok l a cap ae cape p w (by omega) (by omega) hp0 hp1 hx he hr (by have := (l.ok_of h3).n12; omega)
end Go.Proofs.YthkimgfgpphgnaaGreat.T

namespace Go.Proofs.YthkimgfgpphgnaaGreat
open Go.RowKit Go.Proofs Go.Eng Go.ChangeShapes Go.WideShapes Go.ChangeAt Go.Joins T
set_option maxRecDepth 100000
set_option linter.unusedVariables false

theorem walkTankStays (v0 v1 : Value) (W : World) (h0 : ∃ (l0 : Lg) (a0 : Option Addr) (cap0 : Nat) (ae0 : Option Addr) (cape0 : Nat), v0 = .agg #[.slice a0 l0.tk.n cap0, .int .i64 l0.tk.leak, .int .i64 l0.tk.foot, .int .i64 l0.start.lo, .int .i64 l0.start.hi, .slice ae0 l0.es.length cape0] ∧ Ints W a0 l0.tk.n cap0 l0.tk.pints ∧ Ens W ae0 l0.es.length cape0 l0.es) (h1 : ∃ n1 : Int, v1 = .int .u8 n1 ∧ 0 ≤ n1 ∧ n1 ≤ 255) :
    Calls Tryz.prog 8 #[v0, v1] W fun e W' => e = .returned (.bool true) ∧ Below W.heap.size W W' := by
  obtain ⟨l0, a0, cap0, ae0, cape0, rfl, hx0, he0⟩ := h0
  obtain ⟨n1, rfl, hn1, hm1⟩ := h1
  refine Calls.mono (tankStays_any l0 a0 cap0 ae0 cape0 n1 W hx0 he0 hn1 hm1) ?_
  rintro e W' ⟨v, rfl, Hn, hb, _, rfl⟩
  exact ⟨rfl, hb⟩

theorem liftTankStays (os : Os) (started : os.Started) (H : Type) (enc : TypeId × Value → H) :
    ReturnsInHanded {} Tryz.checked os 8 .any (Rows.tankStaysSpec.pre6 enc Tryz.prog Tryz.f8 Rows.tankStaysRow.domain false) (Rows.tankStaysSpec.post enc Tryz.prog Tryz.f8 false true false false) := by
  refine returnsInHanded_of_change (C := Tryz.checked) own started (by kernel_rfl) Tryz.func8
    (ChangeSpec.witness6 (enc := enc) (C := Tryz.checked) false ⟨#[], #[.agg #[.slice none 0 0, .int .i64 0, .int .i64 0, .int .i64 0, .int .i64 0, .slice none 0 0], .int .u8 0], []⟩ 8 (by kernel_rfl) (by kernel_rfl) (by kernel_rfl) (by kernel_rfl)) ?_
  intro W base args ds gs before hval0 hW hcnd _
  have hval : ∀ (j : Nat) t v, Tryz.f8.params[j]? = some t → args[j]? = some v → Value.okWide Tryz.prog W .any base t v := hval0
  have hW' := hW
  obtain ⟨p, q, hA0, hV, rfl, hfz, hnd⟩ := hW
  have hA : DataW.TrodAll enc Tryz.prog W 0 (fun _ => true) true Tryz.f8.params.toList args.toList ds p := hA0
  rw [Tryz.params8] at hA hval
  obtain ⟨v0, vs0, d0, ds0, p0, q0, hargs, rfl, rfl, h0, r0⟩ := trodAll_cons hA
  obtain ⟨v1, vs1, d1, ds1, p1, q1, rfl, rfl, rfl, h1, r1⟩ := trodAll_cons r0
  obtain ⟨rfl, rfl, rfl⟩ := trodAll_nil r1
  obtain rfl : args = #[v0, v1] := by cases args; simp_all
  obtain ⟨rfl, rfl⟩ := trodVars_none hV
  have lt0 : ∀ x ∈ p0, x.block < W.heap.size := by obtain ⟨m, hm⟩ := h0; exact DataW.trod_lt m _ _ _ hm
  have lt1 : ∀ x ∈ p1, x.block < W.heap.size := by obtain ⟨m, hm⟩ := h1; exact DataW.trod_lt m _ _ _ hm
  have o0 : ∃ (l0 : Lg) (a0 : Option Addr) (cap0 : Nat) (ae0 : Option Addr) (cape0 : Nat), v0 = .agg #[.slice a0 l0.tk.n cap0, .int .i64 l0.tk.leak, .int .i64 l0.tk.foot, .int .i64 l0.start.lo, .int .i64 l0.start.hi, .slice ae0 l0.es.length cape0] ∧ Ints W a0 l0.tk.n cap0 l0.tk.pints ∧ Ens W ae0 l0.es.length cape0 l0.es := open_log (hval 0 _ v0 rfl rfl) h0 (fun _ => rfl)
  have o1 : ∃ n1 : Int, v1 = .int .u8 n1 ∧ 0 ≤ n1 ∧ n1 ≤ 255 := open_u8 Tryz.underlying5 (hval 1 _ v1 rfl rfl) h1
  clear hA0 hval0
  refine (walkTankStays v0 v1 W o0 o1).mono fun e W' ⟨he, bel⟩ => ?_
  subst he
  exact ⟨_, rfl, _, _, _, [], _, [], hW', trodAll_mk1 (shut_bool Tryz.underlying4 _),
    (trodAll_cons_mk (Below.trod laidOut (by kernel_rfl) (of_decide_eq_true (by kernel_rfl)) h0 bel lt0) (trodAll_cons_mk (Below.trod laidOut (by kernel_rfl) (of_decide_eq_true (by kernel_rfl)) h1 bel lt1) trodAll_mk0)), rfl, bel.frame _, fun h => by cases h⟩

theorem tankStays : Rows.TankStaysSaid :=
  OpenClaim.holds_of_wide 8 Tryz.f8 rfl rfl rfl rfl rfl rfl rfl ⟨rfl, rfl, rfl, rfl, rfl⟩ rfl rfl rfl rfl rfl (by kernel_rfl) Tryz.func8 (by kernel_rfl)
    (of_decide_eq_true (by kernel_rfl)) (by unfold Func.isWrapper; first | (rw [if_pos (by decide +kernel)]; kernel_rfl) | (rw [if_neg (by decide +kernel)]; exact ⟨rfl, rfl⟩))
    (fun os started H enc _ => liftTankStays os started H enc)
end Go.Proofs.YthkimgfgpphgnaaGreat
