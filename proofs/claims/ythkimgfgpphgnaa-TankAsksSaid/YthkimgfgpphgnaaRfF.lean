/- The law of asks, walked. -/
import Derived.Test.YthkimgfgpphgnaaRfE
namespace Go.Proofs.Ythkimgfgpphgnaa.T
open Go.RowKit Go.Proofs Go.Eng
set_option maxRecDepth 100000
set_option linter.unusedVariables false
set_option linter.unusedSimpArgs false



theorem Lg.sure_shape (l : Lg) (p : Int) : ∃ x y, l.sureV p = .tuple #[.int .u8 x, .int .i64 y] := by
  unfold Lg.sureV
  split <;> (try split) <;> (try split) <;> (try split) <;> exact ⟨_, _, rfl⟩
theorem Lg.when_shape (l : Lg) (p : Int) : ∃ x y, l.whenV p = .tuple #[.int .i64 x, .int .i64 y] := by
  unfold Lg.whenV
  split <;> (try split) <;> (try split) <;> exact ⟨_, _, rfl⟩
theorem Lg.ready_shape (l : Lg) : ∃ x y z, l.readyV = .tuple #[.agg #[.int .i64 x, .int .i64 y], .int .i64 z] := by
  unfold Lg.readyV
  split <;> exact ⟨_, _, _, rfl⟩
theorem Lg.room_shape (l : Lg) : ∃ x y z, l.roomV = .tuple #[.agg #[.int .i64 x, .int .i64 y], .int .i64 z] := by
  unfold Lg.roomV
  split <;> exact ⟨_, _, _, rfl⟩
theorem Lg.ask_shape (l : Lg) : ∃ x y z, l.askV = .tuple #[.int .i64 x, .int .i64 y, .int .i64 z] := by
  unfold Lg.askV
  split <;> (try split) <;> exact ⟨_, _, _, rfl⟩

theorem tankAsks_any (l : Lg) (a : Option Addr) (cap : Nat) (ae : Option Addr) (cape : Nat) (p : Int) (w : World) (hx : Ints w a l.tk.n cap l.tk.pints) (he : Ens w ae l.es.length cape l.es) :
    Ct Try.prog 5 #[.agg #[.slice a l.tk.n cap, .int .i64 l.tk.leak, .int .i64 l.tk.foot, .int .i64 l.start.lo, .int .i64 l.start.hi, .slice ae l.es.length cape], .int .i64 p] w fun v _ => v = .bool true := by
  obtain ⟨v1, v2, hv⟩ := l.sure_shape p
  obtain ⟨u1, u2, hu⟩ := l.when_shape p
  obtain ⟨r1, r2, r3, hr⟩ := l.ready_shape
  obtain ⟨s1, s2, s3, hs⟩ := l.room_shape
  obtain ⟨k1, k2, k3, hk⟩ := l.ask_shape
  have hF := wide_wide
  refine Ct_start (args := [_, _]) Try.func5 (by rfl) Try.ntmps5 (by rfl) ?_
  refine W_seq ?_
  refine W_region_lit (fun ds => ?_)
  refine WS_new hF (by rfl) (y_box (by rfl)) (fun b1 => ?_)
  refine WS_det hF (by rfl) (y_assign (c := .bool _) (by rfl)) ?_
  refine WS_nil ?_
  refine Then_normal ?_
  refine W_seq ?_
  refine W_seq ?_
  refine W_region_lit (fun ds => ?_)
  refine WS_det hF (by rfl) (y_loadN (by rfl) Try.isAgg46 Try.sizeOf46 (Mem.own (us := [.slice _ _ _, .int .i64 _, .int .i64 _, .int .i64 _, .int .i64 _, .slice _ _ _]) 0 (by rfl) (by rfl)) (by rfl)) ?_
  refine WS_det hF (by rfl) (y_callL (by rfl) (by rfl) Try.call22 (fun w hw => great_any l a cap ae cape w)) ?_
  refine WS_nil ?_
  refine Then_normal ?_
  refine W_cond (by rfl) (fun c1 => ?_) (fun c1 => ?_)
  ·
    try simp only [Bool.not_eq_true', Bool.not_eq_false', decide_eq_true_eq, decide_eq_false_iff_not, ne_eq, Classical.not_not, Int.not_lt, Int.not_le] at c1
    refine W_seq ?_
    refine W_region_lit (fun ds => ?_)
    refine WS_det hF (by rfl) (y_assign (c := .bool _) (by rfl)) ?_
    refine WS_nil ?_
    refine Then_normal ?_
    refine W_ret ?_
    refine Then_ret ?_
    refine Fin_ret [.bool _] [] Try.results5 ⟨by rfl, trivial⟩ HSub.nil ?_
    rfl
  ·
    try simp only [Bool.not_eq_true', Bool.not_eq_false', decide_eq_true_eq, decide_eq_false_iff_not, ne_eq, Classical.not_not, Int.not_lt, Int.not_le] at c1
    simp only [Bool.or_eq_false_iff, decide_eq_false_iff_not] at c1
    have hn : l.tk.n ≤ 1000000 := by omega
    have hnes : l.es.length ≤ 1000000 := by omega
    refine W_skip ?_
    refine Then_normal ?_
    refine W_seq ?_
    refine W_region_lit (fun ds => ?_)
    refine WS_det hF (by rfl) (y_loadN (by rfl) Try.isAgg46 Try.sizeOf46 (Mem.own (us := [.slice _ _ _, .int .i64 _, .int .i64 _, .int .i64 _, .int .i64 _, .slice _ _ _]) 0 (by rfl) (by rfl)) (by rfl)) ?_
    refine WS_gen hF (by rfl) (y_callL (by rfl) (by rfl) Try.call23 (fun w hw => twin_any l a cap ae cape w hnes hn (hx.st w hw) (he.st w hw))) ?_
    rintro _ _ ⟨a', cap', ae', cape', H1, H2, rfl, hr1, hr2, rfl⟩
    refine WS_back ?_
    refine WS_new hF (by rfl) (y_alloc Try.zeroValue46 (by rfl)) (fun b2 => ?_)
    refine WS_store hF (i := 0) (by rfl) (by rfl) Try.sizeOf46 (by rfl) (by rfl) (by rfl) (by first | decide | exact Nat.le_of_ble_eq_true rfl | simp) ?_
    refine WS_nil ?_
    refine Then_normal ?_
    refine W_seq ?_
    refine W_region_lit (fun ds => ?_)
    refine WS_det hF (by rfl) (y_loadN (by rfl) Try.isAgg46 Try.sizeOf46 (Mem.own (us := [.slice _ _ _, .int .i64 _, .int .i64 _, .int .i64 _, .int .i64 _, .slice _ _ _]) 0 (by rfl) (by rfl)) (by rfl)) ?_
    refine WS_det hF (by rfl) (y_move (c := .int .i64 _) (by rfl)) ?_
    refine WS_det hF (by rfl) (y_callL (by rfl) (by rfl) Try.call31 (fun w hw => Ct_eq (sure_any l a' cap' ae' cape' p w hn (NewRow.ints hr1 hx.len (by repeat (first | exact List.Sublist.refl _ | exact List.sublist_append_left _ _ | exact List.nil_sublist _ | apply List.Sublist.cons_cons | apply List.Sublist.cons | refine List.Sublist.trans ?_ (List.sublist_append_right _ _))) w hw) (NewRow.rws en_len hr2 he.len (by repeat (first | exact List.Sublist.refl _ | exact List.sublist_append_left _ _ | exact List.nil_sublist _ | apply List.Sublist.cons_cons | apply List.Sublist.cons | refine List.Sublist.trans ?_ (List.sublist_append_right _ _))) w hw)) hv)) ?_
    refine WS_det hF (by rfl) (y_move (c := .tuple _) (by rfl)) ?_
    refine WS_det hF (by rfl) (y_extract (c := .int .u8 _) (by rfl) (by rfl)) ?_
    refine WS_det hF (by rfl) (y_extract (c := .int .i64 _) (by rfl) (by rfl)) ?_
    refine WS_det hF (by rfl) (y_assign (c := .int .u8 _) (by rfl)) ?_
    refine WS_det hF (by rfl) (y_assign (c := .int .i64 _) (by rfl)) ?_
    refine WS_nil ?_
    refine Then_normal ?_
    refine W_seq ?_
    refine W_region_lit (fun ds => ?_)
    refine WS_det hF (by rfl) (y_loadN (by rfl) Try.isAgg46 Try.sizeOf46 (Mem.own (us := [.slice _ _ _, .int .i64 _, .int .i64 _, .int .i64 _, .int .i64 _, .slice _ _ _]) 1 (by rfl) (by rfl)) (by rfl)) ?_
    refine WS_det hF (by rfl) (y_move (c := .int .i64 _) (by rfl)) ?_
    refine WS_det hF (by rfl) (y_callL (by rfl) (by rfl) Try.call32 (fun w hw => Ct_eq (rsure_any l a cap ae cape p w hn (hx.st w hw) (he.st w hw)) hv)) ?_
    refine WS_det hF (by rfl) (y_move (c := .tuple _) (by rfl)) ?_
    refine WS_det hF (by rfl) (y_extract (c := .int .u8 _) (by rfl) (by rfl)) ?_
    refine WS_det hF (by rfl) (y_extract (c := .int .i64 _) (by rfl) (by rfl)) ?_
    refine WS_det hF (by rfl) (y_assign (c := .int .u8 _) (by rfl)) ?_
    refine WS_det hF (by rfl) (y_assign (c := .int .i64 _) (by rfl)) ?_
    refine WS_nil ?_
    refine Then_normal ?_
    refine W_seq ?_
    refine W_region_lit (fun ds => ?_)
    refine WS_det hF (by rfl) (y_loadN (by rfl) Try.isAgg46 Try.sizeOf46 (Mem.own (us := [.slice _ _ _, .int .i64 _, .int .i64 _, .int .i64 _, .int .i64 _, .slice _ _ _]) 0 (by rfl) (by rfl)) (by rfl)) ?_
    refine WS_det hF (by rfl) (y_move (c := .int .i64 _) (by rfl)) ?_
    refine WS_det hF (by rfl) (y_callL (by rfl) (by rfl) Try.call33 (fun w hw => Ct_eq (when_any l a' cap' ae' cape' p w hn (NewRow.ints hr1 hx.len (by repeat (first | exact List.Sublist.refl _ | exact List.sublist_append_left _ _ | exact List.nil_sublist _ | apply List.Sublist.cons_cons | apply List.Sublist.cons | refine List.Sublist.trans ?_ (List.sublist_append_right _ _))) w hw) (NewRow.rws en_len hr2 he.len (by repeat (first | exact List.Sublist.refl _ | exact List.sublist_append_left _ _ | exact List.nil_sublist _ | apply List.Sublist.cons_cons | apply List.Sublist.cons | refine List.Sublist.trans ?_ (List.sublist_append_right _ _))) w hw)) hu)) ?_
    refine WS_det hF (by rfl) (y_move (c := .tuple _) (by rfl)) ?_
    refine WS_det hF (by rfl) (y_extract (c := .int .i64 _) (by rfl) (by rfl)) ?_
    refine WS_det hF (by rfl) (y_extract (c := .int .i64 _) (by rfl) (by rfl)) ?_
    refine WS_det hF (by rfl) (y_assign (c := .int .i64 _) (by rfl)) ?_
    refine WS_det hF (by rfl) (y_assign (c := .int .i64 _) (by rfl)) ?_
    refine WS_nil ?_
    refine Then_normal ?_
    refine W_seq ?_
    refine W_region_lit (fun ds => ?_)
    refine WS_det hF (by rfl) (y_loadN (by rfl) Try.isAgg46 Try.sizeOf46 (Mem.own (us := [.slice _ _ _, .int .i64 _, .int .i64 _, .int .i64 _, .int .i64 _, .slice _ _ _]) 1 (by rfl) (by rfl)) (by rfl)) ?_
    refine WS_det hF (by rfl) (y_move (c := .int .i64 _) (by rfl)) ?_
    refine WS_det hF (by rfl) (y_callL (by rfl) (by rfl) Try.call34 (fun w hw => Ct_eq (rwhen_any l a cap ae cape p w hn (hx.st w hw) (he.st w hw)) hu)) ?_
    refine WS_det hF (by rfl) (y_move (c := .tuple _) (by rfl)) ?_
    refine WS_det hF (by rfl) (y_extract (c := .int .i64 _) (by rfl) (by rfl)) ?_
    refine WS_det hF (by rfl) (y_extract (c := .int .i64 _) (by rfl) (by rfl)) ?_
    refine WS_det hF (by rfl) (y_assign (c := .int .i64 _) (by rfl)) ?_
    refine WS_det hF (by rfl) (y_assign (c := .int .i64 _) (by rfl)) ?_
    refine WS_nil ?_
    refine Then_normal ?_
    refine W_seq ?_
    refine W_region_lit (fun ds => ?_)
    refine WS_det hF (by rfl) (y_loadN (by rfl) Try.isAgg46 Try.sizeOf46 (Mem.own (us := [.slice _ _ _, .int .i64 _, .int .i64 _, .int .i64 _, .int .i64 _, .slice _ _ _]) 0 (by rfl) (by rfl)) (by rfl)) ?_
    refine WS_det hF (by rfl) (y_callL (by rfl) (by rfl) Try.call35 (fun w hw => Ct_eq (ready_any l a' cap' ae' cape' w hn (NewRow.ints hr1 hx.len (by repeat (first | exact List.Sublist.refl _ | exact List.sublist_append_left _ _ | exact List.nil_sublist _ | apply List.Sublist.cons_cons | apply List.Sublist.cons | refine List.Sublist.trans ?_ (List.sublist_append_right _ _))) w hw) (NewRow.rws en_len hr2 he.len (by repeat (first | exact List.Sublist.refl _ | exact List.sublist_append_left _ _ | exact List.nil_sublist _ | apply List.Sublist.cons_cons | apply List.Sublist.cons | refine List.Sublist.trans ?_ (List.sublist_append_right _ _))) w hw)) hr)) ?_
    refine WS_det hF (by rfl) (y_move (c := .tuple _) (by rfl)) ?_
    refine WS_det hF (by rfl) (y_extract (c := .agg _) (by rfl) (by rfl)) ?_
    refine WS_det hF (by rfl) (y_extract (c := .int .i64 _) (by rfl) (by rfl)) ?_
    refine WS_new hF (by rfl) (y_alloc Try.zeroValue26 (by rfl)) (fun b3 => ?_)
    refine WS_store hF (i := 0) (by rfl) (by rfl) Try.sizeOf26 (by rfl) (by rfl) (by rfl) (by first | decide | exact Nat.le_of_ble_eq_true rfl | simp) ?_
    refine WS_det hF (by rfl) (y_assign (c := .int .i64 _) (by rfl)) ?_
    refine WS_nil ?_
    refine Then_normal ?_
    refine W_seq ?_
    refine W_region_lit (fun ds => ?_)
    refine WS_det hF (by rfl) (y_loadN (by rfl) Try.isAgg46 Try.sizeOf46 (Mem.own (us := [.slice _ _ _, .int .i64 _, .int .i64 _, .int .i64 _, .int .i64 _, .slice _ _ _]) 2 (by rfl) (by rfl)) (by rfl)) ?_
    refine WS_det hF (by rfl) (y_callL (by rfl) (by rfl) Try.call36 (fun w hw => Ct_eq (rready_any l a cap ae cape w hn (hx.st w hw) (he.st w hw)) hr)) ?_
    refine WS_det hF (by rfl) (y_move (c := .tuple _) (by rfl)) ?_
    refine WS_det hF (by rfl) (y_extract (c := .agg _) (by rfl) (by rfl)) ?_
    refine WS_det hF (by rfl) (y_extract (c := .int .i64 _) (by rfl) (by rfl)) ?_
    refine WS_new hF (by rfl) (y_alloc Try.zeroValue26 (by rfl)) (fun b4 => ?_)
    refine WS_store hF (i := 0) (by rfl) (by rfl) Try.sizeOf26 (by rfl) (by rfl) (by rfl) (by first | decide | exact Nat.le_of_ble_eq_true rfl | simp) ?_
    refine WS_det hF (by rfl) (y_assign (c := .int .i64 _) (by rfl)) ?_
    refine WS_nil ?_
    refine Then_normal ?_
    refine W_seq ?_
    refine W_region_lit (fun ds => ?_)
    refine WS_det hF (by rfl) (y_loadN (by rfl) Try.isAgg46 Try.sizeOf46 (Mem.own (us := [.slice _ _ _, .int .i64 _, .int .i64 _, .int .i64 _, .int .i64 _, .slice _ _ _]) 2 (by rfl) (by rfl)) (by rfl)) ?_
    refine WS_det hF (by rfl) (y_callL (by rfl) (by rfl) Try.call37 (fun w hw => Ct_eq (room_any l a' cap' ae' cape' w hn (NewRow.ints hr1 hx.len (by repeat (first | exact List.Sublist.refl _ | exact List.sublist_append_left _ _ | exact List.nil_sublist _ | apply List.Sublist.cons_cons | apply List.Sublist.cons | refine List.Sublist.trans ?_ (List.sublist_append_right _ _))) w hw) (NewRow.rws en_len hr2 he.len (by repeat (first | exact List.Sublist.refl _ | exact List.sublist_append_left _ _ | exact List.nil_sublist _ | apply List.Sublist.cons_cons | apply List.Sublist.cons | refine List.Sublist.trans ?_ (List.sublist_append_right _ _))) w hw)) hs)) ?_
    refine WS_det hF (by rfl) (y_move (c := .tuple _) (by rfl)) ?_
    refine WS_det hF (by rfl) (y_extract (c := .agg _) (by rfl) (by rfl)) ?_
    refine WS_det hF (by rfl) (y_extract (c := .int .i64 _) (by rfl) (by rfl)) ?_
    refine WS_new hF (by rfl) (y_alloc Try.zeroValue26 (by rfl)) (fun b5 => ?_)
    refine WS_store hF (i := 0) (by rfl) (by rfl) Try.sizeOf26 (by rfl) (by rfl) (by rfl) (by first | decide | exact Nat.le_of_ble_eq_true rfl | simp) ?_
    refine WS_det hF (by rfl) (y_assign (c := .int .i64 _) (by rfl)) ?_
    refine WS_nil ?_
    refine Then_normal ?_
    refine W_seq ?_
    refine W_region_lit (fun ds => ?_)
    refine WS_det hF (by rfl) (y_loadN (by rfl) Try.isAgg46 Try.sizeOf46 (Mem.own (us := [.slice _ _ _, .int .i64 _, .int .i64 _, .int .i64 _, .int .i64 _, .slice _ _ _]) 4 (by rfl) (by rfl)) (by rfl)) ?_
    refine WS_det hF (by rfl) (y_callL (by rfl) (by rfl) Try.call38 (fun w hw => Ct_eq (rroom_any l a cap ae cape w hn (hx.st w hw) (he.st w hw)) hs)) ?_
    refine WS_det hF (by rfl) (y_move (c := .tuple _) (by rfl)) ?_
    refine WS_det hF (by rfl) (y_extract (c := .agg _) (by rfl) (by rfl)) ?_
    refine WS_det hF (by rfl) (y_extract (c := .int .i64 _) (by rfl) (by rfl)) ?_
    refine WS_new hF (by rfl) (y_alloc Try.zeroValue26 (by rfl)) (fun b6 => ?_)
    refine WS_store hF (i := 0) (by rfl) (by rfl) Try.sizeOf26 (by rfl) (by rfl) (by rfl) (by first | decide | exact Nat.le_of_ble_eq_true rfl | simp) ?_
    refine WS_det hF (by rfl) (y_assign (c := .int .i64 _) (by rfl)) ?_
    refine WS_nil ?_
    refine Then_normal ?_
    refine W_seq ?_
    refine W_region_lit (fun ds => ?_)
    refine WS_det hF (by rfl) (y_loadN (by rfl) Try.isAgg46 Try.sizeOf46 (Mem.own (us := [.slice _ _ _, .int .i64 _, .int .i64 _, .int .i64 _, .int .i64 _, .slice _ _ _]) 4 (by rfl) (by rfl)) (by rfl)) ?_
    refine WS_det hF (by rfl) (y_callL (by rfl) (by rfl) Try.call39 (fun w hw => Ct_eq (ask_any l a' cap' ae' cape' w hn (NewRow.ints hr1 hx.len (by repeat (first | exact List.Sublist.refl _ | exact List.sublist_append_left _ _ | exact List.nil_sublist _ | apply List.Sublist.cons_cons | apply List.Sublist.cons | refine List.Sublist.trans ?_ (List.sublist_append_right _ _))) w hw) (NewRow.rws en_len hr2 he.len (by repeat (first | exact List.Sublist.refl _ | exact List.sublist_append_left _ _ | exact List.nil_sublist _ | apply List.Sublist.cons_cons | apply List.Sublist.cons | refine List.Sublist.trans ?_ (List.sublist_append_right _ _))) w hw)) hk)) ?_
    refine WS_det hF (by rfl) (y_move (c := .tuple _) (by rfl)) ?_
    refine WS_det hF (by rfl) (y_extract (c := .int .i64 _) (by rfl) (by rfl)) ?_
    refine WS_det hF (by rfl) (y_extract (c := .int .i64 _) (by rfl) (by rfl)) ?_
    refine WS_det hF (by rfl) (y_extract (c := .int .i64 _) (by rfl) (by rfl)) ?_
    refine WS_det hF (by rfl) (y_assign (c := .int .i64 _) (by rfl)) ?_
    refine WS_det hF (by rfl) (y_assign (c := .int .i64 _) (by rfl)) ?_
    refine WS_det hF (by rfl) (y_assign (c := .int .i64 _) (by rfl)) ?_
    refine WS_nil ?_
    refine Then_normal ?_
    refine W_seq ?_
    refine W_region_lit (fun ds => ?_)
    refine WS_det hF (by rfl) (y_loadN (by rfl) Try.isAgg46 Try.sizeOf46 (Mem.own (us := [.slice _ _ _, .int .i64 _, .int .i64 _, .int .i64 _, .int .i64 _, .slice _ _ _]) 5 (by rfl) (by rfl)) (by rfl)) ?_
    refine WS_det hF (by rfl) (y_callL (by rfl) (by rfl) Try.call40 (fun w hw => Ct_eq (rask_any l a cap ae cape w hn (hx.st w hw) (he.st w hw)) hk)) ?_
    refine WS_det hF (by rfl) (y_move (c := .tuple _) (by rfl)) ?_
    refine WS_det hF (by rfl) (y_extract (c := .int .i64 _) (by rfl) (by rfl)) ?_
    refine WS_det hF (by rfl) (y_extract (c := .int .i64 _) (by rfl) (by rfl)) ?_
    refine WS_det hF (by rfl) (y_extract (c := .int .i64 _) (by rfl) (by rfl)) ?_
    refine WS_det hF (by rfl) (y_assign (c := .int .i64 _) (by rfl)) ?_
    refine WS_det hF (by rfl) (y_assign (c := .int .i64 _) (by rfl)) ?_
    refine WS_det hF (by rfl) (y_assign (c := .int .i64 _) (by rfl)) ?_
    refine WS_nil ?_
    refine Then_normal ?_
    refine W_seq ?_
    refine W_region_lit (fun ds => ?_)
    refine WS_det hF (by rfl) (y_move (c := .int .u8 _) (by rfl)) ?_
    refine WS_det hF (by rfl) (y_move (c := .int .u8 _) (by rfl)) ?_
    refine WS_det hF (by rfl) (y_eqlT (by rfl) (by rfl)) ?_
    refine WS_det hF (by rfl) (y_move (c := .bool _) (by rfl)) ?_
    refine WS_det hF (by rfl) (y_move (c := .int .i64 _) (by rfl)) ?_
    refine WS_det hF (by rfl) (y_move (c := .int .i64 _) (by rfl)) ?_
    refine WS_det hF (by rfl) (y_eqlT (by rfl) (by rfl)) ?_
    refine WS_det hF (by rfl) (by first | exact y_pick_t (c := .bool _) (by rfl) (by rfl) | exact y_pick_f (c := .bool _) (by rfl) (by rfl)) ?_
    refine WS_det hF (by rfl) (y_move (c := .bool _) (by rfl)) ?_
    refine WS_det hF (by rfl) (y_move (c := .int .i64 _) (by rfl)) ?_
    refine WS_det hF (by rfl) (y_move (c := .int .i64 _) (by rfl)) ?_
    refine WS_det hF (by rfl) (y_eqlT (by rfl) (by rfl)) ?_
    refine WS_det hF (by rfl) (by first | exact y_pick_t (c := .bool _) (by rfl) (by rfl) | exact y_pick_f (c := .bool _) (by rfl) (by rfl)) ?_
    refine WS_det hF (by rfl) (y_move (c := .bool _) (by rfl)) ?_
    refine WS_det hF (by rfl) (y_move (c := .int .i64 _) (by rfl)) ?_
    refine WS_det hF (by rfl) (y_move (c := .int .i64 _) (by rfl)) ?_
    refine WS_det hF (by rfl) (y_eqlT (by rfl) (by rfl)) ?_
    refine WS_det hF (by rfl) (by first | exact y_pick_t (c := .bool _) (by rfl) (by rfl) | exact y_pick_f (c := .bool _) (by rfl) (by rfl)) ?_
    refine WS_det hF (by rfl) (y_move (c := .bool _) (by rfl)) ?_
    refine WS_det hF (by rfl) (y_loadN (by rfl) Try.isAgg26 Try.sizeOf26 (Mem.own (us := [.int .i64 _, .int .i64 _]) 3 (by rfl) (by rfl)) (by rfl)) ?_
    refine WS_det hF (by rfl) (y_loadN (by rfl) Try.isAgg26 Try.sizeOf26 (Mem.own (us := [.int .i64 _, .int .i64 _]) 2 (by rfl) (by rfl)) (by rfl)) ?_
    refine WS_det hF (by rfl) (y_eqlAT (by rfl) (by rfl) eqA26 (by simp only [ieq_self, Bool.and_self, Bool.not_true])) ?_
    refine WS_det hF (by rfl) (by first | exact y_pick_t (c := .bool _) (by rfl) (by rfl) | exact y_pick_f (c := .bool _) (by rfl) (by rfl)) ?_
    refine WS_det hF (by rfl) (y_move (c := .bool _) (by rfl)) ?_
    refine WS_det hF (by rfl) (y_move (c := .int .i64 _) (by rfl)) ?_
    refine WS_det hF (by rfl) (y_move (c := .int .i64 _) (by rfl)) ?_
    refine WS_det hF (by rfl) (y_eqlT (by rfl) (by rfl)) ?_
    refine WS_det hF (by rfl) (by first | exact y_pick_t (c := .bool _) (by rfl) (by rfl) | exact y_pick_f (c := .bool _) (by rfl) (by rfl)) ?_
    refine WS_det hF (by rfl) (y_move (c := .bool _) (by rfl)) ?_
    refine WS_det hF (by rfl) (y_loadN (by rfl) Try.isAgg26 Try.sizeOf26 (Mem.own (us := [.int .i64 _, .int .i64 _]) 1 (by rfl) (by rfl)) (by rfl)) ?_
    refine WS_det hF (by rfl) (y_loadN (by rfl) Try.isAgg26 Try.sizeOf26 (Mem.own (us := [.int .i64 _, .int .i64 _]) 0 (by rfl) (by rfl)) (by rfl)) ?_
    refine WS_det hF (by rfl) (y_eqlAT (by rfl) (by rfl) eqA26 (by simp only [ieq_self, Bool.and_self, Bool.not_true])) ?_
    refine WS_det hF (by rfl) (by first | exact y_pick_t (c := .bool _) (by rfl) (by rfl) | exact y_pick_f (c := .bool _) (by rfl) (by rfl)) ?_
    refine WS_det hF (by rfl) (y_move (c := .bool _) (by rfl)) ?_
    refine WS_det hF (by rfl) (y_move (c := .int .i64 _) (by rfl)) ?_
    refine WS_det hF (by rfl) (y_move (c := .int .i64 _) (by rfl)) ?_
    refine WS_det hF (by rfl) (y_eqlT (by rfl) (by rfl)) ?_
    refine WS_det hF (by rfl) (by first | exact y_pick_t (c := .bool _) (by rfl) (by rfl) | exact y_pick_f (c := .bool _) (by rfl) (by rfl)) ?_
    refine WS_det hF (by rfl) (y_move (c := .bool _) (by rfl)) ?_
    refine WS_det hF (by rfl) (y_move (c := .int .i64 _) (by rfl)) ?_
    refine WS_det hF (by rfl) (y_move (c := .int .i64 _) (by rfl)) ?_
    refine WS_det hF (by rfl) (y_eqlT (by rfl) (by rfl)) ?_
    refine WS_det hF (by rfl) (by first | exact y_pick_t (c := .bool _) (by rfl) (by rfl) | exact y_pick_f (c := .bool _) (by rfl) (by rfl)) ?_
    refine WS_det hF (by rfl) (y_move (c := .bool _) (by rfl)) ?_
    refine WS_det hF (by rfl) (y_move (c := .int .i64 _) (by rfl)) ?_
    refine WS_det hF (by rfl) (y_move (c := .int .i64 _) (by rfl)) ?_
    refine WS_det hF (by rfl) (y_eqlT (by rfl) (by rfl)) ?_
    refine WS_det hF (by rfl) (by first | exact y_pick_t (c := .bool _) (by rfl) (by rfl) | exact y_pick_f (c := .bool _) (by rfl) (by rfl)) ?_
    refine WS_det hF (by rfl) (y_move (c := .bool _) (by rfl)) ?_
    refine WS_det hF (by rfl) (y_move (c := .int .i64 _) (by rfl)) ?_
    refine WS_det hF (by rfl) (y_move (c := .int .i64 _) (by rfl)) ?_
    refine WS_det hF (by rfl) (y_eqlT (by rfl) (by rfl)) ?_
    refine WS_det hF (by rfl) (by first | exact y_pick_t (c := .bool _) (by rfl) (by rfl) | exact y_pick_f (c := .bool _) (by rfl) (by rfl)) ?_
    refine WS_det hF (by rfl) (y_move (c := .bool _) (by rfl)) ?_
    refine WS_det hF (by rfl) (y_loadN (by rfl) Try.isAgg46 Try.sizeOf46 (Mem.own (us := [.slice _ _ _, .int .i64 _, .int .i64 _, .int .i64 _, .int .i64 _, .slice _ _ _]) 4 (by rfl) (by rfl)) (by rfl)) ?_
    refine WS_det hF (by rfl) (y_loadN (by rfl) Try.isAgg46 Try.sizeOf46 (Mem.own (us := [.slice _ _ _, .int .i64 _, .int .i64 _, .int .i64 _, .int .i64 _, .slice _ _ _]) 5 (by rfl) (by rfl)) (by rfl)) ?_
    refine WS_det hF (by rfl) (y_callL (by rfl) (by rfl) Try.call30 (fun w hw => same_any l a cap ae cape a' cap' ae' cape' w hnes hn (hx.st w hw) (he.st w hw) (NewRow.ints hr1 hx.len (by repeat (first | exact List.Sublist.refl _ | exact List.sublist_append_left _ _ | exact List.nil_sublist _ | apply List.Sublist.cons_cons | apply List.Sublist.cons | refine List.Sublist.trans ?_ (List.sublist_append_right _ _))) w hw) (NewRow.rws en_len hr2 he.len (by repeat (first | exact List.Sublist.refl _ | exact List.sublist_append_left _ _ | exact List.nil_sublist _ | apply List.Sublist.cons_cons | apply List.Sublist.cons | refine List.Sublist.trans ?_ (List.sublist_append_right _ _))) w hw))) ?_
    refine WS_det hF (by rfl) (by first | exact y_pick_t (c := .bool _) (by rfl) (by rfl) | exact y_pick_f (c := .bool _) (by rfl) (by rfl)) ?_
    refine WS_det hF (by rfl) (y_assign (c := .bool _) (by rfl)) ?_
    refine WS_nil ?_
    refine Then_normal ?_
    refine W_ret ?_
    refine Fin_ret [.bool _] [] Try.results5 ⟨by rfl, trivial⟩ HSub.nil ?_
    rfl
end Go.Proofs.Ythkimgfgpphgnaa.T
