/- Proved: for every input, with no condition, the law TankExamples returns true and the input reads as it did (Rows.TankExamplesSaid). -/
import Derived.Test.YthkimgfgpphgnaaMb4
import Derived.Test.YthkimgfgpphgnaaMb2
set_option linter.unusedVariables false
set_option linter.unusedSimpArgs false
/- alive returns true, walked. -/
namespace Go.Proofs.Ythkimgfgpphgnaa.T
open Go.RowKit Go.Proofs Go.Eng
set_option maxRecDepth 100000
set_option maxHeartbeats 4000000
set_option linter.unusedVariables false
set_option linter.unusedSimpArgs false

theorem a_gneqA30 {x y : Operand} {x_0 : Int} {x_1 : Int} {y_0 : Int} {y_1 : Int} : ∀ w, (eqGuard .neq 30 x y (.agg #[.int .i64 x_0, .int .i64 x_1]) (.agg #[.int .i64 y_0, .int .i64 y_1])).run Try.prog w = .ok () w := fun w => by kernel_rfl
theorem neqA30 {x y : Operand} {x_0 : Int} {x_1 : Int} {y_0 : Int} {y_1 : Int} : ∀ w, ((do eqGuard .neq 30 x y (.agg #[.int .i64 x_0, .int .i64 x_1]) (.agg #[.int .i64 y_0, .int .i64 y_1]); binOp .neq 30 (.agg #[.int .i64 x_0, .int .i64 x_1]) (.agg #[.int .i64 y_0, .int .i64 y_1])) : Sem Value).run Try.prog w = .ok (.bool (!(ieq x_0 y_0 && ieq x_1 y_1))) w := eq_topN a_gneqA30 eq30

theorem alive_any (w : World) : Ct Try.prog 53 #[] w fun v _ => v = .bool true := by
  have hF := wide_wide
  refine Ct_start (args := []) Try.func53 (by rfl) Try.ntmps53 (by rfl) ?_
  refine W_seq ?_
  refine W_region_lit (fun ds => ?_)
  refine WS_det hF (by rfl) (y_assign (c := .bool _) (by rfl)) ?_
  refine WS_nil ?_
  refine Then_normal ?_
  refine W_seq ?_
  refine W_region_lit (fun ds => ?_)
  refine WS_gen hF (by rfl) (y_callL (by rfl) (by rfl) Try.call63 (fun w hw => tun_any w)) ?_
  rintro _ Ht ⟨ta, tcap, rfl, hrt⟩
  refine WS_back ?_
  refine WS_det hF (by rfl) (y_callL (by rfl) (by rfl) Try.call13 (fun w hw => Ct_eq (volume_any tunT _ _ 9 w (by decide) (NewRow.ints hrt rfl sbA w hw)) k_vol)) ?_
  refine WS_det hF (by rfl) (y_move (c := .tuple _) (by rfl)) ?_
  refine WS_det hF (by rfl) (y_extract (c := .agg _) (by rfl) (by rfl)) ?_
  refine WS_det hF (by rfl) (y_extract (c := .int .i64 _) (by rfl) (by rfl)) ?_
  refine WS_new hF (by rfl) (y_alloc Try.zeroValue30 (by rfl)) (fun b1 => ?_)
  refine WS_store hF (i := 0) (by rfl) (by rfl) Try.sizeOf30 (by rfl) (by rfl) (by rfl) (by first | decide | exact Nat.le_of_ble_eq_true rfl | simp) ?_
  refine WS_det hF (by rfl) (y_assign (c := .int .i64 _) (by rfl)) ?_
  refine WS_nil ?_
  refine Then_normal ?_
  refine W_seq ?_
  refine W_region_lit (fun ds => ?_)
  refine WS_gen hF (by rfl) (y_callL (by rfl) (by rfl) Try.call63 (fun w hw => tun_any w)) ?_
  rintro _ Ht ⟨ta, tcap, rfl, hrt⟩
  refine WS_back ?_
  refine WS_det hF (by rfl) (y_callL (by rfl) (by rfl) Try.call15 (fun w hw => Ct_eq (eighth_any tunT _ _ 35 3 w (by decide) (NewRow.ints hrt rfl sbA w hw) (fun _ => k_lb)) k_eig)) ?_
  refine WS_det hF (by rfl) (y_move (c := .tuple _) (by rfl)) ?_
  refine WS_det hF (by rfl) (y_extract (c := .agg _) (by rfl) (by rfl)) ?_
  refine WS_det hF (by rfl) (y_extract (c := .int .i64 _) (by rfl) (by rfl)) ?_
  refine WS_new hF (by rfl) (y_alloc Try.zeroValue30 (by rfl)) (fun b2 => ?_)
  refine WS_store hF (i := 0) (by rfl) (by rfl) Try.sizeOf30 (by rfl) (by rfl) (by rfl) (by first | decide | exact Nat.le_of_ble_eq_true rfl | simp) ?_
  refine WS_det hF (by rfl) (y_assign (c := .int .i64 _) (by rfl)) ?_
  refine WS_nil ?_
  refine Then_normal ?_
  refine W_seq ?_
  refine W_region_lit (fun ds => ?_)
  refine WS_gen hF (by rfl) (y_callL (by rfl) (by rfl) Try.call63 (fun w hw => tun_any w)) ?_
  rintro _ Ht ⟨ta, tcap, rfl, hrt⟩
  refine WS_back ?_
  refine WS_det hF (by rfl) (y_callL (by rfl) (by rfl) Try.call58 (fun w hw => lspan_any _ _ w)) ?_
  refine WS_det hF (by rfl) (y_callL (by rfl) (by rfl) Try.call17 (fun w hw => Ct_eq (range_any tunT _ _ 9 12 w (by decide) (NewRow.ints hrt rfl sbA w hw)) k_rng)) ?_
  refine WS_det hF (by rfl) (y_move (c := .tuple _) (by rfl)) ?_
  refine WS_det hF (by rfl) (y_extract (c := .agg _) (by rfl) (by rfl)) ?_
  refine WS_det hF (by rfl) (y_extract (c := .int .i64 _) (by rfl) (by rfl)) ?_
  refine WS_new hF (by rfl) (y_alloc Try.zeroValue26 (by rfl)) (fun b3 => ?_)
  refine WS_store hF (i := 0) (by rfl) (by rfl) Try.sizeOf26 (by rfl) (by rfl) (by rfl) (by first | decide | exact Nat.le_of_ble_eq_true rfl | simp) ?_
  refine WS_det hF (by rfl) (y_assign (c := .int .i64 _) (by rfl)) ?_
  refine WS_nil ?_
  refine Then_normal ?_
  refine W_seq ?_
  refine W_region_lit (fun ds => ?_)
  refine WS_gen hF (by rfl) (y_callL (by rfl) (by rfl) Try.call62 (fun w hw => log_any w)) ?_
  rintro _ _ ⟨a1, cap1, ae1, cape1, Hp, He, rfl, hrp, hre, rfl⟩
  refine WS_back ?_
  refine WS_det hF (by rfl) (y_callL (by rfl) (by rfl) Try.call43 (fun w hw => Ct_eq (holds_any logL _ _ _ _ 1 w (by decide) (NewRow.ints hrp rfl sbA w hw) (NewRow.rws en_len hre rfl sbA w hw)) k_hol)) ?_
  refine WS_det hF (by rfl) (y_move (c := .tuple _) (by rfl)) ?_
  refine WS_det hF (by rfl) (y_extract (c := .agg _) (by rfl) (by rfl)) ?_
  refine WS_det hF (by rfl) (y_extract (c := .int .i64 _) (by rfl) (by rfl)) ?_
  refine WS_new hF (by rfl) (y_alloc Try.zeroValue26 (by rfl)) (fun b4 => ?_)
  refine WS_store hF (i := 0) (by rfl) (by rfl) Try.sizeOf26 (by rfl) (by rfl) (by rfl) (by first | decide | exact Nat.le_of_ble_eq_true rfl | simp) ?_
  refine WS_det hF (by rfl) (y_assign (c := .int .i64 _) (by rfl)) ?_
  refine WS_nil ?_
  refine Then_normal ?_
  refine W_seq ?_
  refine W_region_lit (fun ds => ?_)
  refine WS_gen hF (by rfl) (y_callL (by rfl) (by rfl) Try.call62 (fun w hw => log_any w)) ?_
  rintro _ _ ⟨a1, cap1, ae1, cape1, Hp, He, rfl, hrp, hre, rfl⟩
  refine WS_back ?_
  refine WS_gen hF (by rfl) (y_callL (by rfl) (by rfl) Try.call41 (fun w hw => truth_any logL _ _ _ _ w (by decide) (NewRow.ints hrp rfl sbA w hw) (NewRow.rws en_len hre rfl sbA w hw))) ?_
  rintro _ Hb hTb
  obtain ⟨tb, tcap2, rfl, htb⟩ := truth_ints hTb
  rw [k_trs, k_aerr] at *
  refine WS_back ?_
  refine WS_det hF (by rfl) (y_move (c := .tuple _) (by rfl)) ?_
  refine WS_det hF (by rfl) (y_extract (c := .slice _ _ _) (by rfl) (by rfl)) ?_
  refine WS_det hF (by rfl) (y_extract (c := .int .i64 _) (by rfl) (by rfl)) ?_
  refine WS_det hF (by rfl) (y_assign (c := .slice _ _ _) (by rfl)) ?_
  refine WS_det hF (by rfl) (y_assign (c := .int .i64 _) (by rfl)) ?_
  refine WS_nil ?_
  refine Then_normal ?_
  refine W_seq ?_
  refine W_region_lit (fun ds => ?_)
  refine WS_gen hF (by rfl) (y_callL (by rfl) (by rfl) Try.call62 (fun w hw => log_any w)) ?_
  rintro _ _ ⟨a1, cap1, ae1, cape1, Hp, He, rfl, hrp, hre, rfl⟩
  refine WS_back ?_
  refine WS_det hF (by rfl) (y_callL (by rfl) (by rfl) Try.call47 (fun w hw => Ct_eq (moved_any logL _ _ _ _ 3 w (by decide) (NewRow.ints hrp rfl sbA w hw) (NewRow.rws en_len hre rfl sbA w hw)) k_mov)) ?_
  refine WS_det hF (by rfl) (y_move (c := .tuple _) (by rfl)) ?_
  refine WS_det hF (by rfl) (y_extract (c := .agg _) (by rfl) (by rfl)) ?_
  refine WS_det hF (by rfl) (y_extract (c := .int .i64 _) (by rfl) (by rfl)) ?_
  refine WS_new hF (by rfl) (y_alloc Try.zeroValue26 (by rfl)) (fun b5 => ?_)
  refine WS_store hF (i := 0) (by rfl) (by rfl) Try.sizeOf26 (by rfl) (by rfl) (by rfl) (by first | decide | exact Nat.le_of_ble_eq_true rfl | simp) ?_
  refine WS_det hF (by rfl) (y_assign (c := .int .i64 _) (by rfl)) ?_
  refine WS_nil ?_
  refine Then_normal ?_
  refine W_seq ?_
  refine W_region_lit (fun ds => ?_)
  refine WS_gen hF (by rfl) (y_callL (by rfl) (by rfl) Try.call62 (fun w hw => log_any w)) ?_
  rintro _ _ ⟨a1, cap1, ae1, cape1, Hp, He, rfl, hrp, hre, rfl⟩
  refine WS_back ?_
  refine WS_det hF (by rfl) (y_callL (by rfl) (by rfl) Try.call49 (fun w hw => Ct_eq (lost_any logL _ _ _ _ 1 w (by decide) (NewRow.ints hrp rfl sbA w hw) (NewRow.rws en_len hre rfl sbA w hw)) k_los)) ?_
  refine WS_det hF (by rfl) (y_move (c := .tuple _) (by rfl)) ?_
  refine WS_det hF (by rfl) (y_extract (c := .agg _) (by rfl) (by rfl)) ?_
  refine WS_det hF (by rfl) (y_extract (c := .int .i64 _) (by rfl) (by rfl)) ?_
  refine WS_new hF (by rfl) (y_alloc Try.zeroValue26 (by rfl)) (fun b6 => ?_)
  refine WS_store hF (i := 0) (by rfl) (by rfl) Try.sizeOf26 (by rfl) (by rfl) (by rfl) (by first | decide | exact Nat.le_of_ble_eq_true rfl | simp) ?_
  refine WS_det hF (by rfl) (y_assign (c := .int .i64 _) (by rfl)) ?_
  refine WS_nil ?_
  refine Then_normal ?_
  refine W_seq ?_
  refine W_region_lit (fun ds => ?_)
  refine WS_gen hF (by rfl) (y_callL (by rfl) (by rfl) Try.call62 (fun w hw => log_any w)) ?_
  rintro _ _ ⟨a1, cap1, ae1, cape1, Hp, He, rfl, hrp, hre, rfl⟩
  refine WS_back ?_
  refine WS_det hF (by rfl) (y_callL (by rfl) (by rfl) Try.call51 (fun w hw => Ct_eq (leaked_any logL _ _ _ _ w (by decide) (NewRow.ints hrp rfl sbA w hw) (NewRow.rws en_len hre rfl sbA w hw)) k_lea)) ?_
  refine WS_det hF (by rfl) (y_move (c := .tuple _) (by rfl)) ?_
  refine WS_det hF (by rfl) (y_extract (c := .agg _) (by rfl) (by rfl)) ?_
  refine WS_det hF (by rfl) (y_extract (c := .int .i64 _) (by rfl) (by rfl)) ?_
  refine WS_new hF (by rfl) (y_alloc Try.zeroValue26 (by rfl)) (fun b7 => ?_)
  refine WS_store hF (i := 0) (by rfl) (by rfl) Try.sizeOf26 (by rfl) (by rfl) (by rfl) (by first | decide | exact Nat.le_of_ble_eq_true rfl | simp) ?_
  refine WS_det hF (by rfl) (y_assign (c := .int .i64 _) (by rfl)) ?_
  refine WS_nil ?_
  refine Then_normal ?_
  refine W_seq ?_
  refine W_seq ?_
  refine W_draw0 hF Trymixed [] (by decide +kernel) (fun ds => ?_)
  refine P_det (by rfl) (Over_nil (y_move (c := .int .i64 _) (by rfl))) ?_
  refine P_det (by rfl) (Over_nil (y_neqF (by rfl) (by rfl))) ?_
  refine P_det (by rfl) (Over_nil (y_move (c := .bool _) (by rfl))) ?_
  refine P_det (by rfl) (Over_nil (y_loadN (by rfl) Try.isAgg30 Try.sizeOf30 (Mem.own (us := [.int .i64 _, .int .i64 _]) 6 (by rfl) (by rfl)) (by rfl))) ?_
  refine P_det (by rfl) (Over_nil (y_callL (by rfl) (by rfl) Try.call57 (fun w hw => lpart_any _ _ w))) ?_
  refine P_det (by rfl) (Over_nil (y_neqlAF (by rfl) (by rfl) neqA30 (by simp only [ieq_self, Bool.and_self, Bool.not_true]))) ?_
  refine P_det (by rfl) (Over_nil (by first | exact y_pick_t (c := .bool _) (by rfl) (by rfl) | exact y_pick_f (c := .bool _) (by rfl) (by rfl))) ?_
  refine P_det (by rfl) (Over_nil (y_move (c := .bool _) (by rfl))) ?_
  refine P_det (by rfl) (Over_nil (y_move (c := .int .i64 _) (by rfl))) ?_
  refine P_det (by rfl) (Over_nil (y_neqF (by rfl) (by rfl))) ?_
  refine P_det (by rfl) (Over_nil (by first | exact y_pick_t (c := .bool _) (by rfl) (by rfl) | exact y_pick_f (c := .bool _) (by rfl) (by rfl))) ?_
  refine P_det (by rfl) (Over_nil (y_move (c := .bool _) (by rfl))) ?_
  refine P_det (by rfl) (Over_nil (y_loadN (by rfl) Try.isAgg30 Try.sizeOf30 (Mem.own (us := [.int .i64 _, .int .i64 _]) 5 (by rfl) (by rfl)) (by rfl))) ?_
  refine P_det (by rfl) (Over_nil (y_callL (by rfl) (by rfl) Try.call57 (fun w hw => lpart_any _ _ w))) ?_
  refine P_det (by rfl) (Over_nil (y_neqlAF (by rfl) (by rfl) neqA30 (by simp only [ieq_self, Bool.and_self, Bool.not_true]))) ?_
  refine P_det (by rfl) (Over_nil (by first | exact y_pick_t (c := .bool _) (by rfl) (by rfl) | exact y_pick_f (c := .bool _) (by rfl) (by rfl))) ?_
  refine P_det (by rfl) (Over_nil (y_move (c := .bool _) (by rfl))) ?_
  refine P_det (by rfl) (Over_nil (y_move (c := .int .i64 _) (by rfl))) ?_
  refine P_det (by rfl) (Over_nil (y_neqF (by rfl) (by rfl))) ?_
  refine P_det (by rfl) (Over_nil (by first | exact y_pick_t (c := .bool _) (by rfl) (by rfl) | exact y_pick_f (c := .bool _) (by rfl) (by rfl))) ?_
  refine P_det (by rfl) (Over_nil (y_move (c := .bool _) (by rfl))) ?_
  refine P_det (by rfl) (Over_nil (y_loadN (by rfl) Try.isAgg26 Try.sizeOf26 (Mem.own (us := [.int .i64 _, .int .i64 _]) 4 (by rfl) (by rfl)) (by rfl))) ?_
  refine P_det (by rfl) (Over_nil (y_callL (by rfl) (by rfl) Try.call58 (fun w hw => lspan_any _ _ w))) ?_
  refine P_det (by rfl) (Over_nil (y_neqlAF (by rfl) (by rfl) neqA26 (by simp only [ieq_self, Bool.and_self, Bool.not_true]))) ?_
  refine P_det (by rfl) (Over_nil (by first | exact y_pick_t (c := .bool _) (by rfl) (by rfl) | exact y_pick_f (c := .bool _) (by rfl) (by rfl))) ?_
  refine P_det (by rfl) (Over_nil (y_move (c := .bool _) (by rfl))) ?_
  refine P_det (by rfl) (Over_nil (y_move (c := .int .i64 _) (by rfl))) ?_
  refine P_det (by rfl) (Over_nil (y_neqF (by rfl) (by rfl))) ?_
  refine P_det (by rfl) (Over_nil (by first | exact y_pick_t (c := .bool _) (by rfl) (by rfl) | exact y_pick_f (c := .bool _) (by rfl) (by rfl))) ?_
  refine P_det (by rfl) (Over_nil (y_move (c := .bool _) (by rfl))) ?_
  refine P_det (by rfl) (Over_nil (y_loadN (by rfl) Try.isAgg26 Try.sizeOf26 (Mem.own (us := [.int .i64 _, .int .i64 _]) 3 (by rfl) (by rfl)) (by rfl))) ?_
  refine P_det (by rfl) (Over_nil (y_callL (by rfl) (by rfl) Try.call58 (fun w hw => lspan_any _ _ w))) ?_
  refine P_det (by rfl) (Over_nil (y_neqlAF (by rfl) (by rfl) neqA26 (by simp only [ieq_self, Bool.and_self, Bool.not_true]))) ?_
  refine P_det (by rfl) (Over_nil (by first | exact y_pick_t (c := .bool _) (by rfl) (by rfl) | exact y_pick_f (c := .bool _) (by rfl) (by rfl))) ?_
  refine P_det (by rfl) (Over_nil (y_move (c := .bool _) (by rfl))) ?_
  refine P_det (by rfl) (Over_nil (y_move (c := .int .i64 _) (by rfl))) ?_
  refine P_det (by rfl) (Over_nil (y_neqF (by rfl) (by rfl))) ?_
  refine P_det (by rfl) (Over_nil (by first | exact y_pick_t (c := .bool _) (by rfl) (by rfl) | exact y_pick_f (c := .bool _) (by rfl) (by rfl))) ?_
  refine P_det (by rfl) (Over_nil (y_move (c := .bool _) (by rfl))) ?_
  refine P_det (by rfl) (Over_nil (y_move (c := .slice _ _ _) (by rfl))) ?_
  refine P_new (by rfl) (by rfl) (Over_nil (y_buildSliceL bs22_5_0_1_2_3_4 (by rfl))) ?_
  refine P_det (by rfl) (Over_in (by rfl) (Over_nil (by rintro _ _ ⟨b9, rfl, rfl⟩; exact (y_callL (by rfl) (by rfl) Try.call21 (fun w hw => Ct_eq (c' := .bool true) (sameInts_any _ _ _ _ _ _ [23, 38, 38, 20, 20] [23, 38, 38, 20, 20] w (by decide) (htb _ _ w sbA hw) (Ints.mem (rest := []) 0 (by rfl) (by rfl) (by decide) w hw)) (by simp)))))) ?_
  refine P_det (by rfl) (Over_out (by rfl) (Over_nil (y_not (by rfl)))) ?_
  refine P_det (by rfl) (Over_out (by rfl) (Over_nil (by first | exact y_pick_t (c := .bool _) (by rfl) (by rfl) | exact y_pick_f (c := .bool _) (by rfl) (by rfl)))) ?_
  refine P_det (by rfl) (Over_out (by rfl) (Over_nil (y_move (c := .bool _) (by rfl)))) ?_
  refine P_det (by rfl) (Over_out (by rfl) (Over_nil (y_move (c := .int .i64 _) (by rfl)))) ?_
  refine P_det (by rfl) (Over_out (by rfl) (Over_nil (y_neqF (by rfl) (by rfl)))) ?_
  refine P_det (by rfl) (Over_out (by rfl) (Over_nil (by first | exact y_pick_t (c := .bool _) (by rfl) (by rfl) | exact y_pick_f (c := .bool _) (by rfl) (by rfl)))) ?_
  refine P_det (by rfl) (Over_out (by rfl) (Over_nil (y_move (c := .bool _) (by rfl)))) ?_
  refine P_det (by rfl) (Over_out (by rfl) (Over_nil (y_loadN (by rfl) Try.isAgg26 Try.sizeOf26 (Mem.own (us := [.int .i64 _, .int .i64 _]) 2 (by rfl) (by rfl)) (by rfl)))) ?_
  refine P_det (by rfl) (Over_out (by rfl) (Over_nil (y_callL (by rfl) (by rfl) Try.call58 (fun w hw => lspan_any _ _ w)))) ?_
  refine P_det (by rfl) (Over_out (by rfl) (Over_nil (y_neqlAF (by rfl) (by rfl) neqA26 (by simp only [ieq_self, Bool.and_self, Bool.not_true])))) ?_
  refine P_det (by rfl) (Over_out (by rfl) (Over_nil (by first | exact y_pick_t (c := .bool _) (by rfl) (by rfl) | exact y_pick_f (c := .bool _) (by rfl) (by rfl)))) ?_
  refine P_det (by rfl) (Over_out (by rfl) (Over_nil (y_move (c := .bool _) (by rfl)))) ?_
  refine P_det (by rfl) (Over_out (by rfl) (Over_nil (y_move (c := .int .i64 _) (by rfl)))) ?_
  refine P_det (by rfl) (Over_out (by rfl) (Over_nil (y_neqF (by rfl) (by rfl)))) ?_
  refine P_det (by rfl) (Over_out (by rfl) (Over_nil (by first | exact y_pick_t (c := .bool _) (by rfl) (by rfl) | exact y_pick_f (c := .bool _) (by rfl) (by rfl)))) ?_
  refine P_det (by rfl) (Over_out (by rfl) (Over_nil (y_move (c := .bool _) (by rfl)))) ?_
  refine P_det (by rfl) (Over_out (by rfl) (Over_nil (y_loadN (by rfl) Try.isAgg26 Try.sizeOf26 (Mem.own (us := [.int .i64 _, .int .i64 _]) 1 (by rfl) (by rfl)) (by rfl)))) ?_
  refine P_det (by rfl) (Over_out (by rfl) (Over_nil (y_callL (by rfl) (by rfl) Try.call58 (fun w hw => lspan_any _ _ w)))) ?_
  refine P_det (by rfl) (Over_out (by rfl) (Over_nil (y_neqlAF (by rfl) (by rfl) neqA26 (by simp only [ieq_self, Bool.and_self, Bool.not_true])))) ?_
  refine P_det (by rfl) (Over_out (by rfl) (Over_nil (by first | exact y_pick_t (c := .bool _) (by rfl) (by rfl) | exact y_pick_f (c := .bool _) (by rfl) (by rfl)))) ?_
  refine P_det (by rfl) (Over_out (by rfl) (Over_nil (y_move (c := .bool _) (by rfl)))) ?_
  refine P_det (by rfl) (Over_out (by rfl) (Over_nil (y_move (c := .int .i64 _) (by rfl)))) ?_
  refine P_det (by rfl) (Over_out (by rfl) (Over_nil (y_neqF (by rfl) (by rfl)))) ?_
  refine P_det (by rfl) (Over_out (by rfl) (Over_nil (by first | exact y_pick_t (c := .bool _) (by rfl) (by rfl) | exact y_pick_f (c := .bool _) (by rfl) (by rfl)))) ?_
  refine P_det (by rfl) (Over_out (by rfl) (Over_nil (y_move (c := .bool _) (by rfl)))) ?_
  refine P_det (by rfl) (Over_out (by rfl) (Over_nil (y_loadN (by rfl) Try.isAgg26 Try.sizeOf26 (Mem.own (us := [.int .i64 _, .int .i64 _]) 0 (by rfl) (by rfl)) (by rfl)))) ?_
  refine P_det (by rfl) (Over_out (by rfl) (Over_nil (y_callL (by rfl) (by rfl) Try.call58 (fun w hw => lspan_any _ _ w)))) ?_
  refine P_det (by rfl) (Over_out (by rfl) (Over_nil (y_neqlAF (by rfl) (by rfl) neqA26 (by simp only [ieq_self, Bool.and_self, Bool.not_true])))) ?_
  refine P_det (by rfl) (Over_out (by rfl) (Over_nil (by first | exact y_pick_t (c := .bool _) (by rfl) (by rfl) | exact y_pick_f (c := .bool _) (by rfl) (by rfl)))) ?_
  refine PW_end (by rfl) ?_
  refine OverAll_cons (fun w106 l106 => ?_)
  refine OverAll_nil ?_
  rintro ⟨-, h106⟩
  obtain ⟨b8, rfl, rfl⟩ := h106
  refine Then_normal ?_
  refine W_cond (by rfl) (fun c9 => ?_) (fun c9 => ?_)
  · cases c9
  ·
    try simp only [Bool.not_eq_true', Bool.not_eq_false', decide_eq_true_eq, decide_eq_false_iff_not, ne_eq, Classical.not_not, Int.not_lt, Int.not_le] at c9
    refine W_skip ?_
    refine Then_normal ?_
    refine W_seq ?_
    refine W_region_lit (fun ds => ?_)
    refine WS_gen hF (by rfl) (y_callL (by rfl) (by rfl) Try.call62 (fun w hw => log_any w)) ?_
    rintro _ _ ⟨a1, cap1, ae1, cape1, Hp, He, rfl, hrp, hre, rfl⟩
    refine WS_back ?_
    refine WS_det hF (by rfl) (y_callL (by rfl) (by rfl) Try.call31 (fun w hw => Ct_eq (sure_any logL _ _ _ _ 21 w (by decide) (NewRow.ints hrp rfl sbA w hw) (NewRow.rws en_len hre rfl sbA w hw)) k_sur)) ?_
    refine WS_det hF (by rfl) (y_move (c := .tuple _) (by rfl)) ?_
    refine WS_det hF (by rfl) (y_extract (c := .int .u8 _) (by rfl) (by rfl)) ?_
    refine WS_det hF (by rfl) (y_extract (c := .int .i64 _) (by rfl) (by rfl)) ?_
    refine WS_det hF (by rfl) (y_assign (c := .int .u8 _) (by rfl)) ?_
    refine WS_det hF (by rfl) (y_assign (c := .int .i64 _) (by rfl)) ?_
    refine WS_nil ?_
    refine Then_normal ?_
    refine W_seq ?_
    refine W_region_lit (fun ds => ?_)
    refine WS_gen hF (by rfl) (y_callL (by rfl) (by rfl) Try.call62 (fun w hw => log_any w)) ?_
    rintro _ _ ⟨a1, cap1, ae1, cape1, Hp, He, rfl, hrp, hre, rfl⟩
    refine WS_back ?_
    refine WS_det hF (by rfl) (y_callL (by rfl) (by rfl) Try.call33 (fun w hw => Ct_eq (when_any logL _ _ _ _ 38 w (by decide) (NewRow.ints hrp rfl sbA w hw) (NewRow.rws en_len hre rfl sbA w hw)) k_whe)) ?_
    refine WS_det hF (by rfl) (y_move (c := .tuple _) (by rfl)) ?_
    refine WS_det hF (by rfl) (y_extract (c := .int .i64 _) (by rfl) (by rfl)) ?_
    refine WS_det hF (by rfl) (y_extract (c := .int .i64 _) (by rfl) (by rfl)) ?_
    refine WS_det hF (by rfl) (y_assign (c := .int .i64 _) (by rfl)) ?_
    refine WS_det hF (by rfl) (y_assign (c := .int .i64 _) (by rfl)) ?_
    refine WS_nil ?_
    refine Then_normal ?_
    refine W_seq ?_
    refine W_region_lit (fun ds => ?_)
    refine WS_gen hF (by rfl) (y_callL (by rfl) (by rfl) Try.call62 (fun w hw => log_any w)) ?_
    rintro _ _ ⟨a1, cap1, ae1, cape1, Hp, He, rfl, hrp, hre, rfl⟩
    refine WS_back ?_
    refine WS_det hF (by rfl) (y_callL (by rfl) (by rfl) Try.call35 (fun w hw => Ct_eq (ready_any logL _ _ _ _ w (by decide) (NewRow.ints hrp rfl sbA w hw) (NewRow.rws en_len hre rfl sbA w hw)) k_rea)) ?_
    refine WS_det hF (by rfl) (y_move (c := .tuple _) (by rfl)) ?_
    refine WS_det hF (by rfl) (y_extract (c := .agg _) (by rfl) (by rfl)) ?_
    refine WS_det hF (by rfl) (y_extract (c := .int .i64 _) (by rfl) (by rfl)) ?_
    refine WS_new hF (by rfl) (y_alloc Try.zeroValue26 (by rfl)) (fun b10 => ?_)
    refine WS_store hF (i := 0) (by rfl) (by rfl) Try.sizeOf26 (by rfl) (by rfl) (by rfl) (by first | decide | exact Nat.le_of_ble_eq_true rfl | simp) ?_
    refine WS_det hF (by rfl) (y_assign (c := .int .i64 _) (by rfl)) ?_
    refine WS_nil ?_
    refine Then_normal ?_
    refine W_seq ?_
    refine W_region_lit (fun ds => ?_)
    refine WS_gen hF (by rfl) (y_callL (by rfl) (by rfl) Try.call62 (fun w hw => log_any w)) ?_
    rintro _ _ ⟨a1, cap1, ae1, cape1, Hp, He, rfl, hrp, hre, rfl⟩
    refine WS_back ?_
    refine WS_det hF (by rfl) (y_callL (by rfl) (by rfl) Try.call37 (fun w hw => Ct_eq (room_any logL _ _ _ _ w (by decide) (NewRow.ints hrp rfl sbA w hw) (NewRow.rws en_len hre rfl sbA w hw)) k_roo)) ?_
    refine WS_det hF (by rfl) (y_move (c := .tuple _) (by rfl)) ?_
    refine WS_det hF (by rfl) (y_extract (c := .agg _) (by rfl) (by rfl)) ?_
    refine WS_det hF (by rfl) (y_extract (c := .int .i64 _) (by rfl) (by rfl)) ?_
    refine WS_new hF (by rfl) (y_alloc Try.zeroValue26 (by rfl)) (fun b11 => ?_)
    refine WS_store hF (i := 0) (by rfl) (by rfl) Try.sizeOf26 (by rfl) (by rfl) (by rfl) (by first | decide | exact Nat.le_of_ble_eq_true rfl | simp) ?_
    refine WS_det hF (by rfl) (y_assign (c := .int .i64 _) (by rfl)) ?_
    refine WS_nil ?_
    refine Then_normal ?_
    refine W_seq ?_
    refine W_region_lit (fun ds => ?_)
    refine WS_gen hF (by rfl) (y_callL (by rfl) (by rfl) Try.call62 (fun w hw => log_any w)) ?_
    rintro _ _ ⟨a1, cap1, ae1, cape1, Hp, He, rfl, hrp, hre, rfl⟩
    refine WS_back ?_
    refine WS_det hF (by rfl) (y_callL (by rfl) (by rfl) Try.call39 (fun w hw => Ct_eq (ask_any logL _ _ _ _ w (by decide) (NewRow.ints hrp rfl sbA w hw) (NewRow.rws en_len hre rfl sbA w hw)) k_ask)) ?_
    refine WS_det hF (by rfl) (y_move (c := .tuple _) (by rfl)) ?_
    refine WS_det hF (by rfl) (y_extract (c := .int .i64 _) (by rfl) (by rfl)) ?_
    refine WS_det hF (by rfl) (y_extract (c := .int .i64 _) (by rfl) (by rfl)) ?_
    refine WS_det hF (by rfl) (y_extract (c := .int .i64 _) (by rfl) (by rfl)) ?_
    refine WS_det hF (by rfl) (y_assign (c := .int .i64 _) (by rfl)) ?_
    refine WS_det hF (by rfl) (y_assign (c := .int .i64 _) (by rfl)) ?_
    refine WS_det hF (by rfl) (y_assign (c := .int .i64 _) (by rfl)) ?_
    refine WS_nil ?_
    refine Then_normal ?_
    refine W_seq ?_
    refine W_region_lit (fun ds => ?_)
    refine WS_gen hF (by rfl) (y_callL (by rfl) (by rfl) Try.call62 (fun w hw => log_any w)) ?_
    rintro _ _ ⟨a1, cap1, ae1, cape1, Hp, He, rfl, hrp, hre, rfl⟩
    refine WS_back ?_
    refine WS_det hF (by rfl) (y_callL (by rfl) (by rfl) Try.call60 (fun w hw => lentry_any _ _ _ _ w)) ?_
    refine WS_gen hF (by rfl) (y_callL (by rfl) (by rfl) Try.call26 (fun w hw => add_any logL _ _ _ _ oddX w (by decide) (NewRow.ints hrp rfl sbA w hw) (NewRow.rws en_len hre rfl sbA w hw))) ?_
    rintro _ _ hT
    obtain ⟨_, rfl, _, hT2⟩ := hT
    obtain ⟨o1, oc1, o2, oc2, Ho1, Ho2, rfl, ho1, ho2, rfl⟩ := hT2 k_add
    rw [k_add]
    refine WS_back ?_
    refine WS_det hF (by rfl) (y_move (c := .tuple _) (by rfl)) ?_
    refine WS_det hF (by rfl) (y_extract (c := .agg _) (by rfl) (by rfl)) ?_
    refine WS_det hF (by rfl) (y_extract (c := .int .i64 _) (by rfl) (by rfl)) ?_
    refine WS_new hF (by rfl) (y_alloc Try.zeroValue46 (by rfl)) (fun b12 => ?_)
    refine WS_store hF (i := 0) (by rfl) (by rfl) Try.sizeOf46 (by rfl) (by rfl) (by rfl) (by first | decide | exact Nat.le_of_ble_eq_true rfl | simp) ?_
    refine WS_det hF (by rfl) (y_assign (c := .int .i64 _) (by rfl)) ?_
    refine WS_nil ?_
    refine Then_normal ?_
    refine W_seq ?_
    refine W_seq ?_
    refine W_draw0 hF Trymixed [] (by decide +kernel) (fun ds => ?_)
    refine P_det (by rfl) (Over_nil (y_move (c := .int .i64 _) (by rfl))) ?_
    refine P_det (by rfl) (Over_nil (y_neqF (by rfl) (by rfl))) ?_
    refine P_det (by rfl) (Over_nil (y_move (c := .bool _) (by rfl))) ?_
    refine P_det (by rfl) (Over_nil (y_move (c := .int .u8 _) (by rfl))) ?_
    refine P_det (by rfl) (Over_nil (y_neqF (by rfl) (by rfl))) ?_
    refine P_det (by rfl) (Over_nil (by first | exact y_pick_t (c := .bool _) (by rfl) (by rfl) | exact y_pick_f (c := .bool _) (by rfl) (by rfl))) ?_
    refine P_det (by rfl) (Over_nil (y_move (c := .bool _) (by rfl))) ?_
    refine P_det (by rfl) (Over_nil (y_move (c := .int .i64 _) (by rfl))) ?_
    refine P_det (by rfl) (Over_nil (y_neqF (by rfl) (by rfl))) ?_
    refine P_det (by rfl) (Over_nil (by first | exact y_pick_t (c := .bool _) (by rfl) (by rfl) | exact y_pick_f (c := .bool _) (by rfl) (by rfl))) ?_
    refine P_det (by rfl) (Over_nil (y_move (c := .bool _) (by rfl))) ?_
    refine P_det (by rfl) (Over_nil (y_move (c := .int .i64 _) (by rfl))) ?_
    refine P_det (by rfl) (Over_nil (y_neqF (by rfl) (by rfl))) ?_
    refine P_det (by rfl) (Over_nil (by first | exact y_pick_t (c := .bool _) (by rfl) (by rfl) | exact y_pick_f (c := .bool _) (by rfl) (by rfl))) ?_
    refine P_det (by rfl) (Over_nil (y_move (c := .bool _) (by rfl))) ?_
    refine P_det (by rfl) (Over_nil (y_move (c := .int .i64 _) (by rfl))) ?_
    refine P_det (by rfl) (Over_nil (y_neqF (by rfl) (by rfl))) ?_
    refine P_det (by rfl) (Over_nil (by first | exact y_pick_t (c := .bool _) (by rfl) (by rfl) | exact y_pick_f (c := .bool _) (by rfl) (by rfl))) ?_
    refine P_det (by rfl) (Over_nil (y_move (c := .bool _) (by rfl))) ?_
    refine P_det (by rfl) (Over_nil (y_loadN (by rfl) Try.isAgg26 Try.sizeOf26 (Mem.own (us := [.int .i64 _, .int .i64 _]) 2 (by rfl) (by rfl)) (by rfl))) ?_
    refine P_det (by rfl) (Over_nil (y_callL (by rfl) (by rfl) Try.call58 (fun w hw => lspan_any _ _ w))) ?_
    refine P_det (by rfl) (Over_nil (y_neqlAF (by rfl) (by rfl) neqA26 (by simp only [ieq_self, Bool.and_self, Bool.not_true]))) ?_
    refine P_det (by rfl) (Over_nil (by first | exact y_pick_t (c := .bool _) (by rfl) (by rfl) | exact y_pick_f (c := .bool _) (by rfl) (by rfl))) ?_
    refine P_det (by rfl) (Over_nil (y_move (c := .bool _) (by rfl))) ?_
    refine P_det (by rfl) (Over_nil (y_move (c := .int .i64 _) (by rfl))) ?_
    refine P_det (by rfl) (Over_nil (y_neqF (by rfl) (by rfl))) ?_
    refine P_det (by rfl) (Over_nil (by first | exact y_pick_t (c := .bool _) (by rfl) (by rfl) | exact y_pick_f (c := .bool _) (by rfl) (by rfl))) ?_
    refine P_det (by rfl) (Over_nil (y_move (c := .bool _) (by rfl))) ?_
    refine P_det (by rfl) (Over_nil (y_loadN (by rfl) Try.isAgg26 Try.sizeOf26 (Mem.own (us := [.int .i64 _, .int .i64 _]) 1 (by rfl) (by rfl)) (by rfl))) ?_
    refine P_det (by rfl) (Over_nil (y_callL (by rfl) (by rfl) Try.call58 (fun w hw => lspan_any _ _ w))) ?_
    refine P_det (by rfl) (Over_nil (y_neqlAF (by rfl) (by rfl) neqA26 (by simp only [ieq_self, Bool.and_self, Bool.not_true]))) ?_
    refine P_det (by rfl) (Over_nil (by first | exact y_pick_t (c := .bool _) (by rfl) (by rfl) | exact y_pick_f (c := .bool _) (by rfl) (by rfl))) ?_
    refine P_det (by rfl) (Over_nil (y_move (c := .bool _) (by rfl))) ?_
    refine P_det (by rfl) (Over_nil (y_move (c := .int .i64 _) (by rfl))) ?_
    refine P_det (by rfl) (Over_nil (y_neqF (by rfl) (by rfl))) ?_
    refine P_det (by rfl) (Over_nil (by first | exact y_pick_t (c := .bool _) (by rfl) (by rfl) | exact y_pick_f (c := .bool _) (by rfl) (by rfl))) ?_
    refine P_det (by rfl) (Over_nil (y_move (c := .bool _) (by rfl))) ?_
    refine P_det (by rfl) (Over_nil (y_move (c := .int .i64 _) (by rfl))) ?_
    refine P_det (by rfl) (Over_nil (y_neqF (by rfl) (by rfl))) ?_
    refine P_det (by rfl) (Over_nil (by first | exact y_pick_t (c := .bool _) (by rfl) (by rfl) | exact y_pick_f (c := .bool _) (by rfl) (by rfl))) ?_
    refine P_det (by rfl) (Over_nil (y_move (c := .bool _) (by rfl))) ?_
    refine P_det (by rfl) (Over_nil (y_move (c := .int .i64 _) (by rfl))) ?_
    refine P_det (by rfl) (Over_nil (y_neqF (by rfl) (by rfl))) ?_
    refine P_det (by rfl) (Over_nil (by first | exact y_pick_t (c := .bool _) (by rfl) (by rfl) | exact y_pick_f (c := .bool _) (by rfl) (by rfl))) ?_
    refine P_det (by rfl) (Over_nil (y_move (c := .bool _) (by rfl))) ?_
    refine P_det (by rfl) (Over_nil (y_move (c := .int .i64 _) (by rfl))) ?_
    refine P_det (by rfl) (Over_nil (y_neqF (by rfl) (by rfl))) ?_
    refine P_det (by rfl) (Over_nil (by first | exact y_pick_t (c := .bool _) (by rfl) (by rfl) | exact y_pick_f (c := .bool _) (by rfl) (by rfl))) ?_
    refine PW_end (by rfl) ?_
    refine OverAll_nil ?_
    rintro -
    refine Then_normal ?_
    refine W_cond (by rfl) (fun c17 => ?_) (fun c17 => ?_)
    · cases c17
    ·
      try simp only [Bool.not_eq_true', Bool.not_eq_false', decide_eq_true_eq, decide_eq_false_iff_not, ne_eq, Classical.not_not, Int.not_lt, Int.not_le] at c17
      refine W_skip ?_
      refine Then_normal ?_
      refine W_seq ?_
      refine W_region_lit (fun ds => ?_)
      refine WS_det hF (by rfl) (y_loadN (by rfl) Try.isAgg46 Try.sizeOf46 (Mem.own (us := [.slice _ _ _, .int .i64 _, .int .i64 _, .int .i64 _, .int .i64 _, .slice _ _ _]) 0 (by rfl) (by rfl)) (by rfl)) ?_
      refine WS_gen hF (by rfl) (y_callL (by rfl) (by rfl) Try.call24 (fun w hw => wrong_any oddL _ _ _ _ w (by decide) (NewRow.ints ho1 rfl sbA w hw) (NewRow.rws en_len ho2 rfl sbA w hw))) ?_
      rintro _ Ha hTa
      obtain ⟨wa, wcap, rfl, hwa⟩ := WrongV.ints hTa
      rw [k_wrL, k_wrE] at *
      refine WS_back ?_
      refine WS_det hF (by rfl) (y_move (c := .tuple _) (by rfl)) ?_
      refine WS_det hF (by rfl) (y_extract (c := .slice _ _ _) (by rfl) (by rfl)) ?_
      refine WS_det hF (by rfl) (y_extract (c := .int .i64 _) (by rfl) (by rfl)) ?_
      refine WS_det hF (by rfl) (y_assign (c := .slice _ _ _) (by rfl)) ?_
      refine WS_det hF (by rfl) (y_assign (c := .int .i64 _) (by rfl)) ?_
      refine WS_nil ?_
      refine Then_normal ?_
      refine W_seq ?_
      refine W_region_lit (fun ds => ?_)
      refine WS_det hF (by rfl) (y_loadN (by rfl) Try.isAgg46 Try.sizeOf46 (Mem.own (us := [.slice _ _ _, .int .i64 _, .int .i64 _, .int .i64 _, .int .i64 _, .slice _ _ _]) 0 (by rfl) (by rfl)) (by rfl)) ?_
      refine WS_gen hF (by rfl) (y_callL (by rfl) (by rfl) Try.call41 (fun w hw => truth_any oddL _ _ _ _ w (by decide) (NewRow.ints ho1 rfl sbA w hw) (NewRow.rws en_len ho2 rfl sbA w hw))) ?_
      rintro _ _ hTb
      obtain ⟨rfl, rfl⟩ := hTb.1 (by rw [k_odd]; decide)
      rw [k_odd]
      refine WS_det hF (by rfl) (y_move (c := .tuple _) (by rfl)) ?_
      refine WS_det hF (by rfl) (y_extract (c := .slice _ _ _) (by rfl) (by rfl)) ?_
      refine WS_det hF (by rfl) (y_extract (c := .int .i64 _) (by rfl) (by rfl)) ?_
      refine WS_det hF (by rfl) (y_assign (c := .int .i64 _) (by rfl)) ?_
      refine WS_nil ?_
      refine Then_normal ?_
      refine W_seq ?_
      refine W_region_lit (fun ds => ?_)
      refine WS_det hF (by rfl) (y_move (c := .int .i64 _) (by rfl)) ?_
      refine WS_det hF (by rfl) (y_eqlT (by rfl) (by rfl)) ?_
      refine WS_det hF (by rfl) (y_move (c := .bool _) (by rfl)) ?_
      refine WS_det hF (by rfl) (y_move (c := .slice _ _ _) (by rfl)) ?_
      refine WS_newS hF (by rfl) (y_buildSliceL bs22_1_0 (by rfl)) (fun b13 => ?_)
      refine WS_det hF (by rfl) (y_callL (by rfl) (by rfl) Try.call21 (fun w hw => Ct_eq (c' := .bool true) (sameInts_any _ _ _ _ _ _ [5] [5] w (by decide) (hwa _ _ w sbA hw) (Ints.mem (rest := []) 0 (by rfl) (by rfl) (by decide) w hw)) (by simp))) ?_
      refine WS_det hF (by rfl) (by first | exact y_pick_t (c := .bool _) (by rfl) (by rfl) | exact y_pick_f (c := .bool _) (by rfl) (by rfl)) ?_
      refine WS_det hF (by rfl) (y_move (c := .bool _) (by rfl)) ?_
      refine WS_det hF (by rfl) (y_move (c := .int .i64 _) (by rfl)) ?_
      refine WS_det hF (by rfl) (y_eqlT (by rfl) (by rfl)) ?_
      refine WS_det hF (by rfl) (by first | exact y_pick_t (c := .bool _) (by rfl) (by rfl) | exact y_pick_f (c := .bool _) (by rfl) (by rfl)) ?_
      refine WS_det hF (by rfl) (y_assign (c := .bool _) (by rfl)) ?_
      refine WS_nil ?_
      refine Then_normal ?_
      refine W_ret ?_
      refine Fin_ret [.bool _] [] Try.results53 ⟨by rfl, trivial⟩ HSub.nil ?_
      rfl
end Go.Proofs.Ythkimgfgpphgnaa.T

/- What the last examples come to: by the kernel's own run. -/
namespace Go.Proofs.Ythkimgfgpphgnaa.T
open Go.RowKit Go.Proofs Go.Eng
set_option maxRecDepth 100000

def wantC : List Value := [.int .i64 23, .int .i64 40, .int .i64 38, .int .i64 51, .int .i64 38, .int .i64 45, .int .i64 20, .int .i64 30, .int .i64 20, .int .i64 30]
theorem e_want : ∀ k, k < 5 → ∃ lo hi rest, List.drop (0 + k * 2) wantC = [.int .i64 lo, .int .i64 hi] ++ rest ∧ logL.holdsV (k : Int) = .tuple #[.agg #[.int .i64 lo, .int .i64 hi], .int .i64 0] := fun k hk => by
  obtain rfl | rfl | rfl | rfl | rfl : k = 0 ∨ k = 1 ∨ k = 2 ∨ k = 3 ∨ k = 4 := by omega
  · exact ⟨23, 40, _, rfl, by kernel_rfl⟩
  · exact ⟨38, 51, _, rfl, by kernel_rfl⟩
  · exact ⟨38, 45, _, rfl, by kernel_rfl⟩
  · exact ⟨20, 30, _, rfl, by kernel_rfl⟩
  · exact ⟨20, 30, [], rfl, by kernel_rfl⟩
theorem e_vol : tunT.volume 12 = .tuple #[.agg #[.int .i64 20, .int .i64 1], .int .i64 0] := by kernel_rfl
theorem e_eig : tunT.eighthV 45 3 = .tuple #[.agg #[.int .i64 20, .int .i64 1], .int .i64 0] := by kernel_rfl
theorem e_lb : tunT.Lb 45 3 := ⟨by decide, fun k hk => by
  obtain rfl | rfl | rfl : k = 0 ∨ k = 1 ∨ k = 2 := by omega
  all_goals decide, fun k h1 h2 => by
  have : k < 5 := h2
  obtain rfl | rfl : k = 3 ∨ k = 4 := by omega
  all_goals decide⟩
theorem e_mov : logL.movedV 1 = .tuple #[.agg #[.int .i64 10, .int .i64 15], .int .i64 0] := by kernel_rfl
theorem e_sy : logL.sureV 20 = .tuple #[.int .u8 2, .int .i64 0] := by kernel_rfl
theorem e_sn : logL.sureV 31 = .tuple #[.int .u8 0, .int .i64 0] := by kernel_rfl
theorem e_wrL : logL.wrL = [] := by kernel_rfl
theorem e_wrE : logL.wrE = 0 := by kernel_rfl
def lessL : Lg := ⟨tunT, ⟨20, 40⟩, [⟨3, 3, ⟨18, 20⟩⟩, ⟨5, 3, ⟨12, 16⟩⟩]⟩
theorem e_strE : logL.strE [1, 3] = 0 := by kernel_rfl
theorem e_less : logL.wo [1, 3] = lessL := by kernel_rfl
def oddP : Lg := ⟨⟨[0, 10, 10, 60, 100], 2, 8⟩, ⟨20, 40⟩, logL.es⟩
def lateL : Lg := ⟨tunT, ⟨20, 40⟩, [⟨4, 1, ⟨10, 15⟩⟩, ⟨3, 3, ⟨18, 20⟩⟩, ⟨5, 2, ⟨10, 20⟩⟩, ⟨5, 3, ⟨12, 16⟩⟩]⟩
def stillL : Lg := ⟨tunT, ⟨20, 20⟩, [⟨0, 1, ⟨10, 10⟩⟩]⟩
def dipX : En := ⟨5, 3, ⟨12, 16⟩⟩
def fullL : Nat → Lg
  | 0 => logL
  | k + 1 => (fullL k).put dipX
theorem full_tk (k : Nat) : (fullL k).tk = tunT ∧ (fullL k).start = ⟨20, 40⟩ ∧ (fullL k).es.length = 4 + k := by
  induction k with
  | zero => exact ⟨rfl, rfl, rfl⟩
  | succ k ih => exact ⟨ih.1, ih.2.1, by show ((fullL k).put dipX).es.length = _; rw [Lg.put_len, ih.2.2]; omega⟩
theorem full_row (k : Nat) : rowOf En.cells (fullL (k + 1)).e (4 + k + 1) = rowOf En.cells (fullL k).e (4 + k) ++ dipX.cells := by
  have h := Lg.put_row (fullL k) dipX
  rw [(full_tk k).2.2] at h
  exact h
theorem full_12 : 12 = (fullL 8).es.length := by kernel_rfl
theorem f_vol : tunT.volume 33 = .tuple #[.agg #[.int .i64 0, .int .i64 0], .int .i64 2] := by kernel_rfl
theorem f_lb : tunT.Lb 101 5 := ⟨by decide, fun k hk => by
  obtain rfl | rfl | rfl | rfl | rfl : k = 0 ∨ k = 1 ∨ k = 2 ∨ k = 3 ∨ k = 4 := by omega
  all_goals decide, fun k h1 h2 => by
  have : k < 5 := h2
  omega⟩
theorem f_eig : tunT.eighthV 101 5 = .tuple #[.agg #[.int .i64 0, .int .i64 0], .int .i64 2] := by kernel_rfl
theorem f_rn1 : tunT.range 9 9 = .tuple #[.agg #[.int .i64 0, .int .i64 0], .int .i64 6] := by kernel_rfl
theorem f_rn2 : tunT.range 9 33 = .tuple #[.agg #[.int .i64 0, .int .i64 0], .int .i64 2] := by kernel_rfl
theorem f_odd : oddP.aerr = 30 := by kernel_rfl
theorem f_late : lateL.aerr = 31 := by kernel_rfl
theorem f_hol : logL.holdsV 5 = .tuple #[.agg #[.int .i64 0, .int .i64 0], .int .i64 2] := by kernel_rfl
theorem f_mov : logL.movedV 2 = .tuple #[.agg #[.int .i64 0, .int .i64 0], .int .i64 2] := by kernel_rfl
theorem f_los : logL.lostV 4 = .tuple #[.agg #[.int .i64 0, .int .i64 0], .int .i64 2] := by kernel_rfl
theorem f_whe : logL.whenV 60 = .tuple #[.int .i64 0, .int .i64 6] := by kernel_rfl
theorem f_sur : logL.sureV 101 = .tuple #[.int .u8 0, .int .i64 2] := by kernel_rfl
theorem f_full : (fullL 8).addE ⟨0, 0, ⟨0, 0⟩⟩ = 9 := by kernel_rfl
theorem f_add : logL.addE ⟨4, 3, ⟨12, 16⟩⟩ = 32 := by kernel_rfl
theorem f_str : logL.strE [3, 1] = 32 := by kernel_rfl
theorem f_ask : stillL.askV = .tuple #[.int .i64 0, .int .i64 0, .int .i64 6] := by kernel_rfl
theorem f_chk : Value.int .i64 (if oddP.tk.okB then 0 else 30) = .int .i64 30 := by kernel_rfl
theorem f_val : lateL.err = 31 := by kernel_rfl
theorem f_ok : logL.err = 0 := by kernel_rfl
/-- A row that is told, at the head of a block. -/
theorem NewRow.head {T : TypeId} {sz m cap : Nat} {us : List Value} {a : Option Addr} {Hn : List Blk} (h : NewRow T sz m us (.slice a m cap) Hn) (h0 : 0 < m) : ∃ b junk, a = some ⟨b, 0, none⟩ ∧ Hn = [(b, CB (us ++ junk) T)] ∧ (us ++ junk).length = cap * sz ∧ m ≤ cap := by
  obtain ⟨a', cap', hv, hle, ⟨_, b, junk, rfl, rfl, hlen⟩ | ⟨h1, _⟩⟩ := h
  · cases hv; exact ⟨b, junk, rfl, rfl, hlen, hle⟩
  · omega
theorem NewRow.mk {T : TypeId} {sz m cap : Nat} {us ws : List Value} {b : Nat} {junk : List Value} (hw : ws = us ++ junk) (hl : ws.length = cap * sz) (hle : m ≤ cap) (h0 : 0 < m) : NewRow T sz m us (.slice (some ⟨b, 0, none⟩) m cap) [(b, CB ws T)] :=
  ⟨_, _, rfl, hle, .inl ⟨h0, b, junk, rfl, by rw [hw], by rw [← hw]; exact hl⟩⟩
theorem Row.newRowE {T : TypeId} {sz n cap : Nat} {us : List Value} {a : Option Addr} {Hn : List Blk} (h : Row T sz a n cap us Hn) (h0 : 0 < n) : NewRow T sz n us (.slice a n cap) Hn := by
  rcases h with ⟨_, h1, _⟩ | ⟨b, junk, rfl, rfl, _, hlen, hle⟩
  · omega
  · exact ⟨_, _, rfl, hle, .inl ⟨h0, b, junk, rfl, rfl, hlen⟩⟩
theorem full_new {T : TypeId} {cap : Nat} {a : Option Addr} {Hn : List Blk} (h : Row T 4 a (4 + 8) cap (rowOf En.cells (fullL 8).e (4 + 8)) Hn) : NewRow T 4 (fullL 8).es.length (rowOf En.cells (fullL 8).e (fullL 8).es.length) (.slice a (fullL 8).es.length cap) Hn := by
  rw [← full_12]; exact Row.newRowE h (by decide)
end Go.Proofs.Ythkimgfgpphgnaa.T

/- append onto a full slice: a new row. No project text. -/
namespace Go.Eng
open Go.RowKit
section
variable {C : Ctx} {e : Env} {H : List Blk} {d : Option Tmp} {ty : TypeId} {pos : String} {af : Array Edge} {g : Option (Nat × Bool)}
end
end Go.Eng
namespace Go.Eng
end Go.Eng

/- The chapter's examples: the law walked. -/
namespace Go.Proofs.Ythkimgfgpphgnaa.T
open Go.RowKit Go.Proofs Go.Eng
set_option maxRecDepth 100000
set_option maxHeartbeats 8000000
set_option linter.unusedVariables false
set_option linter.unusedSimpArgs false

theorem bd48  : ∀ w, (Instr.build 48 #[]).run Try.prog w = .ok (.agg #[.int .i64 0, .int .i64 0, .int .i64 0, .int .i64 0]) w := fun w => by kernel_rfl
theorem bs90_5_0_1_2_3_4 {x0_0 : Int} {x0_1 : Int} {x1_0 : Int} {x1_1 : Int} {x2_0 : Int} {x2_1 : Int} {x3_0 : Int} {x3_1 : Int} {x4_0 : Int} {x4_1 : Int} : ∀ w, (Instr.buildSlice 90 5 #[(0, .agg #[.int .i64 x0_0, .int .i64 x0_1]), (1, .agg #[.int .i64 x1_0, .int .i64 x1_1]), (2, .agg #[.int .i64 x2_0, .int .i64 x2_1]), (3, .agg #[.int .i64 x3_0, .int .i64 x3_1]), (4, .agg #[.int .i64 x4_0, .int .i64 x4_1])]).run Try.prog w = .ok (.slice (some ⟨w.heap.size, 0, none⟩) 5 5) (w.alloc (CB [.int .i64 x0_0, .int .i64 x0_1, .int .i64 x1_0, .int .i64 x1_1, .int .i64 x2_0, .int .i64 x2_1, .int .i64 x3_0, .int .i64 x3_1, .int .i64 x4_0, .int .i64 x4_1] 26)) := fun w => by kernel_rfl

theorem shift_hi {b sz cap h : Nat} (hc : 1 ≤ cap) : Value.slice (shiftA (some ⟨b, 0, none⟩) 0 sz cap) h cap = .slice (some ⟨b, 0, none⟩) h cap := by
  unfold shiftA
  rw [if_neg (by omega)]
  simp [addr_add]

theorem tankExamples_any (w : World) : Ct Try.prog 10 #[] w fun v _ => v = .bool true := by
  have hF := wide_wide
  refine Ct_start (args := []) Try.func10 (by rfl) Try.ntmps10 (by rfl) ?_
  refine W_seq ?_
  refine W_region_lit (fun ds => ?_)
  refine WS_det hF (by rfl) (y_assign (c := .bool _) (by rfl)) ?_
  refine WS_nil ?_
  refine Then_normal ?_
  refine W_seq ?_
  refine W_seq ?_
  refine W_region_lit (fun ds => ?_)
  refine WS_det hF (by rfl) (y_move (c := .bool _) (by rfl)) ?_
  refine WS_det hF (by rfl) (y_callL (by rfl) (by rfl) Try.call53 (fun w hw => alive_any w)) ?_
  refine WS_det hF (by rfl) (y_not (by rfl)) ?_
  refine WS_det hF (by rfl) (by first | exact y_pick_t (c := .bool _) (by rfl) (by rfl) | exact y_pick_f (c := .bool _) (by rfl) (by rfl)) ?_
  refine WS_nil ?_
  refine Then_normal ?_
  refine W_cond (by rfl) (fun c1 => ?_) (fun c1 => ?_)
  · cases c1
  ·
    try simp only [Bool.not_eq_true', Bool.not_eq_false', decide_eq_true_eq, decide_eq_false_iff_not, ne_eq, Classical.not_not, Int.not_lt, Int.not_le] at c1
    refine W_skip ?_
    refine Then_normal ?_
    refine W_seq ?_
    refine W_seq ?_
    refine W_region_lit (fun ds => ?_)
    refine WS_det hF (by rfl) (y_callL (by rfl) (by rfl) Try.call58 (fun w hw => lspan_any _ _ w)) ?_
    refine WS_det hF (by rfl) (y_callL (by rfl) (by rfl) Try.call58 (fun w hw => lspan_any _ _ w)) ?_
    refine WS_det hF (by rfl) (y_callL (by rfl) (by rfl) Try.call58 (fun w hw => lspan_any _ _ w)) ?_
    refine WS_det hF (by rfl) (y_callL (by rfl) (by rfl) Try.call58 (fun w hw => lspan_any _ _ w)) ?_
    refine WS_det hF (by rfl) (y_callL (by rfl) (by rfl) Try.call58 (fun w hw => lspan_any _ _ w)) ?_
    refine WS_newS hF (by rfl) (y_buildSliceL bs90_5_0_1_2_3_4 (by rfl)) (fun b1 => ?_)
    refine WS_det hF (by rfl) (y_len (by rfl) Try.runUnderlying90) ?_
    refine WS_det hF (by rfl) (y_move (c := .int .i64 _) (by rfl)) ?_
    refine WS_nil ?_
    refine Then_normal ?_
    refine W_block ?_
    refine W_loop (γ := Nat) (fun k => k ≤ 5) (fun k => [(49, .slice (some ⟨b1, 0, none⟩) 5 5), (50, .int .i64 5), (51, .int .i64 (k : Int))]) (fun _ => [(b1, CB wantC 26)]) (fun k => 5 - k) (0) (by decide) (by repeat (first | exact trivial | refine ⟨by rfl, ?_⟩)) (sbA) ?_
    rintro k e hk
    refine W_seq ?_
    refine W_region_lit (fun ds => ?_)
    refine WS_det hF (by rfl) (y_lss (by rfl) (by rfl)) ?_
    refine WS_nil ?_
    refine Then_normal ?_
    refine W_seq ?_
    refine W_cond (by rfl) (fun c4 => ?_) (fun c4 => ?_)
    ·
      try simp only [Bool.not_eq_true', Bool.not_eq_false', decide_eq_true_eq, decide_eq_false_iff_not, ne_eq, Classical.not_not, Int.not_lt, Int.not_le] at c4
      obtain ⟨lo, hi, rest, hz, hol⟩ := e_want k (by omega)
      refine W_skip ?_
      refine Then_normal ?_
      refine W_seq ?_
      refine W_block ?_
      refine W_seq ?_
      refine W_region_lit (fun ds => ?_)
      refine WS_det hF (by rfl) (y_move (c := .int .i64 _) (by rfl)) ?_
      refine WS_det hF (by rfl) (y_index (k := k) (by rfl) (by rfl) (by first | rfl | omega) (by first | decide | omega) Try.runUnderlying90 Try.sizeOf26) ?_
      refine WS_det hF (by rfl) (y_loadN (by rfl) Try.isAgg26 Try.sizeOf26 (Mem.own (us := [.int .i64 lo, .int .i64 hi]) 0 (by rfl) hz) (by rfl)) ?_
      refine WS_new hF (by rfl) (y_alloc Try.zeroValue26 (by rfl)) (fun b2 => ?_)
      refine WS_det hF (by rfl) (y_assign (c := .int .i64 _) (by rfl)) ?_
      refine WS_store hF (us := [.int .i64 _, .int .i64 _]) (i := 0) (by rfl) (by rfl) Try.sizeOf26 (by rfl) (by rfl) (by rfl) (by first | decide | exact Nat.le_of_ble_eq_true rfl | simp) ?_
      refine WS_nil ?_
      refine Then_normal ?_
      refine W_seq ?_
      refine W_region_lit (fun ds => ?_)
      refine WS_gen hF (by rfl) (y_callL (by rfl) (by rfl) Try.call62 (fun w hw => log_any w)) ?_
      rintro _ _ ⟨a1, cap1, ae1, cape1, Hp, He, rfl, hrp, hre, rfl⟩
      refine WS_back ?_
      refine WS_det hF (by rfl) (y_move (c := .int .i64 _) (by rfl)) ?_
      refine WS_det hF (by rfl) (y_callL (by rfl) (by rfl) Try.call43 (fun w hw => Ct_eq (holds_any logL _ _ _ _ (k : Int) w (by decide) (NewRow.ints hrp rfl sbA w hw) (NewRow.rws en_len hre rfl sbA w hw)) hol)) ?_
      refine WS_det hF (by rfl) (y_move (c := .tuple _) (by rfl)) ?_
      refine WS_det hF (by rfl) (y_extract (c := .agg _) (by rfl) (by rfl)) ?_
      refine WS_det hF (by rfl) (y_extract (c := .int .i64 _) (by rfl) (by rfl)) ?_
      refine WS_new hF (by rfl) (y_alloc Try.zeroValue26 (by rfl)) (fun b3 => ?_)
      refine WS_store hF (us := [.int .i64 _, .int .i64 _]) (i := 0) (by rfl) (by rfl) Try.sizeOf26 (by rfl) (by rfl) (by rfl) (by first | decide | exact Nat.le_of_ble_eq_true rfl | simp) ?_
      refine WS_det hF (by rfl) (y_assign (c := .int .i64 _) (by rfl)) ?_
      refine WS_nil ?_
      refine Then_normal ?_
      refine W_seq ?_
      refine W_region_lit (fun ds => ?_)
      refine WS_det hF (by rfl) (y_move (c := .int .i64 _) (by rfl)) ?_
      refine WS_det hF (by rfl) (y_neqF (by rfl) (by rfl)) ?_
      refine WS_det hF (by rfl) (y_move (c := .bool _) (by rfl)) ?_
      refine WS_det hF (by rfl) (y_loadN (by rfl) Try.isAgg26 Try.sizeOf26 (Mem.own (us := [.int .i64 _, .int .i64 _]) 0 (by rfl) (by rfl)) (by rfl)) ?_
      refine WS_det hF (by rfl) (y_loadN (by rfl) Try.isAgg26 Try.sizeOf26 (Mem.own (us := [.int .i64 _, .int .i64 _]) 1 (by rfl) (by rfl)) (by rfl)) ?_
      refine WS_det hF (by rfl) (y_neqlAF (by rfl) (by rfl) neqA26 (by simp only [ieq_self, Bool.and_self, Bool.not_true])) ?_
      refine WS_det hF (by rfl) (by first | exact y_pick_t (c := .bool _) (by rfl) (by rfl) | exact y_pick_f (c := .bool _) (by rfl) (by rfl)) ?_
      refine WS_nil ?_
      refine Then_normal ?_
      refine W_cond (by rfl) (fun c7 => ?_) (fun c7 => ?_)
      · cases c7
      ·
        try simp only [Bool.not_eq_true', Bool.not_eq_false', decide_eq_true_eq, decide_eq_false_iff_not, ne_eq, Classical.not_not, Int.not_lt, Int.not_le] at c7
        refine W_skip ?_
        refine InB_normal ?_
        refine Then_normal ?_
        refine W_region_lit (fun ds => ?_)
        refine WS_det hF (by rfl) (y_add (by rfl) (by rfl) (by unfold I64; omega)) ?_
        refine WS_det hF (by rfl) (y_move (c := .int .i64 _) (by rfl)) ?_
        refine WS_nil ?_
        exact Loop_next (k + 1) (by omega) (by repeat (first | exact trivial | refine ⟨by rfl, ?_⟩)) sbA (by omega)
    ·
      try simp only [Bool.not_eq_true', Bool.not_eq_false', decide_eq_true_eq, decide_eq_false_iff_not, ne_eq, Classical.not_not, Int.not_lt, Int.not_le] at c4
      refine W_exit ?_
      refine Then_exit ?_
      refine Loop_exit ?_
      refine InB_same ?_
      refine Then_normal ?_
      refine W_seq ?_
      refine W_region_lit (fun ds => ?_)
      refine WS_gen hF (by rfl) (y_callL (by rfl) (by rfl) Try.call63 (fun w hw => tun_any w)) ?_
      rintro _ Ht ⟨ta, tcap, rfl, hrt⟩
      refine WS_back ?_
      refine WS_det hF (by rfl) (y_callL (by rfl) (by rfl) Try.call13 (fun w hw => Ct_eq (volume_any tunT _ _ 12 w (by decide) (NewRow.ints hrt rfl sbA w hw)) e_vol)) ?_
      refine WS_det hF (by rfl) (y_move (c := .tuple _) (by rfl)) ?_
      refine WS_det hF (by rfl) (y_extract (c := .agg _) (by rfl) (by rfl)) ?_
      refine WS_det hF (by rfl) (y_extract (c := .int .i64 _) (by rfl) (by rfl)) ?_
      refine WS_new hF (by rfl) (y_alloc Try.zeroValue30 (by rfl)) (fun b4 => ?_)
      refine WS_store hF (us := [.int .i64 _, .int .i64 _]) (i := 0) (by rfl) (by rfl) Try.sizeOf30 (by rfl) (by rfl) (by rfl) (by first | decide | exact Nat.le_of_ble_eq_true rfl | simp) ?_
      refine WS_det hF (by rfl) (y_assign (c := .int .i64 _) (by rfl)) ?_
      refine WS_nil ?_
      refine Then_normal ?_
      refine W_seq ?_
      refine W_region_lit (fun ds => ?_)
      refine WS_gen hF (by rfl) (y_callL (by rfl) (by rfl) Try.call63 (fun w hw => tun_any w)) ?_
      rintro _ Ht ⟨ta, tcap, rfl, hrt⟩
      refine WS_back ?_
      refine WS_det hF (by rfl) (y_callL (by rfl) (by rfl) Try.call15 (fun w hw => Ct_eq (eighth_any tunT _ _ 45 3 w (by decide) (NewRow.ints hrt rfl sbA w hw) (fun _ => e_lb)) e_eig)) ?_
      refine WS_det hF (by rfl) (y_move (c := .tuple _) (by rfl)) ?_
      refine WS_det hF (by rfl) (y_extract (c := .agg _) (by rfl) (by rfl)) ?_
      refine WS_det hF (by rfl) (y_extract (c := .int .i64 _) (by rfl) (by rfl)) ?_
      refine WS_new hF (by rfl) (y_alloc Try.zeroValue30 (by rfl)) (fun b5 => ?_)
      refine WS_store hF (us := [.int .i64 _, .int .i64 _]) (i := 0) (by rfl) (by rfl) Try.sizeOf30 (by rfl) (by rfl) (by rfl) (by first | decide | exact Nat.le_of_ble_eq_true rfl | simp) ?_
      refine WS_det hF (by rfl) (y_assign (c := .int .i64 _) (by rfl)) ?_
      refine WS_nil ?_
      refine Then_normal ?_
      refine W_seq ?_
      refine W_region_lit (fun ds => ?_)
      refine WS_gen hF (by rfl) (y_callL (by rfl) (by rfl) Try.call62 (fun w hw => log_any w)) ?_
      rintro _ _ ⟨a1, cap1, ae1, cape1, Hp, He, rfl, hrp, hre, rfl⟩
      refine WS_back ?_
      refine WS_det hF (by rfl) (y_callL (by rfl) (by rfl) Try.call47 (fun w hw => Ct_eq (moved_any logL _ _ _ _ 1 w (by decide) (NewRow.ints hrp rfl sbA w hw) (NewRow.rws en_len hre rfl sbA w hw)) e_mov)) ?_
      refine WS_det hF (by rfl) (y_move (c := .tuple _) (by rfl)) ?_
      refine WS_det hF (by rfl) (y_extract (c := .agg _) (by rfl) (by rfl)) ?_
      refine WS_det hF (by rfl) (y_extract (c := .int .i64 _) (by rfl) (by rfl)) ?_
      refine WS_new hF (by rfl) (y_alloc Try.zeroValue26 (by rfl)) (fun b6 => ?_)
      refine WS_store hF (us := [.int .i64 _, .int .i64 _]) (i := 0) (by rfl) (by rfl) Try.sizeOf26 (by rfl) (by rfl) (by rfl) (by first | decide | exact Nat.le_of_ble_eq_true rfl | simp) ?_
      refine WS_det hF (by rfl) (y_assign (c := .int .i64 _) (by rfl)) ?_
      refine WS_nil ?_
      refine Then_normal ?_
      refine W_seq ?_
      refine W_keep [(5, .pointer _), (6, .int .i64 _), (7, .pointer _), (8, .int .i64 _), (9, .pointer _), (10, .int .i64 _)] (by repeat (first | exact trivial | refine ⟨by rfl, ?_⟩)) (fun e => ?_)
      refine W_region_lit (fun ds => ?_)
      refine WS_gen hF (by rfl) (y_callL (by rfl) (by rfl) Try.call62 (fun w hw => log_any w)) ?_
      rintro _ _ ⟨a1, cap1, ae1, cape1, Hp, He, rfl, hrp, hre, rfl⟩
      refine WS_back ?_
      refine WS_det hF (by rfl) (y_callL (by rfl) (by rfl) Try.call31 (fun w hw => Ct_eq (sure_any logL _ _ _ _ 20 w (by decide) (NewRow.ints hrp rfl sbA w hw) (NewRow.rws en_len hre rfl sbA w hw)) e_sy)) ?_
      refine WS_det hF (by rfl) (y_move (c := .tuple _) (by rfl)) ?_
      refine WS_det hF (by rfl) (y_extract (c := .int .u8 _) (by rfl) (by rfl)) ?_
      refine WS_det hF (by rfl) (y_extract (c := .int .i64 _) (by rfl) (by rfl)) ?_
      refine WS_det hF (by rfl) (y_assign (c := .int .u8 _) (by rfl)) ?_
      refine WS_det hF (by rfl) (y_assign (c := .int .i64 _) (by rfl)) ?_
      refine WS_nil ?_
      refine Then_normal ?_
      refine W_seq ?_
      refine W_region_lit (fun ds => ?_)
      refine WS_gen hF (by rfl) (y_callL (by rfl) (by rfl) Try.call62 (fun w hw => log_any w)) ?_
      rintro _ _ ⟨a1, cap1, ae1, cape1, Hp, He, rfl, hrp, hre, rfl⟩
      refine WS_back ?_
      refine WS_det hF (by rfl) (y_callL (by rfl) (by rfl) Try.call31 (fun w hw => Ct_eq (sure_any logL _ _ _ _ 31 w (by decide) (NewRow.ints hrp rfl sbA w hw) (NewRow.rws en_len hre rfl sbA w hw)) e_sn)) ?_
      refine WS_det hF (by rfl) (y_move (c := .tuple _) (by rfl)) ?_
      refine WS_det hF (by rfl) (y_extract (c := .int .u8 _) (by rfl) (by rfl)) ?_
      refine WS_det hF (by rfl) (y_extract (c := .int .i64 _) (by rfl) (by rfl)) ?_
      refine WS_det hF (by rfl) (y_assign (c := .int .u8 _) (by rfl)) ?_
      refine WS_det hF (by rfl) (y_assign (c := .int .i64 _) (by rfl)) ?_
      refine WS_nil ?_
      refine Then_normal ?_
      refine W_seq ?_
      refine W_region_lit (fun ds => ?_)
      refine WS_gen hF (by rfl) (y_callL (by rfl) (by rfl) Try.call62 (fun w hw => log_any w)) ?_
      rintro _ _ ⟨a1, cap1, ae1, cape1, Hp, He, rfl, hrp, hre, rfl⟩
      refine WS_back ?_
      refine WS_gen hF (by rfl) (y_callL (by rfl) (by rfl) Try.call24 (fun w hw => wrong_any logL _ _ _ _ w (by decide) (NewRow.ints hrp rfl sbA w hw) (NewRow.rws en_len hre rfl sbA w hw))) ?_
      rintro _ Ha hTa
      obtain ⟨wa, wcap, rfl, hwa⟩ := WrongV.ints hTa
      rw [e_wrL, e_wrE] at *
      refine WS_back ?_
      refine WS_det hF (by rfl) (y_move (c := .tuple _) (by rfl)) ?_
      refine WS_det hF (by rfl) (y_extract (c := .slice _ _ _) (by rfl) (by rfl)) ?_
      refine WS_det hF (by rfl) (y_extract (c := .int .i64 _) (by rfl) (by rfl)) ?_
      refine WS_det hF (by rfl) (y_assign (c := .slice _ _ _) (by rfl)) ?_
      refine WS_det hF (by rfl) (y_assign (c := .int .i64 _) (by rfl)) ?_
      refine WS_nil ?_
      refine Then_normal ?_
      refine W_seq ?_
      refine W_region_lit (fun ds => ?_)
      refine WS_gen hF (by rfl) (y_callL (by rfl) (by rfl) Try.call62 (fun w hw => log_any w)) ?_
      rintro _ _ ⟨a1, cap1, ae1, cape1, Hp, He, rfl, hrp, hre, rfl⟩
      refine WS_back ?_
      refine WS_newS hF (by rfl) (y_buildSliceL bs22_2_0_1 (by rfl)) (fun b7 => ?_)
      refine WS_gen hF (by rfl) (y_callL (by rfl) (by rfl) Try.call28 (fun w hw => strike_any logL _ _ _ _ _ 2 _ [1, 3] w (by decide) (Ints.mem (rest := []) 0 (by rfl) (by rfl) (by decide) w hw) (by decide) (NewRow.ints hrp rfl sbA w hw) (NewRow.rws en_len hre rfl sbA w hw))) ?_
      rintro _ _ hT
      obtain ⟨_, rfl, _, hT2⟩ := hT
      have hT3 := hT2 e_strE
      rw [e_less] at hT3
      obtain ⟨o1, oc1, o2, oc2, Ho1, Ho2, rfl, ho1, ho2, rfl⟩ := hT3
      rw [e_strE]
      obtain ⟨pb, pj, rfl, rfl, pl, ple⟩ := NewRow.head ho2 (by decide)
      refine WS_back ?_
      refine WS_det hF (by rfl) (y_move (c := .tuple _) (by rfl)) ?_
      refine WS_det hF (by rfl) (y_extract (c := .agg _) (by rfl) (by rfl)) ?_
      refine WS_det hF (by rfl) (y_extract (c := .int .i64 _) (by rfl) (by rfl)) ?_
      refine WS_new hF (by rfl) (y_alloc Try.zeroValue46 (by rfl)) (fun b8 => ?_)
      refine WS_store hF (us := [.slice _ _ _, .int .i64 _, .int .i64 _, .int .i64 _, .int .i64 _, .slice _ _ _]) (i := 0) (by rfl) (by rfl) Try.sizeOf46 (by rfl) (by rfl) (by rfl) (by first | decide | exact Nat.le_of_ble_eq_true rfl | simp) ?_
      refine WS_det hF (by rfl) (y_assign (c := .int .i64 _) (by rfl)) ?_
      refine WS_nil ?_
      refine Then_normal ?_
      refine W_seq ?_
      refine W_seq ?_
      refine W_pull (pb, CB (rowOf En.cells lessL.e lessL.es.length ++ pj) 48) (by repeat (first | exact Pul.base0 | exact Pul.base | apply Pul.cons | apply Pul.app)) ?_
      refine W_draw0 hF Trymixed [] (by decide +kernel) (fun ds => ?_)
      refine P_det (by rfl) (Over_nil (y_move (c := .int .i64 _) (by rfl))) ?_
      refine P_det (by rfl) (Over_nil (y_neqF (by rfl) (by rfl))) ?_
      refine P_det (by rfl) (Over_nil (y_move (c := .bool _) (by rfl))) ?_
      refine P_det (by rfl) (Over_nil (y_loadN (by rfl) Try.isAgg30 Try.sizeOf30 (Mem.own (us := [.int .i64 _, .int .i64 _]) 5 (by rfl) (by rfl)) (by rfl))) ?_
      refine P_det (by rfl) (Over_nil (y_callL (by rfl) (by rfl) Try.call57 (fun w hw => lpart_any _ _ w))) ?_
      refine P_det (by rfl) (Over_nil (y_neqlAF (by rfl) (by rfl) neqA30 (by simp only [ieq_self, Bool.and_self, Bool.not_true]))) ?_
      refine P_det (by rfl) (Over_nil (by first | exact y_pick_t (c := .bool _) (by rfl) (by rfl) | exact y_pick_f (c := .bool _) (by rfl) (by rfl))) ?_
      refine P_det (by rfl) (Over_nil (y_move (c := .bool _) (by rfl))) ?_
      refine P_det (by rfl) (Over_nil (y_move (c := .int .i64 _) (by rfl))) ?_
      refine P_det (by rfl) (Over_nil (y_neqF (by rfl) (by rfl))) ?_
      refine P_det (by rfl) (Over_nil (by first | exact y_pick_t (c := .bool _) (by rfl) (by rfl) | exact y_pick_f (c := .bool _) (by rfl) (by rfl))) ?_
      refine P_det (by rfl) (Over_nil (y_move (c := .bool _) (by rfl))) ?_
      refine P_det (by rfl) (Over_nil (y_loadN (by rfl) Try.isAgg30 Try.sizeOf30 (Mem.own (us := [.int .i64 _, .int .i64 _]) 4 (by rfl) (by rfl)) (by rfl))) ?_
      refine P_det (by rfl) (Over_nil (y_callL (by rfl) (by rfl) Try.call57 (fun w hw => lpart_any _ _ w))) ?_
      refine P_det (by rfl) (Over_nil (y_neqlAF (by rfl) (by rfl) neqA30 (by simp only [ieq_self, Bool.and_self, Bool.not_true]))) ?_
      refine P_det (by rfl) (Over_nil (by first | exact y_pick_t (c := .bool _) (by rfl) (by rfl) | exact y_pick_f (c := .bool _) (by rfl) (by rfl))) ?_
      refine P_det (by rfl) (Over_nil (y_move (c := .bool _) (by rfl))) ?_
      refine P_det (by rfl) (Over_nil (y_move (c := .int .i64 _) (by rfl))) ?_
      refine P_det (by rfl) (Over_nil (y_neqF (by rfl) (by rfl))) ?_
      refine P_det (by rfl) (Over_nil (by first | exact y_pick_t (c := .bool _) (by rfl) (by rfl) | exact y_pick_f (c := .bool _) (by rfl) (by rfl))) ?_
      refine P_det (by rfl) (Over_nil (y_move (c := .bool _) (by rfl))) ?_
      refine P_det (by rfl) (Over_nil (y_loadN (by rfl) Try.isAgg26 Try.sizeOf26 (Mem.own (us := [.int .i64 _, .int .i64 _]) 3 (by rfl) (by rfl)) (by rfl))) ?_
      refine P_det (by rfl) (Over_nil (y_callL (by rfl) (by rfl) Try.call58 (fun w hw => lspan_any _ _ w))) ?_
      refine P_det (by rfl) (Over_nil (y_neqlAF (by rfl) (by rfl) neqA26 (by simp only [ieq_self, Bool.and_self, Bool.not_true]))) ?_
      refine P_det (by rfl) (Over_nil (by first | exact y_pick_t (c := .bool _) (by rfl) (by rfl) | exact y_pick_f (c := .bool _) (by rfl) (by rfl))) ?_
      refine P_det (by rfl) (Over_nil (y_move (c := .bool _) (by rfl))) ?_
      refine P_det (by rfl) (Over_nil (y_move (c := .int .i64 _) (by rfl))) ?_
      refine P_det (by rfl) (Over_nil (y_neqF (by rfl) (by rfl))) ?_
      refine P_det (by rfl) (Over_nil (by first | exact y_pick_t (c := .bool _) (by rfl) (by rfl) | exact y_pick_f (c := .bool _) (by rfl) (by rfl))) ?_
      refine P_det (by rfl) (Over_nil (y_move (c := .bool _) (by rfl))) ?_
      refine P_det (by rfl) (Over_nil (y_move (c := .int .u8 _) (by rfl))) ?_
      refine P_det (by rfl) (Over_nil (y_neqF (by rfl) (by rfl))) ?_
      refine P_det (by rfl) (Over_nil (by first | exact y_pick_t (c := .bool _) (by rfl) (by rfl) | exact y_pick_f (c := .bool _) (by rfl) (by rfl))) ?_
      refine P_det (by rfl) (Over_nil (y_move (c := .bool _) (by rfl))) ?_
      refine P_det (by rfl) (Over_nil (y_move (c := .int .i64 _) (by rfl))) ?_
      refine P_det (by rfl) (Over_nil (y_neqF (by rfl) (by rfl))) ?_
      refine P_det (by rfl) (Over_nil (by first | exact y_pick_t (c := .bool _) (by rfl) (by rfl) | exact y_pick_f (c := .bool _) (by rfl) (by rfl))) ?_
      refine P_det (by rfl) (Over_nil (y_move (c := .bool _) (by rfl))) ?_
      refine P_det (by rfl) (Over_nil (y_move (c := .int .u8 _) (by rfl))) ?_
      refine P_det (by rfl) (Over_nil (y_neqF (by rfl) (by rfl))) ?_
      refine P_det (by rfl) (Over_nil (by first | exact y_pick_t (c := .bool _) (by rfl) (by rfl) | exact y_pick_f (c := .bool _) (by rfl) (by rfl))) ?_
      refine P_det (by rfl) (Over_nil (y_move (c := .bool _) (by rfl))) ?_
      refine P_det (by rfl) (Over_nil (y_move (c := .int .i64 _) (by rfl))) ?_
      refine P_det (by rfl) (Over_nil (y_neqF (by rfl) (by rfl))) ?_
      refine P_det (by rfl) (Over_nil (by first | exact y_pick_t (c := .bool _) (by rfl) (by rfl) | exact y_pick_f (c := .bool _) (by rfl) (by rfl))) ?_
      refine P_det (by rfl) (Over_nil (y_move (c := .bool _) (by rfl))) ?_
      refine P_det (by rfl) (Over_nil (y_move (c := .slice _ _ _) (by rfl))) ?_
      refine P_det (by rfl) (Over_nil (y_len (by rfl) Try.runUnderlying22)) ?_
      refine P_det (by rfl) (Over_nil (y_neqF (by rfl) (by rfl))) ?_
      refine P_det (by rfl) (Over_nil (by first | exact y_pick_t (c := .bool _) (by rfl) (by rfl) | exact y_pick_f (c := .bool _) (by rfl) (by rfl))) ?_
      refine P_det (by rfl) (Over_nil (y_move (c := .bool _) (by rfl))) ?_
      refine P_det (by rfl) (Over_nil (y_move (c := .int .i64 _) (by rfl))) ?_
      refine P_det (by rfl) (Over_nil (y_neqF (by rfl) (by rfl))) ?_
      refine P_det (by rfl) (Over_nil (by first | exact y_pick_t (c := .bool _) (by rfl) (by rfl) | exact y_pick_f (c := .bool _) (by rfl) (by rfl))) ?_
      refine P_det (by rfl) (Over_nil (y_move (c := .bool _) (by rfl))) ?_
      refine P_det (by rfl) (Over_nil (y_fieldAddr (by rfl) fa46_2)) ?_
      refine P_det (by rfl) (Over_nil (y_load1 (by rfl) Try.isAgg44 (Mem.own1 1 (by rfl) (by rfl)))) ?_
      refine P_det (by rfl) (Over_nil (y_len (by rfl) Try.runUnderlying44)) ?_
      refine P_det (by rfl) (Over_nil (y_neqF (by rfl) (by rfl))) ?_
      refine P_det (by rfl) (Over_nil (by first | exact y_pick_t (c := .bool _) (by rfl) (by rfl) | exact y_pick_f (c := .bool _) (by rfl) (by rfl))) ?_
      refine P_det (by rfl) (Over_nil (y_move (c := .bool _) (by rfl))) ?_
      refine P_det (by rfl) (Over_nil (y_fieldAddr (by rfl) fa46_2)) ?_
      refine P_det (by rfl) (Over_nil (y_load1 (by rfl) Try.isAgg44 (Mem.own1 1 (by rfl) (by rfl)))) ?_
      refine P_det (by rfl) (Over_nil (y_index (k := 1) (by rfl) (by rfl) (by first | rfl | omega) (by first | decide | omega) Try.runUnderlying44 Try.sizeOf48)) ?_
      refine P_det (by rfl) (Over_nil (y_loadN (by rfl) Try.isAgg48 Try.sizeOf48 (Mem.own (us := [.int _ 5, .int _ 3, .int _ 12, .int _ 16]) 0 (by rfl) (by rfl)) (by rfl))) ?_
      refine P_det (by rfl) (Over_nil (y_callL (by rfl) (by rfl) Try.call60 (fun w hw => lentry_any _ _ _ _ w))) ?_
      refine P_det (by rfl) (Over_nil (y_neqlAF (by rfl) (by rfl) neqA48 (by simp only [ieq_self, Bool.and_self, Bool.not_true]))) ?_
      refine P_det (by rfl) (Over_nil (by first | exact y_pick_t (c := .bool _) (by rfl) (by rfl) | exact y_pick_f (c := .bool _) (by rfl) (by rfl))) ?_
      refine PW_end (by rfl) ?_
      refine OverAll_nil ?_
      rintro -
      refine Then_normal ?_
      refine W_cond (by rfl) (fun c17 => ?_) (fun c17 => ?_)
      · cases c17
      ·
        try simp only [Bool.not_eq_true', Bool.not_eq_false', decide_eq_true_eq, decide_eq_false_iff_not, ne_eq, Classical.not_not, Int.not_lt, Int.not_le] at c17
        refine W_skip ?_
        refine Then_normal ?_
        refine W_seq ?_
        refine W_sub (H' := []) (fun _ _ h => h.sub (List.nil_sublist _)) ?_
        refine W_keep [(6, .int .i64 _), (8, .int .i64 _), (10, .int .i64 _), (12, .int .i64 _), (14, .int .i64 _), (16, .int .i64 _), (18, .int .i64 _)] (by repeat (first | exact trivial | refine ⟨by rfl, ?_⟩)) (fun e => ?_)
        refine W_region_lit (fun ds => ?_)
        refine WS_gen hF (by rfl) (y_callL (by rfl) (by rfl) Try.call62 (fun w hw => log_any w)) ?_
        rintro _ _ ⟨a1, cap1, ae1, cape1, Hp, He, rfl, hrp, hre, rfl⟩
        obtain ⟨p1, pj, rfl, rfl, pl, ple⟩ := NewRow.head hrp (by decide)
        obtain ⟨e1, ej, rfl, rfl, el, ele⟩ := NewRow.head hre (by decide)
        refine WS_back ?_
        refine WS_gen hF (by rfl) (y_callL (by rfl) (by rfl) Try.call62 (fun w hw => log_any w)) ?_
        rintro _ _ ⟨a2, cap2, ae2, cape2, Hp2, He2, rfl, hrp2, hre2, rfl⟩
        obtain ⟨p2, pj2, rfl, rfl, pl2, ple2⟩ := NewRow.head hrp2 (by decide)
        obtain ⟨q1, qj, rfl, rfl, ql, qle⟩ := NewRow.head hre2 (by decide)
        refine WS_back ?_
        refine WS_gen hF (by rfl) (y_callL (by rfl) (by rfl) Try.call62 (fun w hw => log_any w)) ?_
        rintro _ _ ⟨a3, cap3, ae3, cape3, Hp3, He3, rfl, hrp3, hre3, rfl⟩
        obtain ⟨n1, nj, rfl, rfl, nl, nle⟩ := NewRow.head hrp3 (by decide)
        obtain ⟨f1, fj, rfl, rfl, fl, fle⟩ := NewRow.head hre3 (by decide)
        refine WS_back ?_
        refine WS_new hF (by rfl) (y_alloc Try.zeroValue46 (by rfl)) (fun bo => ?_)
        refine WS_new hF (by rfl) (y_alloc Try.zeroValue46 (by rfl)) (fun bl => ?_)
        refine WS_new hF (by rfl) (y_alloc Try.zeroValue46 (by rfl)) (fun bf => ?_)
        refine WS_store hF (us := [.slice _ _ _, .int .i64 _, .int .i64 _, .int .i64 _, .int .i64 _, .slice _ _ _]) (i := 2) (by rfl) (by rfl) Try.sizeOf46 (by rfl) (by rfl) (by rfl) (by first | decide | exact Nat.le_of_ble_eq_true rfl | simp) ?_
        refine WS_store hF (us := [.slice _ _ _, .int .i64 _, .int .i64 _, .int .i64 _, .int .i64 _, .slice _ _ _]) (i := 1) (by rfl) (by rfl) Try.sizeOf46 (by rfl) (by rfl) (by rfl) (by first | decide | exact Nat.le_of_ble_eq_true rfl | simp) ?_
        refine WS_store hF (us := [.slice _ _ _, .int .i64 _, .int .i64 _, .int .i64 _, .int .i64 _, .slice _ _ _]) (i := 0) (by rfl) (by rfl) Try.sizeOf46 (by rfl) (by rfl) (by rfl) (by first | decide | exact Nat.le_of_ble_eq_true rfl | simp) ?_
        refine WS_nil ?_
        refine Then_normal ?_
        refine W_seq ?_
        refine W_pull (p1, CB (iv logL.tk.pints ++ pj) 3) (by repeat (first | exact Pul.base0 | exact Pul.base | apply Pul.cons | apply Pul.app)) ?_
        refine W_region_lit (fun ds => ?_)
        refine WS_det hF (by rfl) (y_fieldAddr (by rfl) fa46_0) ?_
        refine WS_det hF (by rfl) (y_fieldAddr (by rfl) fa24_0) ?_
        refine WS_det hF (by rfl) (y_load1 (by rfl) Try.isAgg22 (Mem.own1 3 (by rfl) (by rfl))) ?_
        refine WS_det hF (by rfl) (y_index (k := 2) (by rfl) (by rfl) (by first | rfl | omega) (by first | decide | omega) Try.runUnderlying22 Try.sizeOf3) ?_
        refine WS_store hF (us := [.int .i64 _]) (i := 0) (by rfl) (by rfl) Try.sizeOf3 (by rfl) (by rfl) (by rfl) (by rw [List.length_append]; exact Nat.le_trans (by decide) (Nat.le_add_right _ _)) ?_
        refine WS_nil ?_
        refine Then_normal ?_
        refine W_seq ?_
        refine W_pull (q1, CB (rowOf En.cells logL.e logL.es.length ++ qj) 48) (by repeat (first | exact Pul.base0 | exact Pul.base | apply Pul.cons | apply Pul.app)) ?_
        have hP : NewRow 3 1 5 (iv oddP.tk.pints) (.slice (some ⟨p1, 0, none⟩) 5 cap1) [(p1, CB (splice (iv logL.tk.pints ++ pj) (0 + 2 * 1) [.int .i64 10]) 3)] := NewRow.mk (junk := pj) rfl pl ple (by decide)
        have hQ : NewRow 48 4 4 (rowOf En.cells lateL.e lateL.es.length) (.slice (some ⟨q1, 0, none⟩) 4 cape2) [(q1, CB (splice (rowOf En.cells logL.e logL.es.length ++ qj) (0 + 0 * 4 + 0) [.int .i64 4]) 48)] := NewRow.mk (junk := qj) rfl ql qle (by decide)
        have hF0 : Row 48 4 (some ⟨f1, 0, none⟩) (4 + 0) cape3 (rowOf En.cells (fullL 0).e (4 + 0)) [(f1, CB (rowOf En.cells logL.e logL.es.length ++ fj) 48)] := .inr ⟨f1, fj, rfl, rfl, rowOf_len en_len _ _, fl, fle⟩
        refine W_region_lit (fun ds => ?_)
        refine WS_det hF (by rfl) (y_fieldAddr (by rfl) fa46_2) ?_
        refine WS_det hF (by rfl) (y_load1 (by rfl) Try.isAgg44 (Mem.own1 3 (by rfl) (by rfl))) ?_
        refine WS_det hF (by rfl) (y_index (k := 0) (by rfl) (by rfl) (by first | rfl | omega) (by first | decide | omega) Try.runUnderlying44 Try.sizeOf48) ?_
        refine WS_det hF (by rfl) (y_fieldAddr (by rfl) fa48_0) ?_
        refine WS_store hF (us := [.int .i64 _]) (i := 0) (by rfl) (by rfl) Try.sizeOf3 (by rfl) (by rfl) (by rfl) (by rw [List.length_append]; exact Nat.le_trans (by decide) (Nat.le_add_right _ _)) ?_
        refine WS_nil ?_
        refine Then_normal ?_
        refine W_seq ?_
        refine W_block ?_
        refine W_loop (γ := Nat × Option Addr × Nat × List Blk) (fun p => p.1 ≤ 8 ∧ Row 48 4 p.2.1 (4 + p.1) p.2.2.1 (rowOf En.cells (fullL p.1).e (4 + p.1)) p.2.2.2) (fun p => [(19, .pointer (some ⟨bo, 0, none⟩)), (20, .pointer (some ⟨bl, 0, none⟩)), (21, .pointer (some ⟨bf, 0, none⟩))]) (fun p => (q1, CB (splice (rowOf En.cells logL.e logL.es.length ++ qj) (0 + 0 * 4 + 0) [.int .i64 4]) 48) :: (p1, CB (splice (iv logL.tk.pints ++ pj) (0 + 2 * 1) [.int .i64 10]) 3) :: (bf, CB [.slice (some ⟨n1, 0, none⟩) 5 cap3, .int .i64 2, .int .i64 8, .int .i64 20, .int .i64 40, .slice p.2.1 (4 + p.1) p.2.2.1] 46) :: (bl, CB [.slice (some ⟨p2, 0, none⟩) 5 cap2, .int .i64 2, .int .i64 8, .int .i64 20, .int .i64 40, .slice (some ⟨q1, 0, none⟩) 4 cape2] 46) :: (bo, CB [.slice (some ⟨p1, 0, none⟩) 5 cap1, .int .i64 2, .int .i64 8, .int .i64 20, .int .i64 40, .slice (some ⟨e1, 0, none⟩) 4 cape1] 46) :: (e1, CB (rowOf En.cells logL.e logL.es.length ++ ej) 48) :: (p2, CB (iv logL.tk.pints ++ pj2) 3) :: (n1, CB (iv logL.tk.pints ++ nj) 3) :: p.2.2.2) (fun p => 8 - p.1) ((0, some ⟨f1, 0, none⟩, cape3, [(f1, CB (rowOf En.cells logL.e logL.es.length ++ fj) 48)])) ⟨Nat.zero_le _, hF0⟩ (by repeat (first | exact trivial | refine ⟨by rfl, ?_⟩)) (sbA) ?_
        rintro ⟨k, fa, fc, Hk⟩ e ⟨hk, hfr⟩
        refine W_seq ?_
        refine W_seq ?_
        refine W_region_lit (fun ds => ?_)
        refine WS_det hF (by rfl) (y_fieldAddr (by rfl) fa46_2) ?_
        refine WS_det hF (by rfl) (y_load1 (by rfl) Try.isAgg44 (Mem.own1 2 (by rfl) (by rfl))) ?_
        refine WS_det hF (by rfl) (y_len (by rfl) Try.runUnderlying44) ?_
        refine WS_det hF (by rfl) (y_lss (by rfl) (by rfl)) ?_
        refine WS_nil ?_
        refine Then_normal ?_
        refine W_cond (by rfl) (fun c22 => ?_) (fun c22 => ?_)
        ·
          try simp only [Bool.not_eq_true', Bool.not_eq_false', decide_eq_true_eq, decide_eq_false_iff_not, ne_eq, Classical.not_not, Int.not_lt, Int.not_le] at c22
          refine W_skip ?_
          refine Then_normal ?_
          refine W_block ?_
          apply W_drawMT 4 hF Trymixed [] [] [] (by rfl) (by decide +kernel) (by decide) HSub.refl
          intro ds
          refine P_det (by rfl) (Over_nil (y_fieldAddr (by rfl) fa46_2)) ?_
          refine P_det (by rfl) (Over_nil (y_load1 (by rfl) Try.isAgg44 (Mem.own1 2 (by rfl) (by rfl)))) ?_
          refine P_det (by rfl) (Over_nil (y_callL (by rfl) (by rfl) Try.call60 (fun w hw => lentry_any _ _ _ _ w))) ?_
          refine P_new (by rfl) (by rfl) (Over_nil (y_buildSliceL bs44_1_0 (by rfl))) ?_
          refine PW_end (by rfl) ?_
          refine OverAll_cons (fun w192 l192 => ?_)
          refine OverAll_nil ?_
          rintro ⟨-, h192⟩
          obtain ⟨b9, rfl, rfl⟩ := h192
          refine WS_appendE hF (n' := 4 + k) (H1 := [_, _, _, _, _, _, _, _, _]) (by rfl) (by rfl) (by rfl) Try.underlying44 infEntry (by rfl) (by rfl) hfr (.inr ⟨_, _, rfl, Mem.own (us := [.int _ _, .int _ _, .int _ _, .int _ _]) 0 (by rfl) (by rfl)⟩) (by rfl) (by rfl) (by omega) (by omega) ?_
          intro fa2 fc2 Hk2 hfr2
          replace hfr2 : Row 48 4 fa2 (4 + k + 1) fc2 (rowOf En.cells (fullL k).e (4 + k) ++ dipX.cells) Hk2 := hfr2
          rw [← full_row] at hfr2
          refine WS_det hF (by rfl) (y_fieldAddr (by rfl) fa46_2) ?_
          refine WS_store hF (us := [.slice _ _ _]) (i := 3) (by rfl) (by rfl) Try.sizeOf44 (by rfl) (by rfl) (by rfl) (by first | decide | exact Nat.le_of_ble_eq_true rfl | simp) ?_
          refine WS_nil ?_
          refine InB_normal ?_
          exact Loop_next (k + 1, fa2, fc2, Hk2) ⟨by simp only; omega, hfr2⟩ (by repeat (first | exact trivial | refine ⟨by rfl, ?_⟩)) sbA (by simp only; omega)
        ·
          try simp only [Bool.not_eq_true', Bool.not_eq_false', decide_eq_true_eq, decide_eq_false_iff_not, ne_eq, Classical.not_not, Int.not_lt, Int.not_le] at c22
          obtain rfl : k = 8 := by omega
          have hF8 := full_new hfr
          refine W_exit ?_
          refine Then_exit ?_
          refine Loop_exit ?_
          refine InB_same ?_
          refine Then_normal ?_
          refine W_seq ?_
          refine W_region_lit (fun ds => ?_)
          refine WS_gen hF (by rfl) (y_callL (by rfl) (by rfl) Try.call63 (fun w hw => tun_any w)) ?_
          rintro _ Ht ⟨ta, tcap, rfl, hrt⟩
          refine WS_back ?_
          refine WS_det hF (by rfl) (y_callL (by rfl) (by rfl) Try.call13 (fun w hw => Ct_eq (volume_any tunT _ _ 33 w (by decide) (NewRow.ints hrt rfl sbA w hw)) f_vol)) ?_
          refine WS_det hF (by rfl) (y_move (c := .tuple _) (by rfl)) ?_
          refine WS_det hF (by rfl) (y_extract (c := .agg _) (by rfl) (by rfl)) ?_
          refine WS_det hF (by rfl) (y_extract (c := .int .i64 _) (by rfl) (by rfl)) ?_
          refine WS_det hF (by rfl) (y_assign (c := .int .i64 _) (by rfl)) ?_
          refine WS_nil ?_
          refine Then_normal ?_
          refine W_seq ?_
          refine W_region_lit (fun ds => ?_)
          refine WS_gen hF (by rfl) (y_callL (by rfl) (by rfl) Try.call63 (fun w hw => tun_any w)) ?_
          rintro _ Ht ⟨ta, tcap, rfl, hrt⟩
          refine WS_back ?_
          refine WS_det hF (by rfl) (y_callL (by rfl) (by rfl) Try.call15 (fun w hw => Ct_eq (eighth_any tunT _ _ 101 5 w (by decide) (NewRow.ints hrt rfl sbA w hw) (fun _ => f_lb)) f_eig)) ?_
          refine WS_det hF (by rfl) (y_move (c := .tuple _) (by rfl)) ?_
          refine WS_det hF (by rfl) (y_extract (c := .agg _) (by rfl) (by rfl)) ?_
          refine WS_det hF (by rfl) (y_extract (c := .int .i64 _) (by rfl) (by rfl)) ?_
          refine WS_det hF (by rfl) (y_assign (c := .int .i64 _) (by rfl)) ?_
          refine WS_nil ?_
          refine Then_normal ?_
          refine W_seq ?_
          refine W_keep [(6, .int .i64 _), (8, .int .i64 _), (19, .pointer _), (20, .pointer _), (21, .pointer _)] (by repeat (first | exact trivial | refine ⟨by rfl, ?_⟩)) (fun e => ?_)
          refine W_region_lit (fun ds => ?_)
          refine WS_gen hF (by rfl) (y_callL (by rfl) (by rfl) Try.call63 (fun w hw => tun_any w)) ?_
          rintro _ Ht ⟨ta, tcap, rfl, hrt⟩
          refine WS_back ?_
          refine WS_det hF (by rfl) (y_callL (by rfl) (by rfl) Try.call58 (fun w hw => lspan_any _ _ w)) ?_
          refine WS_det hF (by rfl) (y_callL (by rfl) (by rfl) Try.call17 (fun w hw => Ct_eq (range_any tunT _ _ 9 9 w (by decide) (NewRow.ints hrt rfl sbA w hw)) f_rn1)) ?_
          refine WS_det hF (by rfl) (y_move (c := .tuple _) (by rfl)) ?_
          refine WS_det hF (by rfl) (y_extract (c := .agg _) (by rfl) (by rfl)) ?_
          refine WS_det hF (by rfl) (y_extract (c := .int .i64 _) (by rfl) (by rfl)) ?_
          refine WS_det hF (by rfl) (y_assign (c := .int .i64 _) (by rfl)) ?_
          refine WS_nil ?_
          refine Then_normal ?_
          refine W_seq ?_
          refine W_region_lit (fun ds => ?_)
          refine WS_gen hF (by rfl) (y_callL (by rfl) (by rfl) Try.call63 (fun w hw => tun_any w)) ?_
          rintro _ Ht ⟨ta, tcap, rfl, hrt⟩
          refine WS_back ?_
          refine WS_det hF (by rfl) (y_callL (by rfl) (by rfl) Try.call58 (fun w hw => lspan_any _ _ w)) ?_
          refine WS_det hF (by rfl) (y_callL (by rfl) (by rfl) Try.call17 (fun w hw => Ct_eq (range_any tunT _ _ 9 33 w (by decide) (NewRow.ints hrt rfl sbA w hw)) f_rn2)) ?_
          refine WS_det hF (by rfl) (y_move (c := .tuple _) (by rfl)) ?_
          refine WS_det hF (by rfl) (y_extract (c := .agg _) (by rfl) (by rfl)) ?_
          refine WS_det hF (by rfl) (y_extract (c := .int .i64 _) (by rfl) (by rfl)) ?_
          refine WS_det hF (by rfl) (y_assign (c := .int .i64 _) (by rfl)) ?_
          refine WS_nil ?_
          refine Then_normal ?_
          refine W_seq ?_
          refine W_region_lit (fun ds => ?_)
          refine WS_det hF (by rfl) (y_loadN (by rfl) Try.isAgg46 Try.sizeOf46 (Mem.own (us := [.slice _ _ _, .int .i64 _, .int .i64 _, .int .i64 _, .int .i64 _, .slice _ _ _]) 4 (by rfl) (by rfl)) (by rfl)) ?_
          refine WS_gen hF (by rfl) (y_callL (by rfl) (by rfl) Try.call41 (fun w hw => truth_any oddP _ _ _ _ w (by decide) (NewRow.ints hP rfl sbA w hw) (NewRow.rws en_len hre rfl sbA w hw))) ?_
          rintro _ _ hTb
          obtain ⟨rfl, rfl⟩ := hTb.1 (by rw [f_odd]; decide)
          rw [f_odd]
          refine WS_det hF (by rfl) (y_move (c := .tuple _) (by rfl)) ?_
          refine WS_det hF (by rfl) (y_extract (c := .slice _ _ _) (by rfl) (by rfl)) ?_
          refine WS_det hF (by rfl) (y_extract (c := .int .i64 _) (by rfl) (by rfl)) ?_
          refine WS_det hF (by rfl) (y_assign (c := .int .i64 _) (by rfl)) ?_
          refine WS_nil ?_
          refine Then_normal ?_
          refine W_seq ?_
          refine W_region_lit (fun ds => ?_)
          refine WS_det hF (by rfl) (y_loadN (by rfl) Try.isAgg46 Try.sizeOf46 (Mem.own (us := [.slice _ _ _, .int .i64 _, .int .i64 _, .int .i64 _, .int .i64 _, .slice _ _ _]) 3 (by rfl) (by rfl)) (by rfl)) ?_
          refine WS_gen hF (by rfl) (y_callL (by rfl) (by rfl) Try.call41 (fun w hw => truth_any lateL _ _ _ _ w (by decide) (NewRow.ints hrp2 rfl sbA w hw) (NewRow.rws en_len hQ rfl sbA w hw))) ?_
          rintro _ _ hTb
          obtain ⟨rfl, rfl⟩ := hTb.1 (by rw [f_late]; decide)
          rw [f_late]
          refine WS_det hF (by rfl) (y_move (c := .tuple _) (by rfl)) ?_
          refine WS_det hF (by rfl) (y_extract (c := .slice _ _ _) (by rfl) (by rfl)) ?_
          refine WS_det hF (by rfl) (y_extract (c := .int .i64 _) (by rfl) (by rfl)) ?_
          refine WS_det hF (by rfl) (y_assign (c := .int .i64 _) (by rfl)) ?_
          refine WS_nil ?_
          refine Then_normal ?_
          refine W_seq ?_
          refine W_region_lit (fun ds => ?_)
          refine WS_gen hF (by rfl) (y_callL (by rfl) (by rfl) Try.call62 (fun w hw => log_any w)) ?_
          rintro _ _ ⟨a1, cap1, ae1, cape1, Hp, He, rfl, hrp, hre, rfl⟩
          refine WS_back ?_
          refine WS_det hF (by rfl) (y_callL (by rfl) (by rfl) Try.call43 (fun w hw => Ct_eq (holds_any logL _ _ _ _ 5 w (by decide) (NewRow.ints hrp rfl sbA w hw) (NewRow.rws en_len hre rfl sbA w hw)) f_hol)) ?_
          refine WS_det hF (by rfl) (y_move (c := .tuple _) (by rfl)) ?_
          refine WS_det hF (by rfl) (y_extract (c := .agg _) (by rfl) (by rfl)) ?_
          refine WS_det hF (by rfl) (y_extract (c := .int .i64 _) (by rfl) (by rfl)) ?_
          refine WS_det hF (by rfl) (y_assign (c := .int .i64 _) (by rfl)) ?_
          refine WS_nil ?_
          refine Then_normal ?_
          refine W_seq ?_
          refine W_keep [(6, .int .i64 _), (8, .int .i64 _), (10, .int .i64 _), (12, .int .i64 _), (14, .int .i64 _), (16, .int .i64 _), (18, .int .i64 _), (19, .pointer _), (20, .pointer _), (21, .pointer _)] (by repeat (first | exact trivial | refine ⟨by rfl, ?_⟩)) (fun e => ?_)
          refine W_region_lit (fun ds => ?_)
          refine WS_gen hF (by rfl) (y_callL (by rfl) (by rfl) Try.call62 (fun w hw => log_any w)) ?_
          rintro _ _ ⟨a1, cap1, ae1, cape1, Hp, He, rfl, hrp, hre, rfl⟩
          refine WS_back ?_
          refine WS_det hF (by rfl) (y_callL (by rfl) (by rfl) Try.call47 (fun w hw => Ct_eq (moved_any logL _ _ _ _ 2 w (by decide) (NewRow.ints hrp rfl sbA w hw) (NewRow.rws en_len hre rfl sbA w hw)) f_mov)) ?_
          refine WS_det hF (by rfl) (y_move (c := .tuple _) (by rfl)) ?_
          refine WS_det hF (by rfl) (y_extract (c := .agg _) (by rfl) (by rfl)) ?_
          refine WS_det hF (by rfl) (y_extract (c := .int .i64 _) (by rfl) (by rfl)) ?_
          refine WS_new hF (by rfl) (y_alloc Try.zeroValue26 (by rfl)) (fun b10 => ?_)
          refine WS_store hF (us := [.int .i64 _, .int .i64 _]) (i := 0) (by rfl) (by rfl) Try.sizeOf26 (by rfl) (by rfl) (by rfl) (by first | decide | exact Nat.le_of_ble_eq_true rfl | simp) ?_
          refine WS_det hF (by rfl) (y_assign (c := .int .i64 _) (by rfl)) ?_
          refine WS_nil ?_
          refine Then_normal ?_
          refine W_seq ?_
          refine W_region_lit (fun ds => ?_)
          refine WS_gen hF (by rfl) (y_callL (by rfl) (by rfl) Try.call62 (fun w hw => log_any w)) ?_
          rintro _ _ ⟨a1, cap1, ae1, cape1, Hp, He, rfl, hrp, hre, rfl⟩
          refine WS_back ?_
          refine WS_det hF (by rfl) (y_callL (by rfl) (by rfl) Try.call49 (fun w hw => Ct_eq (lost_any logL _ _ _ _ 4 w (by decide) (NewRow.ints hrp rfl sbA w hw) (NewRow.rws en_len hre rfl sbA w hw)) f_los)) ?_
          refine WS_det hF (by rfl) (y_move (c := .tuple _) (by rfl)) ?_
          refine WS_det hF (by rfl) (y_extract (c := .agg _) (by rfl) (by rfl)) ?_
          refine WS_det hF (by rfl) (y_extract (c := .int .i64 _) (by rfl) (by rfl)) ?_
          refine WS_new hF (by rfl) (y_alloc Try.zeroValue26 (by rfl)) (fun b11 => ?_)
          refine WS_store hF (us := [.int .i64 _, .int .i64 _]) (i := 0) (by rfl) (by rfl) Try.sizeOf26 (by rfl) (by rfl) (by rfl) (by first | decide | exact Nat.le_of_ble_eq_true rfl | simp) ?_
          refine WS_det hF (by rfl) (y_assign (c := .int .i64 _) (by rfl)) ?_
          refine WS_nil ?_
          refine Then_normal ?_
          refine W_seq ?_
          refine W_region_lit (fun ds => ?_)
          refine WS_gen hF (by rfl) (y_callL (by rfl) (by rfl) Try.call62 (fun w hw => log_any w)) ?_
          rintro _ _ ⟨a1, cap1, ae1, cape1, Hp, He, rfl, hrp, hre, rfl⟩
          refine WS_back ?_
          refine WS_det hF (by rfl) (y_callL (by rfl) (by rfl) Try.call33 (fun w hw => Ct_eq (when_any logL _ _ _ _ 60 w (by decide) (NewRow.ints hrp rfl sbA w hw) (NewRow.rws en_len hre rfl sbA w hw)) f_whe)) ?_
          refine WS_det hF (by rfl) (y_move (c := .tuple _) (by rfl)) ?_
          refine WS_det hF (by rfl) (y_extract (c := .int .i64 _) (by rfl) (by rfl)) ?_
          refine WS_det hF (by rfl) (y_extract (c := .int .i64 _) (by rfl) (by rfl)) ?_
          refine WS_det hF (by rfl) (y_assign (c := .int .i64 _) (by rfl)) ?_
          refine WS_det hF (by rfl) (y_assign (c := .int .i64 _) (by rfl)) ?_
          refine WS_nil ?_
          refine Then_normal ?_
          refine W_seq ?_
          refine W_region_lit (fun ds => ?_)
          refine WS_gen hF (by rfl) (y_callL (by rfl) (by rfl) Try.call62 (fun w hw => log_any w)) ?_
          rintro _ _ ⟨a1, cap1, ae1, cape1, Hp, He, rfl, hrp, hre, rfl⟩
          refine WS_back ?_
          refine WS_det hF (by rfl) (y_callL (by rfl) (by rfl) Try.call31 (fun w hw => Ct_eq (sure_any logL _ _ _ _ 101 w (by decide) (NewRow.ints hrp rfl sbA w hw) (NewRow.rws en_len hre rfl sbA w hw)) f_sur)) ?_
          refine WS_det hF (by rfl) (y_move (c := .tuple _) (by rfl)) ?_
          refine WS_det hF (by rfl) (y_extract (c := .int .u8 _) (by rfl) (by rfl)) ?_
          refine WS_det hF (by rfl) (y_extract (c := .int .i64 _) (by rfl) (by rfl)) ?_
          refine WS_det hF (by rfl) (y_assign (c := .int .u8 _) (by rfl)) ?_
          refine WS_det hF (by rfl) (y_assign (c := .int .i64 _) (by rfl)) ?_
          refine WS_nil ?_
          refine Then_normal ?_
          refine W_seq ?_
          refine W_region_lit (fun ds => ?_)
          refine WS_det hF (by rfl) (y_loadN (by rfl) Try.isAgg46 Try.sizeOf46 (Mem.own (us := [.slice _ _ _, .int .i64 _, .int .i64 _, .int .i64 _, .int .i64 _, .slice _ _ _]) 4 (by rfl) (by rfl)) (by rfl)) ?_
          refine WS_det hF (by rfl) (y_buildL bd48 (by rfl)) ?_
          refine WS_gen hF (by rfl) (y_callL (by rfl) (by rfl) Try.call26 (fun w hw => add_any (fullL 8) _ _ _ _ ⟨0, 0, ⟨0, 0⟩⟩ w (by decide) (NewRow.ints hrp3 rfl sbA w hw) (NewRow.rws en_len hF8 rfl sbA w hw))) ?_
          rintro _ _ ⟨_, rfl, h1, _⟩
          obtain ⟨rfl, rfl⟩ := h1 (by rw [f_full]; decide)
          rw [f_full]
          refine WS_det hF (by rfl) (y_move (c := .tuple _) (by rfl)) ?_
          refine WS_det hF (by rfl) (y_extract (c := .agg _) (by rfl) (by rfl)) ?_
          refine WS_det hF (by rfl) (y_extract (c := .int .i64 _) (by rfl) (by rfl)) ?_
          refine WS_new hF (by rfl) (y_alloc Try.zeroValue46 (by rfl)) (fun b12 => ?_)
          refine WS_store hF (us := [.slice _ _ _, .int .i64 _, .int .i64 _, .int .i64 _, .int .i64 _, .slice _ _ _]) (i := 0) (by rfl) (by rfl) Try.sizeOf46 (by rfl) (by rfl) (by rfl) (by first | decide | exact Nat.le_of_ble_eq_true rfl | simp) ?_
          refine WS_det hF (by rfl) (y_assign (c := .int .i64 _) (by rfl)) ?_
          refine WS_nil ?_
          refine Then_normal ?_
          refine W_seq ?_
          refine W_keep [(6, .int .i64 _), (8, .int .i64 _), (10, .int .i64 _), (12, .int .i64 _), (14, .int .i64 _), (16, .int .i64 _), (18, .int .i64 _), (19, .pointer _), (20, .pointer _), (23, .int .i64 _), (25, .int .i64 _), (27, .int .i64 _), (29, .int .i64 _), (31, .int .i64 _)] (by repeat (first | exact trivial | refine ⟨by rfl, ?_⟩)) (fun e => ?_)
          refine W_region_lit (fun ds => ?_)
          refine WS_gen hF (by rfl) (y_callL (by rfl) (by rfl) Try.call62 (fun w hw => log_any w)) ?_
          rintro _ _ ⟨a1, cap1, ae1, cape1, Hp, He, rfl, hrp, hre, rfl⟩
          refine WS_back ?_
          refine WS_det hF (by rfl) (y_callL (by rfl) (by rfl) Try.call60 (fun w hw => lentry_any _ _ _ _ w)) ?_
          refine WS_gen hF (by rfl) (y_callL (by rfl) (by rfl) Try.call26 (fun w hw => add_any logL _ _ _ _ ⟨4, 3, ⟨12, 16⟩⟩ w (by decide) (NewRow.ints hrp rfl sbA w hw) (NewRow.rws en_len hre rfl sbA w hw))) ?_
          rintro _ _ ⟨_, rfl, h1, _⟩
          obtain ⟨rfl, rfl⟩ := h1 (by rw [f_add]; decide)
          rw [f_add]
          refine WS_det hF (by rfl) (y_move (c := .tuple _) (by rfl)) ?_
          refine WS_det hF (by rfl) (y_extract (c := .agg _) (by rfl) (by rfl)) ?_
          refine WS_det hF (by rfl) (y_extract (c := .int .i64 _) (by rfl) (by rfl)) ?_
          refine WS_new hF (by rfl) (y_alloc Try.zeroValue46 (by rfl)) (fun b13 => ?_)
          refine WS_store hF (us := [.slice _ _ _, .int .i64 _, .int .i64 _, .int .i64 _, .int .i64 _, .slice _ _ _]) (i := 0) (by rfl) (by rfl) Try.sizeOf46 (by rfl) (by rfl) (by rfl) (by first | decide | exact Nat.le_of_ble_eq_true rfl | simp) ?_
          refine WS_det hF (by rfl) (y_assign (c := .int .i64 _) (by rfl)) ?_
          refine WS_nil ?_
          refine Then_normal ?_
          refine W_seq ?_
          refine W_region_lit (fun ds => ?_)
          refine WS_gen hF (by rfl) (y_callL (by rfl) (by rfl) Try.call62 (fun w hw => log_any w)) ?_
          rintro _ _ ⟨a1, cap1, ae1, cape1, Hp, He, rfl, hrp, hre, rfl⟩
          refine WS_back ?_
          refine WS_newS hF (by rfl) (y_buildSliceL bs22_2_0_1 (by rfl)) (fun b14 => ?_)
          refine WS_gen hF (by rfl) (y_callL (by rfl) (by rfl) Try.call28 (fun w hw => strike_any logL _ _ _ _ _ 2 _ [3, 1] w (by decide) (Ints.mem (rest := []) 0 (by rfl) (by rfl) (by decide) w hw) (by decide) (NewRow.ints hrp rfl sbA w hw) (NewRow.rws en_len hre rfl sbA w hw))) ?_
          rintro _ _ ⟨_, rfl, h1, _⟩
          obtain ⟨rfl, rfl⟩ := h1 (by rw [f_str]; decide)
          rw [f_str]
          refine WS_det hF (by rfl) (y_move (c := .tuple _) (by rfl)) ?_
          refine WS_det hF (by rfl) (y_extract (c := .agg _) (by rfl) (by rfl)) ?_
          refine WS_det hF (by rfl) (y_extract (c := .int .i64 _) (by rfl) (by rfl)) ?_
          refine WS_new hF (by rfl) (y_alloc Try.zeroValue46 (by rfl)) (fun b15 => ?_)
          refine WS_store hF (us := [.slice _ _ _, .int .i64 _, .int .i64 _, .int .i64 _, .int .i64 _, .slice _ _ _]) (i := 0) (by rfl) (by rfl) Try.sizeOf46 (by rfl) (by rfl) (by rfl) (by first | decide | exact Nat.le_of_ble_eq_true rfl | simp) ?_
          refine WS_det hF (by rfl) (y_assign (c := .int .i64 _) (by rfl)) ?_
          refine WS_nil ?_
          refine Then_normal ?_
          refine W_seq ?_
          refine W_region_lit (fun ds => ?_)
          refine WS_gen hF (by rfl) (y_callL (by rfl) (by rfl) Try.call62 (fun w hw => log_any w)) ?_
          rintro _ _ ⟨a4, cap4, ae4, cape4, Hp4, He4, rfl, hrp4, hre4, rfl⟩
          obtain ⟨s1, sj, rfl, rfl, sl, sle⟩ := NewRow.head hre4 (by decide)
          have hc4 : 1 ≤ cape4 := Nat.le_trans (by decide) sle
          refine WS_back ?_
          refine WS_new hF (by rfl) (y_alloc Try.zeroValue46 (by rfl)) (fun bs => ?_)
          refine WS_store hF (us := [.slice _ _ _, .int .i64 _, .int .i64 _, .int .i64 _, .int .i64 _, .slice _ _ _]) (i := 0) (by rfl) (by rfl) Try.sizeOf46 (by rfl) (by rfl) (by rfl) (by first | decide | exact Nat.le_of_ble_eq_true rfl | simp) ?_
          refine WS_nil ?_
          refine Then_normal ?_
          refine W_seq ?_
          refine W_region_lit (fun ds => ?_)
          refine WS_det hF (by rfl) (y_fieldAddr (by rfl) fa46_2) ?_
          refine WS_det hF (by rfl) (y_load1 (by rfl) Try.isAgg44 (Mem.own1 0 (by rfl) (by rfl))) ?_
          refine WS_det hF (by rfl) (YD_eq (y_slice_hi (h := 1) (by rfl) (by rfl) (by rfl) hc4 Try.runUnderlying44 Try.sizeOf48) (shift_hi hc4)) ?_
          refine WS_det hF (by rfl) (y_fieldAddr (by rfl) fa46_2) ?_
          refine WS_store hF (us := [.slice _ _ _]) (i := 0) (by rfl) (by rfl) Try.sizeOf44 (by rfl) (by rfl) (by rfl) (by first | decide | exact Nat.le_of_ble_eq_true rfl | simp) ?_
          refine WS_nil ?_
          refine Then_normal ?_
          refine W_seq ?_
          refine W_pull (s1, CB (rowOf En.cells logL.e logL.es.length ++ sj) 48) (by repeat (first | exact Pul.base0 | exact Pul.base | apply Pul.cons | apply Pul.app)) ?_
          apply W_drawMT 5 hF Trymixed [] [] [] (by rfl) (by decide +kernel) (by decide) HSub.refl
          intro ds
          refine P_det (by rfl) (Over_nil (y_fieldAddr (by rfl) fa46_2)) ?_
          refine P_det (by rfl) (Over_nil (y_load1 (by rfl) Try.isAgg44 (Mem.own1 1 (by rfl) (by rfl)))) ?_
          refine P_det (by rfl) (Over_nil (y_callL (by rfl) (by rfl) Try.call58 (fun w hw => lspan_any _ _ w))) ?_
          refine P_det (by rfl) (Over_nil (y_callL (by rfl) (by rfl) Try.call58 (fun w hw => lspan_any _ _ w))) ?_
          refine P_det (by rfl) (Over_nil (y_fieldAddr (by rfl) fa46_1)) ?_
          refine PW_end (by rfl) ?_
          refine OverAll_nil ?_
          rintro -
          refine WS_store hF (us := [.int .i64 _, .int .i64 _]) (i := 1) (by rfl) (by rfl) Try.sizeOf26 (by rfl) (by rfl) (by rfl) (by first | decide | exact Nat.le_of_ble_eq_true rfl | simp) ?_
          refine WS_det hF (by rfl) (y_index (k := 0) (by rfl) (by rfl) (by first | rfl | omega) (by first | decide | omega) Try.runUnderlying44 Try.sizeOf48) ?_
          refine WS_det hF (by rfl) (y_fieldAddr (by rfl) fa48_2) ?_
          refine WS_store hF (us := [.int .i64 _, .int .i64 _]) (i := 0) (by rfl) (by rfl) Try.sizeOf26 (by rfl) (by rfl) (by rfl) (by rw [List.length_append]; exact Nat.le_trans (by decide) (Nat.le_add_right _ _)) ?_
          refine WS_nil ?_
          refine Then_normal ?_
          refine W_seq ?_
          have hS : NewRow 48 4 1 (rowOf En.cells stillL.e stillL.es.length) (.slice (some ⟨s1, 0, none⟩) 1 cape4) [(s1, CB (splice (rowOf En.cells logL.e logL.es.length ++ sj) (0 + 0 * 4 + 2) [.int .i64 10, .int .i64 10]) 48)] := NewRow.mk (junk := rowOf En.cells (fun k => logL.e (k + 1)) 3 ++ sj) rfl sl (Nat.le_trans (by decide) sle) (by decide)
          refine W_keep [(6, .int .i64 _), (8, .int .i64 _), (10, .int .i64 _), (12, .int .i64 _), (14, .int .i64 _), (16, .int .i64 _), (18, .int .i64 _), (19, .pointer _), (20, .pointer _), (23, .int .i64 _), (25, .int .i64 _), (27, .int .i64 _), (29, .int .i64 _), (31, .int .i64 _), (33, .int .i64 _), (35, .int .i64 _), (36, .pointer _)] (by repeat (first | exact trivial | refine ⟨by rfl, ?_⟩)) (fun e => ?_)
          refine W_region_lit (fun ds => ?_)
          refine WS_det hF (by rfl) (y_loadN (by rfl) Try.isAgg46 Try.sizeOf46 (Mem.own (us := [.slice _ _ _, .int .i64 _, .int .i64 _, .int .i64 _, .int .i64 _, .slice _ _ _]) 1 (by rfl) (by rfl)) (by rfl)) ?_
          refine WS_det hF (by rfl) (y_callL (by rfl) (by rfl) Try.call39 (fun w hw => Ct_eq (ask_any stillL _ _ _ _ w (by decide) (NewRow.ints hrp4 rfl sbA w hw) (NewRow.rws en_len hS rfl sbA w hw)) f_ask)) ?_
          refine WS_det hF (by rfl) (y_move (c := .tuple _) (by rfl)) ?_
          refine WS_det hF (by rfl) (y_extract (c := .int .i64 _) (by rfl) (by rfl)) ?_
          refine WS_det hF (by rfl) (y_extract (c := .int .i64 _) (by rfl) (by rfl)) ?_
          refine WS_det hF (by rfl) (y_extract (c := .int .i64 _) (by rfl) (by rfl)) ?_
          refine WS_det hF (by rfl) (y_assign (c := .int .i64 _) (by rfl)) ?_
          refine WS_det hF (by rfl) (y_assign (c := .int .i64 _) (by rfl)) ?_
          refine WS_det hF (by rfl) (y_assign (c := .int .i64 _) (by rfl)) ?_
          refine WS_nil ?_
          refine Then_normal ?_
          refine W_seq ?_
          refine W_region_lit (fun ds => ?_)
          refine WS_det hF (by rfl) (y_move (c := .int .i64 _) (by rfl)) ?_
          refine WS_det hF (by rfl) (y_eqlT (by rfl) (by rfl)) ?_
          refine WS_det hF (by rfl) (y_move (c := .bool _) (by rfl)) ?_
          refine WS_det hF (by rfl) (y_move (c := .int .i64 _) (by rfl)) ?_
          refine WS_det hF (by rfl) (y_eqlT (by rfl) (by rfl)) ?_
          refine WS_det hF (by rfl) (by first | exact y_pick_t (c := .bool _) (by rfl) (by rfl) | exact y_pick_f (c := .bool _) (by rfl) (by rfl)) ?_
          refine WS_det hF (by rfl) (y_move (c := .bool _) (by rfl)) ?_
          refine WS_det hF (by rfl) (y_move (c := .int .i64 _) (by rfl)) ?_
          refine WS_det hF (by rfl) (y_eqlT (by rfl) (by rfl)) ?_
          refine WS_det hF (by rfl) (by first | exact y_pick_t (c := .bool _) (by rfl) (by rfl) | exact y_pick_f (c := .bool _) (by rfl) (by rfl)) ?_
          refine WS_det hF (by rfl) (y_move (c := .bool _) (by rfl)) ?_
          refine WS_det hF (by rfl) (y_move (c := .int .i64 _) (by rfl)) ?_
          refine WS_det hF (by rfl) (y_eqlT (by rfl) (by rfl)) ?_
          refine WS_det hF (by rfl) (by first | exact y_pick_t (c := .bool _) (by rfl) (by rfl) | exact y_pick_f (c := .bool _) (by rfl) (by rfl)) ?_
          refine WS_det hF (by rfl) (y_move (c := .bool _) (by rfl)) ?_
          refine WS_det hF (by rfl) (y_move (c := .int .i64 _) (by rfl)) ?_
          refine WS_det hF (by rfl) (y_eqlT (by rfl) (by rfl)) ?_
          refine WS_det hF (by rfl) (by first | exact y_pick_t (c := .bool _) (by rfl) (by rfl) | exact y_pick_f (c := .bool _) (by rfl) (by rfl)) ?_
          refine WS_det hF (by rfl) (y_move (c := .bool _) (by rfl)) ?_
          refine WS_det hF (by rfl) (y_move (c := .int .i64 _) (by rfl)) ?_
          refine WS_det hF (by rfl) (y_eqlT (by rfl) (by rfl)) ?_
          refine WS_det hF (by rfl) (by first | exact y_pick_t (c := .bool _) (by rfl) (by rfl) | exact y_pick_f (c := .bool _) (by rfl) (by rfl)) ?_
          refine WS_det hF (by rfl) (y_move (c := .bool _) (by rfl)) ?_
          refine WS_det hF (by rfl) (y_move (c := .int .i64 _) (by rfl)) ?_
          refine WS_det hF (by rfl) (y_eqlT (by rfl) (by rfl)) ?_
          refine WS_det hF (by rfl) (by first | exact y_pick_t (c := .bool _) (by rfl) (by rfl) | exact y_pick_f (c := .bool _) (by rfl) (by rfl)) ?_
          refine WS_det hF (by rfl) (y_move (c := .bool _) (by rfl)) ?_
          refine WS_det hF (by rfl) (y_move (c := .int .i64 _) (by rfl)) ?_
          refine WS_det hF (by rfl) (y_eqlT (by rfl) (by rfl)) ?_
          refine WS_det hF (by rfl) (by first | exact y_pick_t (c := .bool _) (by rfl) (by rfl) | exact y_pick_f (c := .bool _) (by rfl) (by rfl)) ?_
          refine WS_det hF (by rfl) (y_move (c := .bool _) (by rfl)) ?_
          refine WS_det hF (by rfl) (y_move (c := .int .i64 _) (by rfl)) ?_
          refine WS_det hF (by rfl) (y_eqlT (by rfl) (by rfl)) ?_
          refine WS_det hF (by rfl) (by first | exact y_pick_t (c := .bool _) (by rfl) (by rfl) | exact y_pick_f (c := .bool _) (by rfl) (by rfl)) ?_
          refine WS_det hF (by rfl) (y_move (c := .bool _) (by rfl)) ?_
          refine WS_det hF (by rfl) (y_move (c := .int .i64 _) (by rfl)) ?_
          refine WS_det hF (by rfl) (y_eqlT (by rfl) (by rfl)) ?_
          refine WS_det hF (by rfl) (by first | exact y_pick_t (c := .bool _) (by rfl) (by rfl) | exact y_pick_f (c := .bool _) (by rfl) (by rfl)) ?_
          refine WS_det hF (by rfl) (y_move (c := .bool _) (by rfl)) ?_
          refine WS_det hF (by rfl) (y_move (c := .int .i64 _) (by rfl)) ?_
          refine WS_det hF (by rfl) (y_eqlT (by rfl) (by rfl)) ?_
          refine WS_det hF (by rfl) (by first | exact y_pick_t (c := .bool _) (by rfl) (by rfl) | exact y_pick_f (c := .bool _) (by rfl) (by rfl)) ?_
          refine WS_det hF (by rfl) (y_move (c := .bool _) (by rfl)) ?_
          refine WS_det hF (by rfl) (y_move (c := .int .i64 _) (by rfl)) ?_
          refine WS_det hF (by rfl) (y_eqlT (by rfl) (by rfl)) ?_
          refine WS_det hF (by rfl) (by first | exact y_pick_t (c := .bool _) (by rfl) (by rfl) | exact y_pick_f (c := .bool _) (by rfl) (by rfl)) ?_
          refine WS_det hF (by rfl) (y_move (c := .bool _) (by rfl)) ?_
          refine WS_det hF (by rfl) (y_move (c := .int .i64 _) (by rfl)) ?_
          refine WS_det hF (by rfl) (y_eqlT (by rfl) (by rfl)) ?_
          refine WS_det hF (by rfl) (by first | exact y_pick_t (c := .bool _) (by rfl) (by rfl) | exact y_pick_f (c := .bool _) (by rfl) (by rfl)) ?_
          refine WS_det hF (by rfl) (y_move (c := .bool _) (by rfl)) ?_
          refine WS_det hF (by rfl) (y_move (c := .int .i64 _) (by rfl)) ?_
          refine WS_det hF (by rfl) (y_eqlT (by rfl) (by rfl)) ?_
          refine WS_det hF (by rfl) (by first | exact y_pick_t (c := .bool _) (by rfl) (by rfl) | exact y_pick_f (c := .bool _) (by rfl) (by rfl)) ?_
          refine WS_det hF (by rfl) (y_move (c := .bool _) (by rfl)) ?_
          refine WS_det hF (by rfl) (y_move (c := .int .i64 _) (by rfl)) ?_
          refine WS_det hF (by rfl) (y_eqlT (by rfl) (by rfl)) ?_
          refine WS_det hF (by rfl) (by first | exact y_pick_t (c := .bool _) (by rfl) (by rfl) | exact y_pick_f (c := .bool _) (by rfl) (by rfl)) ?_
          refine WS_det hF (by rfl) (y_move (c := .bool _) (by rfl)) ?_
          refine WS_det hF (by rfl) (y_fieldAddr (by rfl) fa46_0) ?_
          refine WS_det hF (by rfl) (y_loadN (by rfl) Try.isAgg24 Try.sizeOf24 (Mem.own (us := [.slice _ _ _, .int .i64 _, .int .i64 _]) 12 (by rfl) (by rfl)) (by rfl)) ?_
          refine WS_det hF (by rfl) (y_callL (by rfl) (by rfl) Try.call19 (fun w hw => Ct_eq (check_any oddP.tk _ _ w (by decide) (NewRow.ints hP rfl sbA w hw)) f_chk)) ?_
          refine WS_det hF (by rfl) (y_eqlT (by rfl) (by rfl)) ?_
          refine WS_det hF (by rfl) (by first | exact y_pick_t (c := .bool _) (by rfl) (by rfl) | exact y_pick_f (c := .bool _) (by rfl) (by rfl)) ?_
          refine WS_det hF (by rfl) (y_move (c := .bool _) (by rfl)) ?_
          refine WS_det hF (by rfl) (y_loadN (by rfl) Try.isAgg46 Try.sizeOf46 (Mem.own (us := [.slice _ _ _, .int .i64 _, .int .i64 _, .int .i64 _, .int .i64 _, .slice _ _ _]) 11 (by rfl) (by rfl)) (by rfl)) ?_
          refine WS_det hF (by rfl) (y_callL (by rfl) (by rfl) Try.call45 (fun w hw => Ct_eq (valid_any lateL _ _ _ _ w (by decide) (NewRow.ints hrp2 rfl sbA w hw) (NewRow.rws en_len hQ rfl sbA w hw)) (by rw [f_val]))) ?_
          refine WS_det hF (by rfl) (y_eqlT (by rfl) (by rfl)) ?_
          refine WS_det hF (by rfl) (by first | exact y_pick_t (c := .bool _) (by rfl) (by rfl) | exact y_pick_f (c := .bool _) (by rfl) (by rfl)) ?_
          refine WS_det hF (by rfl) (y_move (c := .bool _) (by rfl)) ?_
          refine WS_gen hF (by rfl) (y_callL (by rfl) (by rfl) Try.call62 (fun w hw => log_any w)) ?_
          rintro _ _ ⟨a1, cap1, ae1, cape1, Hp, He, rfl, hrp, hre, rfl⟩
          refine WS_back ?_
          refine WS_det hF (by rfl) (y_callL (by rfl) (by rfl) Try.call45 (fun w hw => Ct_eq (valid_any logL _ _ _ _ w (by decide) (NewRow.ints hrp rfl sbA w hw) (NewRow.rws en_len hre rfl sbA w hw)) (by rw [f_ok]))) ?_
          refine WS_det hF (by rfl) (y_eqlT (by rfl) (by rfl)) ?_
          refine WS_det hF (by rfl) (by first | exact y_pick_t (c := .bool _) (by rfl) (by rfl) | exact y_pick_f (c := .bool _) (by rfl) (by rfl)) ?_
          refine WS_det hF (by rfl) (y_assign (c := .bool _) (by rfl)) ?_
          refine WS_nil ?_
          refine Then_normal ?_
          refine W_ret ?_
          refine Fin_ret [.bool _] [] Try.results10 ⟨by rfl, trivial⟩ HSub.nil ?_
          rfl
end Go.Proofs.Ythkimgfgpphgnaa.T

namespace Go.Proofs.Ythkimgfgpphgnaa
open Go.RowKit Go.Proofs Go.Eng Go.ChangeShapes Go.WideShapes Go.ChangeAt Go.Joins T
set_option maxRecDepth 100000
set_option linter.unusedVariables false

theorem walkTankExamples (W : World)  :
    Calls Try.prog 10 #[] W fun e W' => e = .returned (.bool true) ∧ Below W.heap.size W W' := by
  refine Calls.mono (tankExamples_any  W ) ?_
  rintro e W' ⟨v, rfl, Hn, hb, _, rfl⟩
  exact ⟨rfl, hb⟩

theorem liftTankExamples (os : Os) (started : os.Started) (H : Type) (enc : TypeId × Value → H) :
    ReturnsInHanded {} Try.checked os 10 .any (Rows.tankExamplesSpec.pre6 enc Try.prog Try.f10 Rows.tankExamplesRow.domain false) (Rows.tankExamplesSpec.post enc Try.prog Try.f10 false true false false) := by
  refine returnsInHanded_of_change (C := Try.checked) own started (by kernel_rfl) Try.func10
    (ChangeSpec.witness6 (enc := enc) (C := Try.checked) false ⟨#[], #[], []⟩ 8 (by kernel_rfl) (by kernel_rfl) (by kernel_rfl) (by kernel_rfl)) ?_
  intro W base args ds gs before hval0 hW hcnd _
  have hval : ∀ (j : Nat) t v, Try.f10.params[j]? = some t → args[j]? = some v → Value.okWide Try.prog W .any base t v := hval0
  have hW' := hW
  obtain ⟨p, q, hA0, hV, rfl, hfz, hnd⟩ := hW
  have hA : DataW.TrodAll enc Try.prog W 0 (fun _ => true) true Try.f10.params.toList args.toList ds p := hA0
  rw [Try.params10] at hA hval
  obtain ⟨hargs, rfl, rfl⟩ := trodAll_nil hA
  obtain rfl : args = #[] := by cases args; simp_all
  obtain ⟨rfl, rfl⟩ := trodVars_none hV
  clear hA0 hval0
  refine (walkTankExamples  W ).mono fun e W' ⟨he, bel⟩ => ?_
  subst he
  exact ⟨_, rfl, _, _, _, [], _, [], hW', trodAll_mk1 (shut_bool Try.underlying4 _),
    trodAll_mk0, rfl, bel.frame _, fun h => by cases h⟩

theorem tankExamples : Rows.TankExamplesSaid :=
  OpenClaim.holds_of_wide 10 Try.f10 rfl rfl rfl rfl rfl rfl rfl ⟨rfl, rfl, rfl, rfl, rfl⟩ rfl rfl rfl rfl rfl (by kernel_rfl) Try.func10 (by kernel_rfl)
    (of_decide_eq_true (by kernel_rfl)) (by unfold Func.isWrapper; first | (rw [if_pos (by decide +kernel)]; kernel_rfl) | (rw [if_neg (by decide +kernel)]; exact ⟨rfl, rfl⟩))
    (fun os started H enc _ => liftTankExamples os started H enc)
end Go.Proofs.Ythkimgfgpphgnaa
