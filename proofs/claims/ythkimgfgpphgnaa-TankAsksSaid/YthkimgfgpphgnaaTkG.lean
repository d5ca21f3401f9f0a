/- The walk of the law TankTables. -/
import Derived.Test.YthkimgfgpphgnaaTkF
namespace Go.Proofs.Ythkimgfgpphgnaa.T
open Go.RowKit Go.Proofs Go.Eng
set_option maxRecDepth 100000
set_option linter.unusedVariables false
set_option linter.unusedSimpArgs false

theorem a_ep26_0 {x_0 : Int} {x_1 : Int} : ∀ w, (part 3 #[.int .i64 x_0, .int .i64 x_1] 0).run Try.prog w = .ok (.int .i64 x_0) w := fun w => by kernel_rfl
theorem a_ep26_1 {x_0 : Int} {x_1 : Int} : ∀ w, (part 3 #[.int .i64 x_0, .int .i64 x_1] 1).run Try.prog w = .ok (.int .i64 x_1) w := fun w => by kernel_rfl
theorem a_ep30_0 {x_0 : Int} {x_1 : Int} : ∀ w, (part 3 #[.int .i64 x_0, .int .i64 x_1] 0).run Try.prog w = .ok (.int .i64 x_0) w := fun w => by kernel_rfl
theorem a_ep30_1 {x_0 : Int} {x_1 : Int} : ∀ w, (part 3 #[.int .i64 x_0, .int .i64 x_1] 1).run Try.prog w = .ok (.int .i64 x_1) w := fun w => by kernel_rfl
theorem a_geqA26 {x y : Operand} {x_0 : Int} {x_1 : Int} {y_0 : Int} {y_1 : Int} : ∀ w, (eqGuard .eql 26 x y (.agg #[.int .i64 x_0, .int .i64 x_1]) (.agg #[.int .i64 y_0, .int .i64 y_1])).run Try.prog w = .ok () w := fun w => by kernel_rfl
theorem a_geqA30 {x y : Operand} {x_0 : Int} {x_1 : Int} {y_0 : Int} {y_1 : Int} : ∀ w, (eqGuard .eql 30 x y (.agg #[.int .i64 x_0, .int .i64 x_1]) (.agg #[.int .i64 y_0, .int .i64 y_1])).run Try.prog w = .ok () w := fun w => by kernel_rfl
theorem a_st26 : Try.prog.stoodInHeld 26 = false := by kernel_rfl
theorem a_st30 : Try.prog.stoodInHeld 30 = false := by kernel_rfl
theorem eq26 {x_0 : Int} {x_1 : Int} {y_0 : Int} {y_1 : Int} : ∀ w, (Op.equalIn Op.maxDepth 26 (.agg #[.int .i64 x_0, .int .i64 x_1]) (.agg #[.int .i64 y_0, .int .i64 y_1])).run Try.prog w = .ok (ieq x_0 y_0 && ieq x_1 y_1) w := fun w => by
  unfold Op.maxDepth Op.equalIn
  rw [Sem.run_bind, Try.runUnderlying26]
  simp [a_st26, a_ep26_0, eq_int (d := 9998) Try.runUnderlying3, a_ep26_1, eq_int (d := 9998) Try.runUnderlying3]
  generalize ieq x_0 y_0 = b0
  generalize ieq x_1 y_1 = b1
  cases b0 <;> cases b1 <;> simp
theorem eq30 {x_0 : Int} {x_1 : Int} {y_0 : Int} {y_1 : Int} : ∀ w, (Op.equalIn Op.maxDepth 30 (.agg #[.int .i64 x_0, .int .i64 x_1]) (.agg #[.int .i64 y_0, .int .i64 y_1])).run Try.prog w = .ok (ieq x_0 y_0 && ieq x_1 y_1) w := fun w => by
  unfold Op.maxDepth Op.equalIn
  rw [Sem.run_bind, Try.runUnderlying30]
  simp [a_st30, a_ep30_0, eq_int (d := 9998) Try.runUnderlying3, a_ep30_1, eq_int (d := 9998) Try.runUnderlying3]
  generalize ieq x_0 y_0 = b0
  generalize ieq x_1 y_1 = b1
  cases b0 <;> cases b1 <;> simp
theorem eqA26 {x y : Operand} {x_0 : Int} {x_1 : Int} {y_0 : Int} {y_1 : Int} : ∀ w, ((do eqGuard .eql 26 x y (.agg #[.int .i64 x_0, .int .i64 x_1]) (.agg #[.int .i64 y_0, .int .i64 y_1]); binOp .eql 26 (.agg #[.int .i64 x_0, .int .i64 x_1]) (.agg #[.int .i64 y_0, .int .i64 y_1])) : Sem Value).run Try.prog w = .ok (.bool (ieq x_0 y_0 && ieq x_1 y_1)) w := eq_top a_geqA26 eq26
theorem eqA30 {x y : Operand} {x_0 : Int} {x_1 : Int} {y_0 : Int} {y_1 : Int} : ∀ w, ((do eqGuard .eql 30 x y (.agg #[.int .i64 x_0, .int .i64 x_1]) (.agg #[.int .i64 y_0, .int .i64 y_1]); binOp .eql 30 (.agg #[.int .i64 x_0, .int .i64 x_1]) (.agg #[.int .i64 y_0, .int .i64 y_1])) : Sem Value).run Try.prog w = .ok (.bool (ieq x_0 y_0 && ieq x_1 y_1)) w := eq_top a_geqA30 eq30

theorem Tk.volume_shape (t : Tk) (x : Int) : ∃ p q e, t.volume x = .tuple #[.agg #[.int .i64 p, .int .i64 q], .int .i64 e] := by
  unfold Tk.volume
  split
  · split
    · exact ⟨_, _, _, rfl⟩
    · exact ⟨_, _, _, rfl⟩
  · exact ⟨_, _, _, rfl⟩
theorem Tk.eighth_shape (t : Tk) (x : Int) (i : Nat) : ∃ p q e, t.eighthV x i = .tuple #[.agg #[.int .i64 p, .int .i64 q], .int .i64 e] := by
  unfold Tk.eighthV
  split
  · split
    · split
      · exact ⟨_, _, _, rfl⟩
      · exact ⟨_, _, _, rfl⟩
    · exact ⟨_, _, _, rfl⟩
  · exact ⟨_, _, _, rfl⟩
theorem Tk.range_shape (t : Tk) (x y : Int) : ∃ p q e, t.range x y = .tuple #[.agg #[.int .i64 p, .int .i64 q], .int .i64 e] := by
  unfold Tk.range
  split
  · split
    · split
      · exact ⟨_, _, _, rfl⟩
      · exact ⟨_, _, _, rfl⟩
    · exact ⟨_, _, _, rfl⟩
  · exact ⟨_, _, _, rfl⟩
/-- The place of a number in a list that grows. -/
theorem Tk.lb_ex (t : Tk) (x : Int) : ∃ i, t.okB = true → t.Lb x i := by
  by_cases h : t.okB = true
  · have hok := Tk.ok_iff.1 h
    have key : ∀ m, m ≤ t.n → ∃ i, i ≤ m ∧ (∀ k, k < i → t.p k < x) ∧ ∀ k, i ≤ k → k < m → x ≤ t.p k := by
      intro m
      induction m with
      | zero => intro _; exact ⟨0, Nat.le_refl _, fun k hk => absurd hk (Nat.not_lt_zero _), fun k _ hk => absurd hk (Nat.not_lt_zero _)⟩
      | succ m ih =>
        intro hm
        obtain ⟨i, h1, h2, h3⟩ := ih (by omega)
        by_cases hx : t.p m < x
        · refine ⟨m + 1, Nat.le_refl _, fun k hk => ?_, fun k hk hk' => by omega⟩
          by_cases hkm : k = m
          · rw [hkm]; exact hx
          · have := hok.mono (j := k) (k := m) (by omega) (by omega)
            omega
        · refine ⟨i, by omega, h2, fun k hk hk' => ?_⟩
          by_cases hkm : k = m
          · rw [hkm]; omega
          · exact h3 k hk (by omega)
    obtain ⟨i, h1, h2, h3⟩ := key t.n (Nat.le_refl _)
    exact ⟨i, fun _ => ⟨h1, h2, h3⟩⟩
  · exact ⟨0, fun h' => absurd h' h⟩

theorem tankTables_any (t : Tk) (a : Option Addr) (cap : Nat) (x y z1 z2 : Int) (w : World) (hx : Ints w a t.n cap t.pints) :
    Ct Try.prog 3 #[.agg #[.slice a t.n cap, .int .i64 t.leak, .int .i64 t.foot], .int .i64 x, .int .i64 y, .agg #[.int .i64 z1, .int .i64 z2]] w fun v _ => v = .bool true := by
  obtain ⟨i, hi⟩ := t.lb_ex y
  obtain ⟨v1, v2, v3, hv⟩ := t.volume_shape x
  obtain ⟨e1, e2, e3, he⟩ := t.eighth_shape y i
  obtain ⟨r1, r2, r3, hr⟩ := t.range_shape z1 z2
  have hF := wide_wide
  refine Ct_start (args := [_, _, _, _]) Try.func3 (by rfl) Try.ntmps3 (by rfl) ?_
  refine W_seq ?_
  refine W_region_lit (fun ds => ?_)
  refine WS_new hF (by rfl) (y_box (by rfl)) (fun b1 => ?_)
  refine WS_new hF (by rfl) (y_box (by rfl)) (fun b2 => ?_)
  refine WS_det hF (by rfl) (y_assign (c := .bool _) (by rfl)) ?_
  refine WS_nil ?_
  refine Then_normal ?_
  refine W_seq ?_
  refine W_seq ?_
  refine W_region_lit (fun ds => ?_)
  refine WS_det hF (by rfl) (y_loadN (by rfl) Try.isAgg24 Try.sizeOf24 (Mem.own (us := [.slice _ _ _, .int .i64 _, .int .i64 _]) 1 (by rfl) (by rfl)) (by rfl)) ?_
  refine WS_det hF (by rfl) (y_callL (by rfl) (by rfl) Try.call11 (fun w hw => greatTank_any t a cap w)) ?_
  refine WS_nil ?_
  refine Then_normal ?_
  refine W_cond (by rfl) (fun c1 => ?_) (fun c1 => ?_)
  ·
    try simp only [Bool.not_eq_true', Bool.not_eq_false', decide_eq_true_eq, decide_eq_false_iff_not, ne_eq, Classical.not_not, Int.not_lt, Int.not_le] at c1
    refine W_seq ?_
    refine W_region_lit (fun ds => ?_)
    refine WS_det hF (by rfl) (y_assign (c := .bool _) (by rfl)) ?_
    refine WS_nil ?_
    refine Then_normal ?_
    refine W_ret ?_
    refine Then_ret ?_
    refine Fin_ret [.bool _] [] Try.results3 ⟨by rfl, trivial⟩ HSub.nil ?_
    rfl
  ·
    try simp only [Bool.not_eq_true', Bool.not_eq_false', decide_eq_true_eq, decide_eq_false_iff_not, ne_eq, Classical.not_not, Int.not_lt, Int.not_le] at c1
    have hn : t.n ≤ 1000000 := by omega
    refine W_skip ?_
    refine Then_normal ?_
    refine W_seq ?_
    refine W_region_lit (fun ds => ?_)
    refine WS_det hF (by rfl) (y_loadN (by rfl) Try.isAgg24 Try.sizeOf24 (Mem.own (us := [.slice _ _ _, .int .i64 _, .int .i64 _]) 1 (by rfl) (by rfl)) (by rfl)) ?_
    refine WS_gen hF (by rfl) (y_callL (by rfl) (by rfl) Try.call12 (fun w hw => twinTank_any t a cap w hn (hx.st w hw))) ?_
    rintro _ Ho ⟨a', cap', rfl, hrow⟩
    refine WS_back ?_
    refine WS_new hF (by rfl) (y_alloc Try.zeroValue24 (by rfl)) (fun b3 => ?_)
    refine WS_store hF (i := 0) (by rfl) (by rfl) Try.sizeOf24 (by rfl) (by rfl) (by rfl) (by first | decide | exact Nat.le_of_ble_eq_true rfl | simp) ?_
    refine WS_nil ?_
    refine Then_normal ?_
    refine W_seq ?_
    refine W_region_lit (fun ds => ?_)
    refine WS_det hF (by rfl) (y_loadN (by rfl) Try.isAgg24 Try.sizeOf24 (Mem.own (us := [.slice _ _ _, .int .i64 _, .int .i64 _]) 0 (by rfl) (by rfl)) (by rfl)) ?_
    refine WS_det hF (by rfl) (y_move (c := .int .i64 _) (by rfl)) ?_
    refine WS_det hF (by rfl) (y_callL (by rfl) (by rfl) Try.call13 (fun w hw => Ct_eq (volume_any t a' cap' x w hn (NewRow.ints hrow hx.len (by repeat (first | exact List.Sublist.refl _ | exact List.sublist_append_left _ _ | exact List.nil_sublist _ | apply List.Sublist.cons_cons | apply List.Sublist.cons | refine List.Sublist.trans ?_ (List.sublist_append_right _ _))) w hw)) hv)) ?_
    refine WS_det hF (by rfl) (y_move (c := .tuple _) (by rfl)) ?_
    refine WS_det hF (by rfl) (y_extract (c := .agg _) (by rfl) (by rfl)) ?_
    refine WS_det hF (by rfl) (y_extract (c := .int .i64 _) (by rfl) (by rfl)) ?_
    refine WS_new hF (by rfl) (y_alloc Try.zeroValue30 (by rfl)) (fun b4 => ?_)
    refine WS_store hF (i := 0) (by rfl) (by rfl) Try.sizeOf30 (by rfl) (by rfl) (by rfl) (by first | decide | exact Nat.le_of_ble_eq_true rfl | simp) ?_
    refine WS_det hF (by rfl) (y_assign (c := .int .i64 _) (by rfl)) ?_
    refine WS_nil ?_
    refine Then_normal ?_
    refine W_seq ?_
    refine W_region_lit (fun ds => ?_)
    refine WS_det hF (by rfl) (y_loadN (by rfl) Try.isAgg24 Try.sizeOf24 (Mem.own (us := [.slice _ _ _, .int .i64 _, .int .i64 _]) 3 (by rfl) (by rfl)) (by rfl)) ?_
    refine WS_det hF (by rfl) (y_move (c := .int .i64 _) (by rfl)) ?_
    refine WS_det hF (by rfl) (y_callL (by rfl) (by rfl) Try.call14 (fun w hw => Ct_eq (rvolume_any t a cap x w hn (hx.st w hw)) hv)) ?_
    refine WS_det hF (by rfl) (y_move (c := .tuple _) (by rfl)) ?_
    refine WS_det hF (by rfl) (y_extract (c := .agg _) (by rfl) (by rfl)) ?_
    refine WS_det hF (by rfl) (y_extract (c := .int .i64 _) (by rfl) (by rfl)) ?_
    refine WS_new hF (by rfl) (y_alloc Try.zeroValue30 (by rfl)) (fun b5 => ?_)
    refine WS_store hF (i := 0) (by rfl) (by rfl) Try.sizeOf30 (by rfl) (by rfl) (by rfl) (by first | decide | exact Nat.le_of_ble_eq_true rfl | simp) ?_
    refine WS_det hF (by rfl) (y_assign (c := .int .i64 _) (by rfl)) ?_
    refine WS_nil ?_
    refine Then_normal ?_
    refine W_seq ?_
    refine W_region_lit (fun ds => ?_)
    refine WS_det hF (by rfl) (y_loadN (by rfl) Try.isAgg24 Try.sizeOf24 (Mem.own (us := [.slice _ _ _, .int .i64 _, .int .i64 _]) 2 (by rfl) (by rfl)) (by rfl)) ?_
    refine WS_det hF (by rfl) (y_move (c := .int .i64 _) (by rfl)) ?_
    refine WS_det hF (by rfl) (y_callL (by rfl) (by rfl) Try.call15 (fun w hw => Ct_eq (eighth_any t a' cap' y i w hn (NewRow.ints hrow hx.len (by repeat (first | exact List.Sublist.refl _ | exact List.sublist_append_left _ _ | exact List.nil_sublist _ | apply List.Sublist.cons_cons | apply List.Sublist.cons | refine List.Sublist.trans ?_ (List.sublist_append_right _ _))) w hw) hi) he)) ?_
    refine WS_det hF (by rfl) (y_move (c := .tuple _) (by rfl)) ?_
    refine WS_det hF (by rfl) (y_extract (c := .agg _) (by rfl) (by rfl)) ?_
    refine WS_det hF (by rfl) (y_extract (c := .int .i64 _) (by rfl) (by rfl)) ?_
    refine WS_new hF (by rfl) (y_alloc Try.zeroValue30 (by rfl)) (fun b6 => ?_)
    refine WS_store hF (i := 0) (by rfl) (by rfl) Try.sizeOf30 (by rfl) (by rfl) (by rfl) (by first | decide | exact Nat.le_of_ble_eq_true rfl | simp) ?_
    refine WS_det hF (by rfl) (y_assign (c := .int .i64 _) (by rfl)) ?_
    refine WS_nil ?_
    refine Then_normal ?_
    refine W_seq ?_
    refine W_region_lit (fun ds => ?_)
    refine WS_det hF (by rfl) (y_loadN (by rfl) Try.isAgg24 Try.sizeOf24 (Mem.own (us := [.slice _ _ _, .int .i64 _, .int .i64 _]) 5 (by rfl) (by rfl)) (by rfl)) ?_
    refine WS_det hF (by rfl) (y_move (c := .int .i64 _) (by rfl)) ?_
    refine WS_det hF (by rfl) (y_callL (by rfl) (by rfl) Try.call16 (fun w hw => Ct_eq (reighth_any t a cap y i w hn (hx.st w hw) hi) he)) ?_
    refine WS_det hF (by rfl) (y_move (c := .tuple _) (by rfl)) ?_
    refine WS_det hF (by rfl) (y_extract (c := .agg _) (by rfl) (by rfl)) ?_
    refine WS_det hF (by rfl) (y_extract (c := .int .i64 _) (by rfl) (by rfl)) ?_
    refine WS_new hF (by rfl) (y_alloc Try.zeroValue30 (by rfl)) (fun b7 => ?_)
    refine WS_store hF (i := 0) (by rfl) (by rfl) Try.sizeOf30 (by rfl) (by rfl) (by rfl) (by first | decide | exact Nat.le_of_ble_eq_true rfl | simp) ?_
    refine WS_det hF (by rfl) (y_assign (c := .int .i64 _) (by rfl)) ?_
    refine WS_nil ?_
    refine Then_normal ?_
    refine W_seq ?_
    refine W_region_lit (fun ds => ?_)
    refine WS_det hF (by rfl) (y_loadN (by rfl) Try.isAgg24 Try.sizeOf24 (Mem.own (us := [.slice _ _ _, .int .i64 _, .int .i64 _]) 4 (by rfl) (by rfl)) (by rfl)) ?_
    refine WS_det hF (by rfl) (y_loadN (by rfl) Try.isAgg26 Try.sizeOf26 (Mem.own (us := [.int .i64 _, .int .i64 _]) 5 (by rfl) (by rfl)) (by rfl)) ?_
    refine WS_det hF (by rfl) (y_callL (by rfl) (by rfl) Try.call17 (fun w hw => Ct_eq (range_any t a' cap' z1 z2 w hn (NewRow.ints hrow hx.len (by repeat (first | exact List.Sublist.refl _ | exact List.sublist_append_left _ _ | exact List.nil_sublist _ | apply List.Sublist.cons_cons | apply List.Sublist.cons | refine List.Sublist.trans ?_ (List.sublist_append_right _ _))) w hw)) hr)) ?_
    refine WS_det hF (by rfl) (y_move (c := .tuple _) (by rfl)) ?_
    refine WS_det hF (by rfl) (y_extract (c := .agg _) (by rfl) (by rfl)) ?_
    refine WS_det hF (by rfl) (y_extract (c := .int .i64 _) (by rfl) (by rfl)) ?_
    refine WS_new hF (by rfl) (y_alloc Try.zeroValue26 (by rfl)) (fun b8 => ?_)
    refine WS_store hF (i := 0) (by rfl) (by rfl) Try.sizeOf26 (by rfl) (by rfl) (by rfl) (by first | decide | exact Nat.le_of_ble_eq_true rfl | simp) ?_
    refine WS_det hF (by rfl) (y_assign (c := .int .i64 _) (by rfl)) ?_
    refine WS_nil ?_
    refine Then_normal ?_
    refine W_seq ?_
    refine W_region_lit (fun ds => ?_)
    refine WS_det hF (by rfl) (y_loadN (by rfl) Try.isAgg24 Try.sizeOf24 (Mem.own (us := [.slice _ _ _, .int .i64 _, .int .i64 _]) 7 (by rfl) (by rfl)) (by rfl)) ?_
    refine WS_det hF (by rfl) (y_loadN (by rfl) Try.isAgg26 Try.sizeOf26 (Mem.own (us := [.int .i64 _, .int .i64 _]) 6 (by rfl) (by rfl)) (by rfl)) ?_
    refine WS_det hF (by rfl) (y_callL (by rfl) (by rfl) Try.call18 (fun w hw => Ct_eq (rrange_any t a cap z1 z2 w hn (hx.st w hw)) hr)) ?_
    refine WS_det hF (by rfl) (y_move (c := .tuple _) (by rfl)) ?_
    refine WS_det hF (by rfl) (y_extract (c := .agg _) (by rfl) (by rfl)) ?_
    refine WS_det hF (by rfl) (y_extract (c := .int .i64 _) (by rfl) (by rfl)) ?_
    refine WS_new hF (by rfl) (y_alloc Try.zeroValue26 (by rfl)) (fun b9 => ?_)
    refine WS_store hF (i := 0) (by rfl) (by rfl) Try.sizeOf26 (by rfl) (by rfl) (by rfl) (by first | decide | exact Nat.le_of_ble_eq_true rfl | simp) ?_
    refine WS_det hF (by rfl) (y_assign (c := .int .i64 _) (by rfl)) ?_
    refine WS_nil ?_
    refine Then_normal ?_
    refine W_seq ?_
    refine W_draw0 hF Trymixed [] (by decide +kernel) (fun ds => ?_)
    refine P_det (by rfl) (Over_nil (y_loadN (by rfl) Try.isAgg24 Try.sizeOf24 (Mem.own (us := [.slice _ _ _, .int .i64 _, .int .i64 _]) 6 (by rfl) (by rfl)) (by rfl))) ?_
    refine P_det (by rfl) (Over_nil (y_callL (by rfl) (by rfl) Try.call19 (fun w hw => check_any t a' cap' w hn (NewRow.ints hrow hx.len (by repeat (first | exact List.Sublist.refl _ | exact List.sublist_append_left _ _ | exact List.nil_sublist _ | apply List.Sublist.cons_cons | apply List.Sublist.cons | refine List.Sublist.trans ?_ (List.sublist_append_right _ _))) w hw)))) ?_
    refine P_det (by rfl) (Over_nil (y_loadN (by rfl) Try.isAgg24 Try.sizeOf24 (Mem.own (us := [.slice _ _ _, .int .i64 _, .int .i64 _]) 8 (by rfl) (by rfl)) (by rfl))) ?_
    refine P_det (by rfl) (Over_nil (y_callL (by rfl) (by rfl) Try.call20 (fun w hw => rcheck_any t a cap w hn (hx.st w hw)))) ?_
    refine P_det (by rfl) (Over_nil (y_eqlT (by rfl) (by rfl))) ?_
    refine P_det (by rfl) (Over_nil (y_move (c := .bool _) (by rfl))) ?_
    refine P_det (by rfl) (Over_nil (y_loadN (by rfl) Try.isAgg30 Try.sizeOf30 (Mem.own (us := [.int .i64 _, .int .i64 _]) 5 (by rfl) (by rfl)) (by rfl))) ?_
    refine P_det (by rfl) (Over_nil (y_loadN (by rfl) Try.isAgg30 Try.sizeOf30 (Mem.own (us := [.int .i64 _, .int .i64 _]) 4 (by rfl) (by rfl)) (by rfl))) ?_
    refine P_det (by rfl) (Over_nil (y_eqlAT (by rfl) (by rfl) eqA30 (by simp only [ieq_self, Bool.and_self, Bool.not_true]))) ?_
    refine P_det (by rfl) (Over_nil (by first | exact y_pick_t (c := .bool _) (by rfl) (by rfl) | exact y_pick_f (c := .bool _) (by rfl) (by rfl))) ?_
    refine P_det (by rfl) (Over_nil (y_move (c := .bool _) (by rfl))) ?_
    refine P_det (by rfl) (Over_nil (y_move (c := .int .i64 _) (by rfl))) ?_
    refine P_det (by rfl) (Over_nil (y_move (c := .int .i64 _) (by rfl))) ?_
    refine P_det (by rfl) (Over_nil (y_eqlT (by rfl) (by rfl))) ?_
    refine P_det (by rfl) (Over_nil (by first | exact y_pick_t (c := .bool _) (by rfl) (by rfl) | exact y_pick_f (c := .bool _) (by rfl) (by rfl))) ?_
    refine P_det (by rfl) (Over_nil (y_move (c := .bool _) (by rfl))) ?_
    refine P_det (by rfl) (Over_nil (y_loadN (by rfl) Try.isAgg30 Try.sizeOf30 (Mem.own (us := [.int .i64 _, .int .i64 _]) 3 (by rfl) (by rfl)) (by rfl))) ?_
    refine P_det (by rfl) (Over_nil (y_loadN (by rfl) Try.isAgg30 Try.sizeOf30 (Mem.own (us := [.int .i64 _, .int .i64 _]) 2 (by rfl) (by rfl)) (by rfl))) ?_
    refine P_det (by rfl) (Over_nil (y_eqlAT (by rfl) (by rfl) eqA30 (by simp only [ieq_self, Bool.and_self, Bool.not_true]))) ?_
    refine P_det (by rfl) (Over_nil (by first | exact y_pick_t (c := .bool _) (by rfl) (by rfl) | exact y_pick_f (c := .bool _) (by rfl) (by rfl))) ?_
    refine P_det (by rfl) (Over_nil (y_move (c := .bool _) (by rfl))) ?_
    refine P_det (by rfl) (Over_nil (y_move (c := .int .i64 _) (by rfl))) ?_
    refine P_det (by rfl) (Over_nil (y_move (c := .int .i64 _) (by rfl))) ?_
    refine P_det (by rfl) (Over_nil (y_eqlT (by rfl) (by rfl))) ?_
    refine P_det (by rfl) (Over_nil (by first | exact y_pick_t (c := .bool _) (by rfl) (by rfl) | exact y_pick_f (c := .bool _) (by rfl) (by rfl))) ?_
    refine P_det (by rfl) (Over_nil (y_move (c := .bool _) (by rfl))) ?_
    refine P_det (by rfl) (Over_nil (y_loadN (by rfl) Try.isAgg26 Try.sizeOf26 (Mem.own (us := [.int .i64 _, .int .i64 _]) 1 (by rfl) (by rfl)) (by rfl))) ?_
    refine P_det (by rfl) (Over_nil (y_loadN (by rfl) Try.isAgg26 Try.sizeOf26 (Mem.own (us := [.int .i64 _, .int .i64 _]) 0 (by rfl) (by rfl)) (by rfl))) ?_
    refine P_det (by rfl) (Over_nil (y_eqlAT (by rfl) (by rfl) eqA26 (by simp only [ieq_self, Bool.and_self, Bool.not_true]))) ?_
    refine P_det (by rfl) (Over_nil (by first | exact y_pick_t (c := .bool _) (by rfl) (by rfl) | exact y_pick_f (c := .bool _) (by rfl) (by rfl))) ?_
    refine P_det (by rfl) (Over_nil (y_move (c := .bool _) (by rfl))) ?_
    refine P_det (by rfl) (Over_nil (y_move (c := .int .i64 _) (by rfl))) ?_
    refine P_det (by rfl) (Over_nil (y_move (c := .int .i64 _) (by rfl))) ?_
    refine P_det (by rfl) (Over_nil (y_eqlT (by rfl) (by rfl))) ?_
    refine P_det (by rfl) (Over_nil (by first | exact y_pick_t (c := .bool _) (by rfl) (by rfl) | exact y_pick_f (c := .bool _) (by rfl) (by rfl))) ?_
    refine P_det (by rfl) (Over_nil (y_move (c := .bool _) (by rfl))) ?_
    refine P_det (by rfl) (Over_nil (y_fieldAddr (by rfl) fa24_0)) ?_
    refine P_det (by rfl) (Over_nil (y_load1 (by rfl) Try.isAgg22 (Mem.own1 6 (by rfl) (by rfl)))) ?_
    refine P_det (by rfl) (Over_nil (y_fieldAddr (by rfl) fa24_0)) ?_
    refine P_det (by rfl) (Over_nil (y_load1 (by rfl) Try.isAgg22 (Mem.own1 8 (by rfl) (by rfl)))) ?_
    refine P_det (by rfl) (Over_nil (y_callL (by rfl) (by rfl) Try.call21 (fun w hw => Ct_eq (c' := .bool true) (sameInts_any a' a t.n t.n cap' cap t.pints t.pints w hn (NewRow.ints hrow hx.len (by repeat (first | exact List.Sublist.refl _ | exact List.sublist_append_left _ _ | exact List.nil_sublist _ | apply List.Sublist.cons_cons | apply List.Sublist.cons | refine List.Sublist.trans ?_ (List.sublist_append_right _ _))) w hw) (hx.st w hw)) (by simp)))) ?_
    refine P_det (by rfl) (Over_nil (by first | exact y_pick_t (c := .bool _) (by rfl) (by rfl) | exact y_pick_f (c := .bool _) (by rfl) (by rfl))) ?_
    refine P_det (by rfl) (Over_nil (y_move (c := .bool _) (by rfl))) ?_
    refine P_det (by rfl) (Over_nil (y_fieldAddr (by rfl) fa24_1)) ?_
    refine P_det (by rfl) (Over_nil (y_load1 (by rfl) Try.isAgg3 (Mem.own1 6 (by rfl) (by rfl)))) ?_
    refine P_det (by rfl) (Over_nil (y_fieldAddr (by rfl) fa24_1)) ?_
    refine P_det (by rfl) (Over_nil (y_load1 (by rfl) Try.isAgg3 (Mem.own1 8 (by rfl) (by rfl)))) ?_
    refine P_det (by rfl) (Over_nil (y_eqlT (by rfl) (by rfl))) ?_
    refine P_det (by rfl) (Over_nil (by first | exact y_pick_t (c := .bool _) (by rfl) (by rfl) | exact y_pick_f (c := .bool _) (by rfl) (by rfl))) ?_
    refine P_det (by rfl) (Over_nil (y_move (c := .bool _) (by rfl))) ?_
    refine P_det (by rfl) (Over_nil (y_fieldAddr (by rfl) fa24_2)) ?_
    refine P_det (by rfl) (Over_nil (y_load1 (by rfl) Try.isAgg3 (Mem.own1 6 (by rfl) (by rfl)))) ?_
    refine P_det (by rfl) (Over_nil (y_fieldAddr (by rfl) fa24_2)) ?_
    refine P_det (by rfl) (Over_nil (y_load1 (by rfl) Try.isAgg3 (Mem.own1 8 (by rfl) (by rfl)))) ?_
    refine P_det (by rfl) (Over_nil (y_eqlT (by rfl) (by rfl))) ?_
    refine P_det (by rfl) (Over_nil (by first | exact y_pick_t (c := .bool _) (by rfl) (by rfl) | exact y_pick_f (c := .bool _) (by rfl) (by rfl))) ?_
    refine P_det (by rfl) (Over_nil (y_assign (c := .bool _) (by rfl))) ?_
    refine PW_end (by rfl) ?_
    refine OverAll_nil ?_
    rintro -
    refine Then_normal ?_
    refine W_ret ?_
    refine Fin_ret [.bool _] [] Try.results3 ⟨by rfl, trivial⟩ HSub.nil ?_
    rfl
end Go.Proofs.Ythkimgfgpphgnaa.T
