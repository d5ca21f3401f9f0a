/- Proved: for every input, with no condition, the law CanTells returns true and the input reads as it did (Rows.CanTellsSaid). -/
import Derived.Test.YtjekjehgmljbgaaDoorMb2
import Derived.Test.YtjekjehgmljbgaaDoorMb1
import Derived.Test.YtjekjehgmljbgaaDoorTie
import Derived.Test.YtjekjehgmljbgaaDoorCards
import Derived.LaidMore
import Derived.Stop.Joined
import Derived.SevenTiedAt
set_option linter.unusedVariables false
set_option linter.unusedSimpArgs false
/- The law CanTells, walked. -/
namespace Go.Proofs.YtjekjehgmljbgaaDoor.T
open Go.RowKit Go.Proofs Go.Eng
set_option maxRecDepth 100000
set_option maxHeartbeats 1000000
set_option linter.unusedVariables false
set_option linter.unusedSimpArgs false

theorem a_ep26_0 {x_0 : Int} {x_1 : Int} : ∀ w, (part 3 #[.int .i64 x_0, .int .i64 x_1] 0).run Tryd.prog w = .ok (.int .i64 x_0) w := fun w => by kernel_rfl
theorem a_ep26_1 {x_0 : Int} {x_1 : Int} : ∀ w, (part 3 #[.int .i64 x_0, .int .i64 x_1] 1).run Tryd.prog w = .ok (.int .i64 x_1) w := fun w => by kernel_rfl
theorem a_gneqA26 {x y : Operand} {x_0 : Int} {x_1 : Int} {y_0 : Int} {y_1 : Int} : ∀ w, (eqGuard .neq 26 x y (.agg #[.int .i64 x_0, .int .i64 x_1]) (.agg #[.int .i64 y_0, .int .i64 y_1])).run Tryd.prog w = .ok () w := fun w => by kernel_rfl
theorem a_st26 : Tryd.prog.stoodInHeld 26 = false := by kernel_rfl
theorem eq26 {x_0 : Int} {x_1 : Int} {y_0 : Int} {y_1 : Int} : ∀ w, (Op.equalIn Op.maxDepth 26 (.agg #[.int .i64 x_0, .int .i64 x_1]) (.agg #[.int .i64 y_0, .int .i64 y_1])).run Tryd.prog w = .ok (ieq x_0 y_0 && ieq x_1 y_1) w := fun w => by
  unfold Op.maxDepth Op.equalIn
  rw [Sem.run_bind, Tryd.runUnderlying26]
  simp [a_st26, a_ep26_0, eq_int (d := 9998) Tryd.runUnderlying3, a_ep26_1, eq_int (d := 9998) Tryd.runUnderlying3]
  generalize ieq x_0 y_0 = b0
  generalize ieq x_1 y_1 = b1
  cases b0 <;> cases b1 <;> simp
theorem bs27_0  : ∀ w, (Instr.buildSlice 27 0 #[]).run Tryd.prog w = .ok (.slice (some ⟨w.heap.size, 0, none⟩) 0 0) (w.alloc (CB [] 26)) := fun w => by kernel_rfl
theorem bs40_2_0_1 {x0_0a : Option Addr} {x0_0l x0_0c : Nat} {x0_1a : Option Addr} {x0_1l x0_1c : Nat} {x0_2 : Int} {x1_0a : Option Addr} {x1_0l x1_0c : Nat} {x1_1a : Option Addr} {x1_1l x1_1c : Nat} {x1_2 : Int} : ∀ w, (Instr.buildSlice 40 2 #[(0, .agg #[.slice x0_0a x0_0l x0_0c, .slice x0_1a x0_1l x0_1c, .int .i64 x0_2]), (1, .agg #[.slice x1_0a x1_0l x1_0c, .slice x1_1a x1_1l x1_1c, .int .i64 x1_2])]).run Tryd.prog w = .ok (.slice (some ⟨w.heap.size, 0, none⟩) 2 2) (w.alloc (CB [.slice x0_0a x0_0l x0_0c, .slice x0_1a x0_1l x0_1c, .int .i64 x0_2, .slice x1_0a x1_0l x1_0c, .slice x1_1a x1_1l x1_1c, .int .i64 x1_2] 24)) := fun w => by kernel_rfl
theorem neqA26 {x y : Operand} {x_0 : Int} {x_1 : Int} {y_0 : Int} {y_1 : Int} : ∀ w, ((do eqGuard .neq 26 x y (.agg #[.int .i64 x_0, .int .i64 x_1]) (.agg #[.int .i64 y_0, .int .i64 y_1]); binOp .neq 26 (.agg #[.int .i64 x_0, .int .i64 x_1]) (.agg #[.int .i64 y_0, .int .i64 y_1])) : Sem Value).run Tryd.prog w = .ok (.bool (!(ieq x_0 y_0 && ieq x_1 y_1))) w := eq_topN a_gneqA26 eq26

theorem infPo : (Tryd.prog.info? 26).map (fun i => (i.zero, i.size, i.bytes)) = some (some (.agg #[.int .i64 0, .int .i64 0]), 2, 16) := by kernel_rfl
theorem samePo_any (l : List Po) (la : Option Addr) (lcap : Nat) (la' : Option Addr) (lcap' : Nat) (w : World) (hl : l.length ≤ 1000000) (hp : Pos w la l.length lcap l) (hp' : Pos w la' l.length lcap' l) :
    Ct Tryd.prog 18 #[.slice la l.length lcap, .slice la' l.length lcap'] w fun v _ => v = .bool true := by
  have hF := wide_wide
  refine Ct_start (args := [_, _]) Tryd.func18 (by rfl) Tryd.ntmps18 (by rfl) ?_
  refine W_seq ?_
  refine W_region_lit (fun ds => ?_)
  refine WS_det hF (by rfl) (y_assign (c := .bool _) (by rfl)) ?_
  refine WS_nil ?_
  refine Then_normal ?_
  refine W_seq ?_
  refine W_seq ?_
  refine W_region_lit (fun ds => ?_)
  refine WS_det hF (by rfl) (y_move (c := .slice _ _ _) (by rfl)) ?_
  refine WS_det hF (by rfl) (y_len (by rfl) Tryd.runUnderlying27) ?_
  refine WS_det hF (by rfl) (y_move (c := .slice _ _ _) (by rfl)) ?_
  refine WS_det hF (by rfl) (y_len (by rfl) Tryd.runUnderlying27) ?_
  refine WS_det hF (by rfl) (y_neqF (by rfl) (by rfl)) ?_
  refine WS_nil ?_
  refine Then_normal ?_
  refine W_cond (by rfl) (fun c1 => ?_) (fun c1 => ?_)
  · cases c1
  ·
    try simp only [Bool.not_eq_true', Bool.not_eq_false', decide_eq_true_eq, decide_eq_false_iff_not, ne_eq, Classical.not_not, Int.not_lt, Int.not_le] at c1
    refine W_skip ?_
    refine Then_normal ?_
    refine W_seq ?_
    refine W_seq ?_
    refine W_region_lit (fun ds => ?_)
    refine WS_det hF (by rfl) (y_assign (c := .int .i64 _) (by rfl)) ?_
    refine WS_nil ?_
    refine Then_normal ?_
    refine W_block ?_
    refine W_loop (γ := Nat) (fun k => k ≤ l.length) (fun k => [(0, .slice la l.length lcap), (1, .slice la' l.length lcap'), (5, .int .i64 (k : Int))]) (fun _ => _) (fun k => l.length - k) (0) (Nat.zero_le _) (by repeat (first | exact trivial | refine ⟨by rfl, ?_⟩)) (List.Sublist.refl _) ?_
    intro k e hk
    refine W_seq ?_
    refine W_seq ?_
    refine W_region_lit (fun ds => ?_)
    refine WS_det hF (by rfl) (y_move (c := .int .i64 _) (by rfl)) ?_
    refine WS_det hF (by rfl) (y_move (c := .slice _ _ _) (by rfl)) ?_
    refine WS_det hF (by rfl) (y_len (by rfl) Tryd.runUnderlying27) ?_
    refine WS_det hF (by rfl) (y_lss (by rfl) (by rfl)) ?_
    refine WS_nil ?_
    refine Then_normal ?_
    refine W_cond (by rfl) (fun c4 => ?_) (fun c4 => ?_)
    ·
      try simp only [Bool.not_eq_true', Bool.not_eq_false', decide_eq_true_eq, decide_eq_false_iff_not, ne_eq, Classical.not_not, Int.not_lt, Int.not_le] at c4
      obtain ⟨b, o, rfl, hc⟩ := hp.cell k (by omega)
      change At w b _ (l.getD k Po.z).cells at hc
      obtain ⟨bz, oz, rfl, hcz⟩ := hp'.cell k (by omega)
      change At w bz _ (l.getD k Po.z).cells at hcz
      refine W_skip ?_
      refine Then_normal ?_
      refine W_seq ?_
      refine W_block ?_
      refine W_seq ?_
      refine W_draw0 hF Trydmixed [] (by decide +kernel) (fun ds => ?_)
      refine P_det (by rfl) (Over_nil (y_move (c := .slice _ _ _) (by rfl))) ?_
      refine P_det (by rfl) (Over_nil (y_move (c := .int .i64 _) (by rfl))) ?_
      refine P_det (by rfl) (Over_nil (y_index (k := k) (by rfl) (by rfl) (by first | rfl | omega) (by first | decide | omega) Tryd.runUnderlying27 Tryd.sizeOf26)) ?_
      refine P_det (by rfl) (Over_nil (y_loadN (by rfl) Tryd.isAgg26 Tryd.sizeOf26 (by first | exact Mem.old (by assumption) | exact Mem.oldAt (us := [.int .i64 _, .int .i64 _]) (by assumption) (by rfl) | exact Mem.oldAtL (us := [.int .i64 _, .int .i64 _]) (by assumption) (by rfl) (by rfl)) (by rfl))) ?_
      refine P_det (by rfl) (Over_nil (y_move (c := .slice _ _ _) (by rfl))) ?_
      refine P_det (by rfl) (Over_nil (y_move (c := .int .i64 _) (by rfl))) ?_
      refine P_det (by rfl) (Over_nil (y_index (k := k) (by rfl) (by rfl) (by first | rfl | omega) (by first | decide | omega) Tryd.runUnderlying27 Tryd.sizeOf26)) ?_
      refine P_det (by rfl) (Over_nil (y_loadN (by rfl) Tryd.isAgg26 Tryd.sizeOf26 (by first | exact Mem.old (by assumption) | exact Mem.oldAt (us := [.int .i64 _, .int .i64 _]) (by assumption) (by rfl) | exact Mem.oldAtL (us := [.int .i64 _, .int .i64 _]) (by assumption) (by rfl) (by rfl)) (by rfl))) ?_
      refine P_det (by rfl) (Over_nil (y_neqlAF (by rfl) (by rfl) neqA26 (by simp only [ieq_self, Bool.and_self, Bool.not_true]))) ?_
      refine PW_end (by rfl) ?_
      refine OverAll_nil ?_
      rintro -
      refine Then_normal ?_
      refine W_cond (by rfl) (fun c6 => ?_) (fun c6 => ?_)
      · cases c6
      ·
        try simp only [Bool.not_eq_true', Bool.not_eq_false', decide_eq_true_eq, decide_eq_false_iff_not, ne_eq, Classical.not_not, Int.not_lt, Int.not_le] at c6
        refine W_skip ?_
        refine InB_normal ?_
        refine Then_normal ?_
        refine W_region_lit (fun ds => ?_)
        refine WS_det hF (by rfl) (y_move (c := .int .i64 _) (by rfl)) ?_
        refine WS_det hF (by rfl) (y_add (by rfl) (by rfl) (by unfold I64; omega)) ?_
        refine WS_det hF (by rfl) (y_assign (c := .int .i64 _) (by rfl)) ?_
        refine WS_nil ?_
        exact Loop_next (k + 1) (by omega) (by repeat (first | exact trivial | refine ⟨by rfl, ?_⟩)) (by repeat (first | exact List.Sublist.refl _ | exact List.nil_sublist _ | apply List.Sublist.cons_cons | apply List.Sublist.cons)) (by omega)
    ·
      try simp only [Bool.not_eq_true', Bool.not_eq_false', decide_eq_true_eq, decide_eq_false_iff_not, ne_eq, Classical.not_not, Int.not_lt, Int.not_le] at c4
      refine W_exit ?_
      refine Then_exit ?_
      refine Loop_exit ?_
      refine InB_same ?_
      refine Then_normal ?_
      refine W_seq ?_
      refine W_region_lit (fun ds => ?_)
      refine WS_det hF (by rfl) (y_assign (c := .bool _) (by rfl)) ?_
      refine WS_nil ?_
      refine Then_normal ?_
      refine W_ret ?_
      refine Fin_ret [.bool _] [] Tryd.results18 ⟨by rfl, trivial⟩ HSub.nil ?_
      rfl
theorem Cn.poC_bd (c : Cn) (p : Po) (h : c.n ≤ 10) : (c.poC p).n ≤ 1000 ∧ (c.poC p).inn.length ≤ 1000 := by
  have hof : ∀ x, (c.of x).n ≤ 1000 ∧ (c.of x).inn.length ≤ 1000 := fun x => by
    refine ⟨by show c.n ≤ 1000; omega, ?_⟩
    unfold Cn.of
    simp only [List.length_take, List.length_cons, List.length_nil]
    omega
  unfold Cn.poC
  split
  · split
    · exact hof _
    · exact ⟨Nat.zero_le _, Nat.zero_le _⟩
  · exact ⟨Nat.zero_le _, Nat.zero_le _⟩
theorem Cn.plC_bd (c : Cn) (l : List Po) (h : c.n ≤ 10) : (c.plC l).n ≤ 1000 ∧ (c.plC l).inn.length ≤ 1000 := by
  have hof : ∀ x, (c.of x).n ≤ 1000 ∧ (c.of x).inn.length ≤ 1000 := fun x => by
    refine ⟨by show c.n ≤ 1000; omega, ?_⟩
    unfold Cn.of
    simp only [List.length_take, List.length_cons, List.length_nil]
    omega
  unfold Cn.plC
  split
  · split
    · exact hof _
    · exact ⟨Nat.zero_le _, Nat.zero_le _⟩
  · exact ⟨Nat.zero_le _, Nat.zero_le _⟩
theorem canTells_any (c : Cn) (a1 : Option Addr) (p1 : Nat) (a2 : Option Addr) (p2 : Nat) (p : Po) (l : List Po) (la : Option Addr) (ln lcap : Nat) (w : World) (hG : Gv w) (h1 : Ints w a1 c.n p1 c.sz) (h2 : Ints w a2 c.inn.length p2 c.inn) (hp : Pos w la ln lcap l) :
    Ct Tryd.prog 3 #[.agg #[.slice a1 c.n p1, .slice a2 c.inn.length p2, .int .i64 c.st], .agg p.cells.toArray, .slice la ln lcap] w fun v _ => v = .bool true := by
  have hln := hp.len
  subst hln
  have hF := wide_wide
  refine Ct_start (args := [_, _, _]) Tryd.func3 (by rfl) Tryd.ntmps3 (by rfl) ?_
  refine W_seq ?_
  refine W_region_lit (fun ds => ?_)
  refine WS_new hF (by rfl) (y_box (by rfl)) (fun b1 => ?_)
  refine WS_new hF (by rfl) (y_box (by rfl)) (fun b2 => ?_)
  refine WS_det hF (by rfl) (y_assign (c := .bool _) (by rfl)) ?_
  refine WS_nil ?_
  refine Then_normal ?_
  refine W_seq ?_
  refine W_seq ?_
  refine W_region_lit (fun ds => ?_)
  refine WS_det hF (by rfl) (y_loadN (by rfl) Tryd.isAgg24 Tryd.sizeOf24 (Mem.own (us := [.slice _ _ _, .slice _ _ _, .int .i64 _]) 1 (by rfl) (by rfl)) (by rfl)) ?_
  refine WS_det hF (by rfl) (y_callL (by rfl) (by rfl) Tryd.call9 (fun w hw => rcgreat_any c a1 p1 a2 p2 w)) ?_
  refine WS_det hF (by rfl) (y_move (c := .bool _) (by rfl)) ?_
  refine WS_split 28 (by rfl) (fun g1_2 => ?_) (fun g1_2 => ?_)
  ·
    try simp only [Bool.not_eq_true', Bool.not_eq_false', decide_eq_true_eq, decide_eq_false_iff_not, ne_eq, Classical.not_not, Int.not_lt, Int.not_le] at g1_2
    refine WS_no hF (by rfl) ?_
    refine WS_no hF (by rfl) ?_
    refine WS_no hF (by rfl) ?_
    refine WS_det hF (by rfl) (by first | exact y_pick_t (c := .bool _) (by rfl) (by rfl) | exact y_pick_f (c := .bool _) (by rfl) (by rfl)) ?_
    refine WS_nil ?_
    refine Then_normal ?_
    refine W_cond (by rfl) (fun c1 => ?_) (fun c1 => ?_)
    ·
      try simp only [Bool.not_eq_true', Bool.not_eq_false', decide_eq_true_eq, decide_eq_false_iff_not, ne_eq, Classical.not_not, Int.not_lt, Int.not_le] at c1
      refine W_seq ?_
      refine W_region_lit (fun ds => ?_)
      refine WS_det hF (by rfl) (y_assign (c := .bool _) (by rfl)) ?_
      refine WS_nil ?_
      refine Then_normal ?_
      refine W_ret ?_
      refine Then_ret ?_
      refine Fin_ret [.bool _] [] Tryd.results3 ⟨by rfl, trivial⟩ HSub.nil ?_
      rfl
    · cases c1
  ·
    try simp only [Bool.not_eq_true', Bool.not_eq_false', decide_eq_true_eq, decide_eq_false_iff_not, ne_eq, Classical.not_not, Int.not_lt, Int.not_le] at g1_2
    simp only [Bool.or_eq_false_iff, decide_eq_false_iff_not] at g1_2
    have hn : c.n ≤ 1000000 := by omega
    have hm : c.inn.length ≤ 1000000 := by omega
    refine WS_det hF (by rfl) (y_move (c := .slice _ _ _) (by rfl)) ?_
    refine WS_det hF (by rfl) (y_len (by rfl) Tryd.runUnderlying27) ?_
    refine WS_det hF (by rfl) (y_gtr (by rfl) (by rfl)) ?_
    refine WS_det hF (by rfl) (by first | exact y_pick_t (c := .bool _) (by rfl) (by rfl) | exact y_pick_f (c := .bool _) (by rfl) (by rfl)) ?_
    refine WS_nil ?_
    refine Then_normal ?_
    refine W_cond (by rfl) (fun c1 => ?_) (fun c1 => ?_)
    ·
      try simp only [Bool.not_eq_true', Bool.not_eq_false', decide_eq_true_eq, decide_eq_false_iff_not, ne_eq, Classical.not_not, Int.not_lt, Int.not_le] at c1
      refine W_seq ?_
      refine W_region_lit (fun ds => ?_)
      refine WS_det hF (by rfl) (y_assign (c := .bool _) (by rfl)) ?_
      refine WS_nil ?_
      refine Then_normal ?_
      refine W_ret ?_
      refine Then_ret ?_
      refine Fin_ret [.bool _] [] Tryd.results3 ⟨by rfl, trivial⟩ HSub.nil ?_
      rfl
    ·
      try simp only [Bool.not_eq_true', Bool.not_eq_false', decide_eq_true_eq, decide_eq_false_iff_not, ne_eq, Classical.not_not, Int.not_lt, Int.not_le] at c1
      have hl : l.length ≤ 1000000 := by omega
      obtain ⟨ab1, ab2⟩ := c.poC_bd p (by omega)
      obtain ⟨sb1, sb2⟩ := c.plC_bd l (by omega)
      refine W_skip ?_
      refine Then_normal ?_
      refine W_seq ?_
      refine W_region_lit (fun ds => ?_)
      refine WS_det hF (by rfl) (y_loadN (by rfl) Tryd.isAgg24 Tryd.sizeOf24 (Mem.own (us := [.slice _ _ _, .slice _ _ _, .int .i64 _]) 1 (by rfl) (by rfl)) (by rfl)) ?_
      refine WS_gen hF (by rfl) (y_callL (by rfl) (by rfl) Tryd.call10 (fun w hw => rctwin_any c a1 p1 a2 p2 w hn hm (h1.st w hw) (h2.st w hw))) ?_
      rintro _ _ ⟨z1, q1, z2, q2, H1, H2, rfl, hr1, hr2, rfl⟩
      refine WS_back ?_
      refine WS_newS hF (by rfl) (y_buildSliceL bs27_0 (by rfl)) (fun b3 => ?_)
      refine WS_det hF (by rfl) (y_move (c := .slice _ _ _) (by rfl)) ?_
      refine WS_gen hF (by rfl) (y_append0 (by rfl) (by rfl) Tryd.underlying27 infPo (by rfl) (Rws.src po_len hp) (rowOf_len po_len _ _) (by omega) (by omega)) ?_
      rintro _ Hl hrl
      have hrl2 := hrl
      obtain ⟨la2, lcap2, rfl, _⟩ := hrl
      refine WS_back ?_
      refine WS_new hF (by rfl) (y_alloc Tryd.zeroValue24 (by rfl)) (fun bo => ?_)
      refine WS_store hF (us := [.slice _ _ _, .slice _ _ _, .int .i64 _]) (i := 0) (by rfl) (by rfl) Tryd.sizeOf24 (by rfl) (by rfl) (by rfl) (by first | decide | exact Nat.le_of_ble_eq_true rfl | simp) ?_
      refine WS_det hF (by rfl) (y_assign (c := .slice _ _ _) (by rfl)) ?_
      refine WS_nil ?_
      refine Then_normal ?_
      refine W_seq ?_
      refine W_region_lit (fun ds => ?_)
      refine WS_det hF (by rfl) (y_loadN (by rfl) Tryd.isAgg24 Tryd.sizeOf24 (Mem.own (us := [.slice _ _ _, .slice _ _ _, .int .i64 _]) 0 (by rfl) (by rfl)) (by rfl)) ?_
      refine WS_det hF (by rfl) (y_loadN (by rfl) Tryd.isAgg26 Tryd.sizeOf26 (Mem.own (us := [.int .i64 _, .int .i64 _]) 2 (by rfl) (by rfl)) (by rfl)) ?_
      refine WS_gen hF (by rfl) (y_callL (by rfl) (by rfl) Tryd.call11 (fun w hw => pour_any c z1 q1 z2 q2 p w (hG.st w hw) hn hm (NewRow.ints hr1 rfl sbA w hw) (NewRow.ints hr2 rfl sbA w hw))) ?_
      rintro _ _ ⟨_, rfl, x1, y1, x2, y2, Hx1, Hx2, rfl, hx1, hx2, rfl⟩
      refine WS_back ?_
      refine WS_det hF (by rfl) (y_move (c := .tuple _) (by rfl)) ?_
      refine WS_det hF (by rfl) (y_extract (c := .agg _) (by rfl) (by rfl)) ?_
      refine WS_det hF (by rfl) (y_extract (c := .int .i64 _) (by rfl) (by rfl)) ?_
      refine WS_new hF (by rfl) (y_alloc Tryd.zeroValue24 (by rfl)) (fun b4 => ?_)
      refine WS_store hF (us := [.slice _ _ _, .slice _ _ _, .int .i64 _]) (i := 0) (by rfl) (by rfl) Tryd.sizeOf24 (by rfl) (by rfl) (by rfl) (by first | decide | exact Nat.le_of_ble_eq_true rfl | simp) ?_
      refine WS_det hF (by rfl) (y_assign (c := .int .i64 _) (by rfl)) ?_
      refine WS_nil ?_
      refine Then_normal ?_
      refine W_seq ?_
      refine W_region_lit (fun ds => ?_)
      refine WS_det hF (by rfl) (y_loadN (by rfl) Tryd.isAgg24 Tryd.sizeOf24 (Mem.own (us := [.slice _ _ _, .slice _ _ _, .int .i64 _]) 4 (by rfl) (by rfl)) (by rfl)) ?_
      refine WS_det hF (by rfl) (y_loadN (by rfl) Tryd.isAgg26 Tryd.sizeOf26 (Mem.own (us := [.int .i64 _, .int .i64 _]) 3 (by rfl) (by rfl)) (by rfl)) ?_
      refine WS_gen hF (by rfl) (y_callL (by rfl) (by rfl) Tryd.call12 (fun w hw => rpour_any c a1 p1 a2 p2 p w hn hm (h1.st w hw) (h2.st w hw))) ?_
      rintro _ _ ⟨_, rfl, e1, f1, e2, f2, He1, He2, rfl, he1, he2, rfl⟩
      refine WS_back ?_
      refine WS_det hF (by rfl) (y_move (c := .tuple _) (by rfl)) ?_
      refine WS_det hF (by rfl) (y_extract (c := .agg _) (by rfl) (by rfl)) ?_
      refine WS_det hF (by rfl) (y_extract (c := .int .i64 _) (by rfl) (by rfl)) ?_
      refine WS_new hF (by rfl) (y_alloc Tryd.zeroValue24 (by rfl)) (fun b5 => ?_)
      refine WS_store hF (us := [.slice _ _ _, .slice _ _ _, .int .i64 _]) (i := 0) (by rfl) (by rfl) Tryd.sizeOf24 (by rfl) (by rfl) (by rfl) (by first | decide | exact Nat.le_of_ble_eq_true rfl | simp) ?_
      refine WS_det hF (by rfl) (y_assign (c := .int .i64 _) (by rfl)) ?_
      refine WS_nil ?_
      refine Then_normal ?_
      refine W_seq ?_
      refine W_keep [(2, .slice _ _ _), (3, .pointer _), (6, .bool _), (7, .pointer _), (8, .slice _ _ _), (9, .pointer _), (10, .int .i64 _), (11, .pointer _), (12, .int .i64 _)] (by repeat (first | exact trivial | refine ⟨by rfl, ?_⟩)) (fun e => ?_)
      refine W_region_lit (fun ds => ?_)
      refine WS_det hF (by rfl) (y_loadN (by rfl) Tryd.isAgg24 Tryd.sizeOf24 (Mem.own (us := [.slice _ _ _, .slice _ _ _, .int .i64 _]) 2 (by rfl) (by rfl)) (by rfl)) ?_
      refine WS_det hF (by rfl) (y_move (c := .slice _ _ _) (by rfl)) ?_
      refine WS_gen hF (by rfl) (y_callL (by rfl) (by rfl) Tryd.call13 (fun w hw => play_any c z1 q1 z2 q2 l la2 lcap2 w (hG.st w hw) hl hn hm (NewRow.ints hr1 rfl sbA w hw) (NewRow.ints hr2 rfl sbA w hw) (NewRow.rws po_len hrl2 rfl sbA w hw))) ?_
      rintro _ _ ⟨_, rfl, m1, n1, m2, n2, Hm1, Hm2, rfl, hm1, hm2, rfl⟩
      refine WS_back ?_
      refine WS_det hF (by rfl) (y_move (c := .tuple _) (by rfl)) ?_
      refine WS_det hF (by rfl) (y_extract (c := .agg _) (by rfl) (by rfl)) ?_
      refine WS_det hF (by rfl) (y_extract (c := .int .i64 _) (by rfl) (by rfl)) ?_
      refine WS_det hF (by rfl) (y_extract (c := .int .i64 _) (by rfl) (by rfl)) ?_
      refine WS_det hF (by rfl) (y_extract (c := .int .i64 _) (by rfl) (by rfl)) ?_
      refine WS_new hF (by rfl) (y_alloc Tryd.zeroValue24 (by rfl)) (fun b6 => ?_)
      refine WS_store hF (us := [.slice _ _ _, .slice _ _ _, .int .i64 _]) (i := 0) (by rfl) (by rfl) Tryd.sizeOf24 (by rfl) (by rfl) (by rfl) (by first | decide | exact Nat.le_of_ble_eq_true rfl | simp) ?_
      refine WS_det hF (by rfl) (y_assign (c := .int .i64 _) (by rfl)) ?_
      refine WS_det hF (by rfl) (y_assign (c := .int .i64 _) (by rfl)) ?_
      refine WS_det hF (by rfl) (y_assign (c := .int .i64 _) (by rfl)) ?_
      refine WS_nil ?_
      refine Then_normal ?_
      refine W_seq ?_
      refine W_region_lit (fun ds => ?_)
      refine WS_det hF (by rfl) (y_loadN (by rfl) Tryd.isAgg24 Tryd.sizeOf24 (Mem.own (us := [.slice _ _ _, .slice _ _ _, .int .i64 _]) 6 (by rfl) (by rfl)) (by rfl)) ?_
      refine WS_det hF (by rfl) (y_move (c := .slice _ _ _) (by rfl)) ?_
      refine WS_gen hF (by rfl) (y_callL (by rfl) (by rfl) Tryd.call14 (fun w hw => rplay_any c a1 p1 a2 p2 l la lcap w hl hn hm (h1.st w hw) (h2.st w hw) (hp.st w hw))) ?_
      rintro _ _ ⟨_, rfl, i1, j1, i2, j2, Hi1, Hi2, rfl, hi1, hi2, rfl⟩
      refine WS_back ?_
      refine WS_det hF (by rfl) (y_move (c := .tuple _) (by rfl)) ?_
      refine WS_det hF (by rfl) (y_extract (c := .agg _) (by rfl) (by rfl)) ?_
      refine WS_det hF (by rfl) (y_extract (c := .int .i64 _) (by rfl) (by rfl)) ?_
      refine WS_det hF (by rfl) (y_extract (c := .int .i64 _) (by rfl) (by rfl)) ?_
      refine WS_det hF (by rfl) (y_extract (c := .int .i64 _) (by rfl) (by rfl)) ?_
      refine WS_new hF (by rfl) (y_alloc Tryd.zeroValue24 (by rfl)) (fun b7 => ?_)
      refine WS_store hF (us := [.slice _ _ _, .slice _ _ _, .int .i64 _]) (i := 0) (by rfl) (by rfl) Tryd.sizeOf24 (by rfl) (by rfl) (by rfl) (by first | decide | exact Nat.le_of_ble_eq_true rfl | simp) ?_
      refine WS_det hF (by rfl) (y_assign (c := .int .i64 _) (by rfl)) ?_
      refine WS_det hF (by rfl) (y_assign (c := .int .i64 _) (by rfl)) ?_
      refine WS_det hF (by rfl) (y_assign (c := .int .i64 _) (by rfl)) ?_
      refine WS_nil ?_
      refine Then_normal ?_
      refine W_seq ?_
      refine W_region_lit (fun ds => ?_)
      refine WS_det hF (by rfl) (y_loadN (by rfl) Tryd.isAgg24 Tryd.sizeOf24 (Mem.own (us := [.slice _ _ _, .slice _ _ _, .int .i64 _]) 3 (by rfl) (by rfl)) (by rfl)) ?_
      refine WS_det hF (by rfl) (y_loadN (by rfl) Tryd.isAgg24 Tryd.sizeOf24 (Mem.own (us := [.slice _ _ _, .slice _ _ _, .int .i64 _]) 2 (by rfl) (by rfl)) (by rfl)) ?_
      refine WS_det hF (by rfl) (y_callL (by rfl) (by rfl) Tryd.call15 (fun w hw => Ct_eq (rcsame_any (c.poC p) x1 y1 x2 y2 (c.poC p) e1 f1 e2 f2 w (by omega) (by omega) (NewRow.ints hx1 rfl sbA w hw) (NewRow.ints hx2 rfl sbA w hw) (NewRow.ints he1 rfl sbA w hw) (NewRow.ints he2 rfl sbA w hw)) (c' := .bool true) (by simp))) ?_
      refine WS_det hF (by rfl) (y_move (c := .bool _) (by rfl)) ?_
      refine WS_det hF (by rfl) (y_move (c := .int .i64 _) (by rfl)) ?_
      refine WS_det hF (by rfl) (y_move (c := .int .i64 _) (by rfl)) ?_
      refine WS_det hF (by rfl) (y_eqlT (by rfl) (by rfl)) ?_
      refine WS_det hF (by rfl) (by first | exact y_pick_t (c := .bool _) (by rfl) (by rfl) | exact y_pick_f (c := .bool _) (by rfl) (by rfl)) ?_
      refine WS_det hF (by rfl) (y_move (c := .bool _) (by rfl)) ?_
      refine WS_det hF (by rfl) (y_loadN (by rfl) Tryd.isAgg24 Tryd.sizeOf24 (Mem.own (us := [.slice _ _ _, .slice _ _ _, .int .i64 _]) 1 (by rfl) (by rfl)) (by rfl)) ?_
      refine WS_det hF (by rfl) (y_loadN (by rfl) Tryd.isAgg24 Tryd.sizeOf24 (Mem.own (us := [.slice _ _ _, .slice _ _ _, .int .i64 _]) 0 (by rfl) (by rfl)) (by rfl)) ?_
      refine WS_det hF (by rfl) (y_callL (by rfl) (by rfl) Tryd.call15 (fun w hw => Ct_eq (rcsame_any (c.plC l) m1 n1 m2 n2 (c.plC l) i1 j1 i2 j2 w (by omega) (by omega) (NewRow.ints hm1 rfl sbA w hw) (NewRow.ints hm2 rfl sbA w hw) (NewRow.ints hi1 rfl sbA w hw) (NewRow.ints hi2 rfl sbA w hw)) (c' := .bool true) (by simp))) ?_
      refine WS_det hF (by rfl) (by first | exact y_pick_t (c := .bool _) (by rfl) (by rfl) | exact y_pick_f (c := .bool _) (by rfl) (by rfl)) ?_
      refine WS_det hF (by rfl) (y_move (c := .bool _) (by rfl)) ?_
      refine WS_det hF (by rfl) (y_move (c := .int .i64 _) (by rfl)) ?_
      refine WS_det hF (by rfl) (y_move (c := .int .i64 _) (by rfl)) ?_
      refine WS_det hF (by rfl) (y_eqlT (by rfl) (by rfl)) ?_
      refine WS_det hF (by rfl) (by first | exact y_pick_t (c := .bool _) (by rfl) (by rfl) | exact y_pick_f (c := .bool _) (by rfl) (by rfl)) ?_
      refine WS_det hF (by rfl) (y_move (c := .bool _) (by rfl)) ?_
      refine WS_det hF (by rfl) (y_move (c := .int .i64 _) (by rfl)) ?_
      refine WS_det hF (by rfl) (y_move (c := .int .i64 _) (by rfl)) ?_
      refine WS_det hF (by rfl) (y_eqlT (by rfl) (by rfl)) ?_
      refine WS_det hF (by rfl) (by first | exact y_pick_t (c := .bool _) (by rfl) (by rfl) | exact y_pick_f (c := .bool _) (by rfl) (by rfl)) ?_
      refine WS_det hF (by rfl) (y_move (c := .bool _) (by rfl)) ?_
      refine WS_det hF (by rfl) (y_move (c := .int .i64 _) (by rfl)) ?_
      refine WS_det hF (by rfl) (y_move (c := .int .i64 _) (by rfl)) ?_
      refine WS_det hF (by rfl) (y_eqlT (by rfl) (by rfl)) ?_
      refine WS_det hF (by rfl) (by first | exact y_pick_t (c := .bool _) (by rfl) (by rfl) | exact y_pick_f (c := .bool _) (by rfl) (by rfl)) ?_
      refine WS_det hF (by rfl) (y_assign (c := .bool _) (by rfl)) ?_
      refine WS_nil ?_
      refine Then_normal ?_
      refine W_seq ?_
      refine W_seq ?_
      refine W_keep [(2, .slice _ _ _), (3, .pointer _), (6, .bool _), (7, .pointer _), (8, .slice _ _ _), (9, .pointer _), (13, .pointer _), (21, .bool _)] (by repeat (first | exact trivial | refine ⟨by rfl, ?_⟩)) (fun e => ?_)
      refine W_region_lit (fun ds => ?_)
      refine WS_det hF (by rfl) (y_loadN (by rfl) Tryd.isAgg24 Tryd.sizeOf24 (Mem.own (us := [.slice _ _ _, .slice _ _ _, .int .i64 _]) 3 (by rfl) (by rfl)) (by rfl)) ?_
      refine WS_det hF (by rfl) (y_loadN (by rfl) Tryd.isAgg24 Tryd.sizeOf24 (Mem.own (us := [.slice _ _ _, .slice _ _ _, .int .i64 _]) 1 (by rfl) (by rfl)) (by rfl)) ?_
      refine WS_newS hF (by rfl) (y_buildSliceL bs40_2_0_1 (by rfl)) (fun b8 => ?_)
      refine WS_det hF (by rfl) (y_len (by rfl) Tryd.runUnderlying40) ?_
      have hzk : ∀ k, k < 2 → ∃ (m : Cn) (u1 : Option Addr) (v1 : Nat) (u2 : Option Addr) (v2 : Nat) (rest : List Value), List.drop (0 + k * 3) [.slice x1 (c.poC p).n y1, .slice x2 (c.poC p).inn.length y2, .int .i64 (c.poC p).st, .slice m1 (c.plC l).n n1, .slice m2 (c.plC l).inn.length n2, .int .i64 (c.plC l).st] = [.slice u1 m.n v1, .slice u2 m.inn.length v2, .int .i64 m.st] ++ rest ∧ OwnR (Hx1 ++ (Hx2 ++ (Hm1 ++ Hm2))) 3 1 u1 m.n ∧ OwnR (Hx1 ++ (Hx2 ++ (Hm1 ++ Hm2))) 3 1 u2 m.inn.length ∧ m.n ≤ 1000 ∧ m.inn.length ≤ 1000 := fun k hk => by
        obtain rfl | rfl : k = 0 ∨ k = 1 := by omega
        · exact ⟨c.poC p, x1, y1, x2, y2, _, rfl, hx1.own fun y h => List.mem_append_left _ h, hx2.own fun y h => List.mem_append_right _ (List.mem_append_left _ h), ab1, ab2⟩
        · exact ⟨c.plC l, m1, n1, m2, n2, [], rfl, hm1.own fun y h => List.mem_append_right _ (List.mem_append_right _ (List.mem_append_left _ h)), hm2.own fun y h => List.mem_append_right _ (List.mem_append_right _ (List.mem_append_right _ h)), sb1, sb2⟩
      refine WS_det hF (by rfl) (y_move (c := .int .i64 _) (by rfl)) ?_
      refine WS_nil ?_
      refine Then_normal ?_
      refine W_block ?_
      refine W_loop (γ := Nat × List Blk) (fun q => q.1 ≤ 2 ∧ Shp (Hx1 ++ (Hx2 ++ (Hm1 ++ Hm2))) q.2) (fun q => [(98, .int .i64 (q.1 : Int)), (97, .int .i64 2), (96, .slice (some ⟨b8, 0, none⟩) 2 2), (3, .pointer (some ⟨b1, 0, none⟩)), (7, .pointer (some ⟨bo, 0, none⟩)), (8, .slice la2 l.length lcap2), (2, .slice la l.length lcap), (21, .bool true)]) (fun q => (b8, CB [.slice x1 (c.poC p).n y1, .slice x2 (c.poC p).inn.length y2, .int .i64 (c.poC p).st, .slice m1 (c.plC l).n n1, .slice m2 (c.plC l).inn.length n2, .int .i64 (c.plC l).st] 24) :: (bo, CB [.slice z1 c.n q1, .slice z2 c.inn.length q2, .int .i64 c.st] 24) :: (b1, CB [.slice a1 c.n p1, .slice a2 c.inn.length p2, .int .i64 c.st] 24) :: (H1 ++ (H2 ++ (Hl ++ q.2)))) (fun q => 2 - q.1) ((0, Hx1 ++ (Hx2 ++ (Hm1 ++ Hm2)))) ⟨Nat.zero_le _, hx1.shp.app (hx2.shp.app (hm1.shp.app hm2.shp))⟩ (by repeat (first | exact trivial | refine ⟨by rfl, ?_⟩)) (sbA) ?_
      rintro ⟨k, S⟩ e ⟨hk, hS⟩
      refine W_seq ?_
      refine W_region_lit (fun ds => ?_)
      refine WS_det hF (by rfl) (y_lss (by rfl) (by rfl)) ?_
      refine WS_nil ?_
      refine Then_normal ?_
      refine W_seq ?_
      refine W_cond (by rfl) (fun c10 => ?_) (fun c10 => ?_)
      ·
        try simp only [Bool.not_eq_true', Bool.not_eq_false', decide_eq_true_eq, decide_eq_false_iff_not, ne_eq, Classical.not_not, Int.not_lt, Int.not_le] at c10
        obtain ⟨m, u1, v1, u2, v2, rest, hz, ho1, ho2, hb1, hb2⟩ := hzk k (by omega)
        refine W_skip ?_
        refine Then_normal ?_
        refine W_seq ?_
        refine W_block ?_
        refine W_seq ?_
        refine W_region_lit (fun ds => ?_)
        refine WS_det hF (by rfl) (y_index (k := k) (by rfl) (by rfl) (by first | rfl | omega) (by first | decide | omega) Tryd.runUnderlying40 Tryd.sizeOf24) ?_
        refine WS_det hF (by rfl) (y_loadN (by rfl) Tryd.isAgg24 Tryd.sizeOf24 (Mem.own (us := [.slice u1 m.n v1, .slice u2 m.inn.length v2, .int .i64 m.st]) 0 (by rfl) hz) (by rfl)) ?_
        refine WS_new hF (by rfl) (y_alloc Tryd.zeroValue24 (by rfl)) (fun bz => ?_)
        refine WS_store hF (us := [.slice _ _ _, .slice _ _ _, .int .i64 _]) (i := 0) (by rfl) (by rfl) Tryd.sizeOf24 (by rfl) (by rfl) (by rfl) (by first | decide | exact Nat.le_of_ble_eq_true rfl | simp) ?_
        refine WS_nil ?_
        refine Then_normal ?_
        refine W_seq ?_
        refine W_seq ?_
        refine W_region_lit (fun ds => ?_)
        refine WS_det hF (by rfl) (y_fieldAddr (by rfl) fa24_0) ?_
        refine WS_det hF (by rfl) (y_load1 (by rfl) Tryd.isAgg22 (Mem.own1 0 (by rfl) (by rfl))) ?_
        refine WS_det hF (by rfl) (y_len (by rfl) Tryd.runUnderlying22) ?_
        refine WS_det hF (by rfl) (y_move (c := .int .i64 _) (by rfl)) ?_
        refine WS_nil ?_
        refine Then_normal ?_
        refine W_block ?_
        refine W_loop (γ := Nat × List Blk) (fun q => q.1 ≤ m.n ∧ Shp (Hx1 ++ (Hx2 ++ (Hm1 ++ Hm2))) q.2) (fun q => [(105, .int .i64 (q.1 : Int)), (104, .int .i64 (m.n : Int)), (23, .pointer (some ⟨bz, 0, none⟩)), (98, .int .i64 (k : Int)), (97, .int .i64 2), (96, .slice (some ⟨b8, 0, none⟩) 2 2), (3, .pointer (some ⟨b1, 0, none⟩)), (7, .pointer (some ⟨bo, 0, none⟩)), (8, .slice la2 l.length lcap2), (2, .slice la l.length lcap), (21, .bool true)]) (fun q => (bz, CB [.slice u1 m.n v1, .slice u2 m.inn.length v2, .int .i64 m.st] 24) :: (b8, CB [.slice x1 (c.poC p).n y1, .slice x2 (c.poC p).inn.length y2, .int .i64 (c.poC p).st, .slice m1 (c.plC l).n n1, .slice m2 (c.plC l).inn.length n2, .int .i64 (c.plC l).st] 24) :: (bo, CB [.slice z1 c.n q1, .slice z2 c.inn.length q2, .int .i64 c.st] 24) :: (b1, CB [.slice a1 c.n p1, .slice a2 c.inn.length p2, .int .i64 c.st] 24) :: (H1 ++ (H2 ++ (Hl ++ q.2)))) (fun q => m.n - q.1) ((0, S)) ⟨Nat.zero_le _, hS⟩ (by repeat (first | exact trivial | refine ⟨by rfl, ?_⟩)) (sbA) ?_
        rintro ⟨i, S2⟩ e ⟨hi, hS2⟩
        refine W_seq ?_
        refine W_region_lit (fun ds => ?_)
        refine WS_det hF (by rfl) (y_lss (by rfl) (by rfl)) ?_
        refine WS_nil ?_
        refine Then_normal ?_
        refine W_seq ?_
        refine W_cond (by rfl) (fun c13 => ?_) (fun c13 => ?_)
        ·
          try simp only [Bool.not_eq_true', Bool.not_eq_false', decide_eq_true_eq, decide_eq_false_iff_not, ne_eq, Classical.not_not, Int.not_lt, Int.not_le] at c13
          obtain ⟨by_, Sa, us, Sb, hz1, rfl, hle, hput⟩ := ho1.get (k := i) (by omega) hS2
          refine W_pull (by_, CB us 3) (by repeat (first | exact Pul.base0 | exact Pul.base | apply Pul.cons | apply Pul.app)) ?_
          refine W_skip ?_
          refine Then_normal ?_
          refine W_seq ?_
          refine W_block ?_
          refine W_seq ?_
          refine W_region_lit (fun ds => ?_)
          refine WS_det hF (by rfl) (y_move (c := .int .i64 _) (by rfl)) ?_
          refine WS_det hF (by rfl) (y_assign (c := .int .i64 _) (by rfl)) ?_
          refine WS_nil ?_
          refine Then_normal ?_
          refine W_region_lit (fun ds => ?_)
          refine WS_det hF (by rfl) (y_fieldAddr (by rfl) fa24_0) ?_
          refine WS_det hF (by rfl) (y_load1 (by rfl) Tryd.isAgg22 (Mem.own1 1 (by rfl) (by rfl))) ?_
          refine WS_det hF (by rfl) (y_move (c := .int .i64 _) (by rfl)) ?_
          rw [hz1]
          refine WS_det hF (by rfl) (y_index (k := i) (by rfl) (by rfl) (by first | rfl | omega) (by first | decide | omega) Tryd.runUnderlying22 Tryd.sizeOf3) ?_
          refine WS_store hF (us := [.int .i64 _]) (i := 0) (by rfl) (by rfl) Tryd.sizeOf3 (by rfl) (by rfl) (by rfl) (by simp only [List.length_singleton]; omega) ?_
          refine WS_nil ?_
          refine InB_normal ?_
          refine Then_normal ?_
          refine W_push (M := (bz, _) :: (b8, _) :: (bo, _) :: (b1, _) :: (H1 ++ (H2 ++ (Hl ++ (Sa ++ (by_, CB (splice us (0 + i * 1) [.int .i64 (-7)]) 3) :: Sb))))) (by repeat (first | exact Pul.base0 | exact Pul.base | apply Pul.cons | apply Pul.app)) ?_
          obtain ⟨Sn, hSe, hSn⟩ : ∃ Sn, Sn = Sa ++ (by_, CB (splice us (0 + i * 1) [.int .i64 (-7)]) 3) :: Sb ∧ Shp (Hx1 ++ (Hx2 ++ (Hm1 ++ Hm2))) Sn := ⟨_, rfl, hput _ (length_splice (by simp only [List.length_singleton]; omega))⟩
          rw [← hSe]
          refine W_region_lit (fun ds => ?_)
          refine WS_det hF (by rfl) (y_add (by rfl) (by rfl) (by unfold I64; omega)) ?_
          refine WS_det hF (by rfl) (y_move (c := .int .i64 _) (by rfl)) ?_
          refine WS_nil ?_
          exact Loop_next (i + 1, Sn) ⟨by simp only; omega, hSn⟩ (by repeat (first | exact trivial | refine ⟨by rfl, ?_⟩)) sbA (by simp only; omega)
        ·
          try simp only [Bool.not_eq_true', Bool.not_eq_false', decide_eq_true_eq, decide_eq_false_iff_not, ne_eq, Classical.not_not, Int.not_lt, Int.not_le] at c13
          refine W_exit ?_
          refine Then_exit ?_
          refine Loop_exit ?_
          refine InB_same ?_
          refine Then_normal ?_
          refine W_seq ?_
          refine W_region_lit (fun ds => ?_)
          refine WS_det hF (by rfl) (y_fieldAddr (by rfl) fa24_1) ?_
          refine WS_det hF (by rfl) (y_load1 (by rfl) Tryd.isAgg22 (Mem.own1 0 (by rfl) (by rfl))) ?_
          refine WS_det hF (by rfl) (y_len (by rfl) Tryd.runUnderlying22) ?_
          refine WS_det hF (by rfl) (y_move (c := .int .i64 _) (by rfl)) ?_
          refine WS_nil ?_
          refine Then_normal ?_
          refine W_block ?_
          refine W_loop (γ := Nat × List Blk) (fun q => q.1 ≤ m.inn.length ∧ Shp (Hx1 ++ (Hx2 ++ (Hm1 ++ Hm2))) q.2) (fun q => [(116, .int .i64 (q.1 : Int)), (115, .int .i64 (m.inn.length : Int)), (23, .pointer (some ⟨bz, 0, none⟩)), (98, .int .i64 (k : Int)), (97, .int .i64 2), (96, .slice (some ⟨b8, 0, none⟩) 2 2), (3, .pointer (some ⟨b1, 0, none⟩)), (7, .pointer (some ⟨bo, 0, none⟩)), (8, .slice la2 l.length lcap2), (2, .slice la l.length lcap), (21, .bool true)]) (fun q => (bz, CB [.slice u1 m.n v1, .slice u2 m.inn.length v2, .int .i64 m.st] 24) :: (b8, CB [.slice x1 (c.poC p).n y1, .slice x2 (c.poC p).inn.length y2, .int .i64 (c.poC p).st, .slice m1 (c.plC l).n n1, .slice m2 (c.plC l).inn.length n2, .int .i64 (c.plC l).st] 24) :: (bo, CB [.slice z1 c.n q1, .slice z2 c.inn.length q2, .int .i64 c.st] 24) :: (b1, CB [.slice a1 c.n p1, .slice a2 c.inn.length p2, .int .i64 c.st] 24) :: (H1 ++ (H2 ++ (Hl ++ q.2)))) (fun q => m.inn.length - q.1) ((0, S2)) ⟨Nat.zero_le _, hS2⟩ (by repeat (first | exact trivial | refine ⟨by rfl, ?_⟩)) (sbA) ?_
          rintro ⟨j, S3⟩ e ⟨hj, hS3⟩
          refine W_seq ?_
          refine W_region_lit (fun ds => ?_)
          refine WS_det hF (by rfl) (y_lss (by rfl) (by rfl)) ?_
          refine WS_nil ?_
          refine Then_normal ?_
          refine W_seq ?_
          refine W_cond (by rfl) (fun c18 => ?_) (fun c18 => ?_)
          ·
            try simp only [Bool.not_eq_true', Bool.not_eq_false', decide_eq_true_eq, decide_eq_false_iff_not, ne_eq, Classical.not_not, Int.not_lt, Int.not_le] at c18
            obtain ⟨by_, Sa, us, Sb, hz1, rfl, hle, hput⟩ := ho2.get (k := j) (by omega) hS3
            refine W_pull (by_, CB us 3) (by repeat (first | exact Pul.base0 | exact Pul.base | apply Pul.cons | apply Pul.app)) ?_
            refine W_skip ?_
            refine Then_normal ?_
            refine W_seq ?_
            refine W_block ?_
            refine W_seq ?_
            refine W_region_lit (fun ds => ?_)
            refine WS_det hF (by rfl) (y_move (c := .int .i64 _) (by rfl)) ?_
            refine WS_det hF (by rfl) (y_assign (c := .int .i64 _) (by rfl)) ?_
            refine WS_nil ?_
            refine Then_normal ?_
            refine W_region_lit (fun ds => ?_)
            refine WS_det hF (by rfl) (y_fieldAddr (by rfl) fa24_1) ?_
            refine WS_det hF (by rfl) (y_load1 (by rfl) Tryd.isAgg22 (Mem.own1 1 (by rfl) (by rfl))) ?_
            refine WS_det hF (by rfl) (y_move (c := .int .i64 _) (by rfl)) ?_
            rw [hz1]
            refine WS_det hF (by rfl) (y_index (k := j) (by rfl) (by rfl) (by first | rfl | omega) (by first | decide | omega) Tryd.runUnderlying22 Tryd.sizeOf3) ?_
            refine WS_store hF (us := [.int .i64 _]) (i := 0) (by rfl) (by rfl) Tryd.sizeOf3 (by rfl) (by rfl) (by rfl) (by simp only [List.length_singleton]; omega) ?_
            refine WS_nil ?_
            refine InB_normal ?_
            refine Then_normal ?_
            refine W_push (M := (bz, _) :: (b8, _) :: (bo, _) :: (b1, _) :: (H1 ++ (H2 ++ (Hl ++ (Sa ++ (by_, CB (splice us (0 + j * 1) [.int .i64 (-7)]) 3) :: Sb))))) (by repeat (first | exact Pul.base0 | exact Pul.base | apply Pul.cons | apply Pul.app)) ?_
            obtain ⟨Sn, hSe, hSn⟩ : ∃ Sn, Sn = Sa ++ (by_, CB (splice us (0 + j * 1) [.int .i64 (-7)]) 3) :: Sb ∧ Shp (Hx1 ++ (Hx2 ++ (Hm1 ++ Hm2))) Sn := ⟨_, rfl, hput _ (length_splice (by simp only [List.length_singleton]; omega))⟩
            rw [← hSe]
            refine W_region_lit (fun ds => ?_)
            refine WS_det hF (by rfl) (y_add (by rfl) (by rfl) (by unfold I64; omega)) ?_
            refine WS_det hF (by rfl) (y_move (c := .int .i64 _) (by rfl)) ?_
            refine WS_nil ?_
            exact Loop_next (j + 1, Sn) ⟨by simp only; omega, hSn⟩ (by repeat (first | exact trivial | refine ⟨by rfl, ?_⟩)) sbA (by simp only; omega)
          ·
            try simp only [Bool.not_eq_true', Bool.not_eq_false', decide_eq_true_eq, decide_eq_false_iff_not, ne_eq, Classical.not_not, Int.not_lt, Int.not_le] at c18
            refine W_exit ?_
            refine Then_exit ?_
            refine Loop_exit ?_
            refine InB_same ?_
            refine InB_normal ?_
            refine Then_normal ?_
            refine W_region_lit (fun ds => ?_)
            refine WS_det hF (by rfl) (y_add (by rfl) (by rfl) (by unfold I64; omega)) ?_
            refine WS_det hF (by rfl) (y_move (c := .int .i64 _) (by rfl)) ?_
            refine WS_nil ?_
            exact Loop_next (k + 1, S3) ⟨by simp only; omega, hS3⟩ (by repeat (first | exact trivial | refine ⟨by rfl, ?_⟩)) sbA (by simp only; omega)
      ·
        try simp only [Bool.not_eq_true', Bool.not_eq_false', decide_eq_true_eq, decide_eq_false_iff_not, ne_eq, Classical.not_not, Int.not_lt, Int.not_le] at c10
        refine W_exit ?_
        refine Then_exit ?_
        refine Loop_exit ?_
        refine InB_same ?_
        refine Then_normal ?_
        refine W_seq ?_
        refine W_draw0 hF Trydmixed [] (by decide +kernel) (fun ds => ?_)
        refine P_det (by rfl) (Over_nil (y_loadN (by rfl) Tryd.isAgg24 Tryd.sizeOf24 (Mem.own (us := [.slice _ _ _, .slice _ _ _, .int .i64 _]) 1 (by rfl) (by rfl)) (by rfl))) ?_
        refine P_det (by rfl) (Over_nil (y_callL (by rfl) (by rfl) Tryd.call16 (fun w hw => ccheck_any c z1 q1 z2 q2 w (hG.st w hw) hn hm (NewRow.ints hr1 rfl sbA w hw) (NewRow.ints hr2 rfl sbA w hw)))) ?_
        refine P_det (by rfl) (Over_nil (y_loadN (by rfl) Tryd.isAgg24 Tryd.sizeOf24 (Mem.own (us := [.slice _ _ _, .slice _ _ _, .int .i64 _]) 2 (by rfl) (by rfl)) (by rfl))) ?_
        refine P_det (by rfl) (Over_nil (y_callL (by rfl) (by rfl) Tryd.call17 (fun w hw => rccheck_any c a1 p1 a2 p2 w hn hm (h1.st w hw) (h2.st w hw)))) ?_
        refine P_det (by rfl) (Over_nil (y_eqlT (by rfl) (by rfl))) ?_
        refine P_det (by rfl) (Over_nil (y_move (c := .bool _) (by rfl))) ?_
        refine P_det (by rfl) (Over_nil (y_move (c := .bool _) (by rfl))) ?_
        refine P_det (by rfl) (Over_nil (by first | exact y_pick_t (c := .bool _) (by rfl) (by rfl) | exact y_pick_f (c := .bool _) (by rfl) (by rfl))) ?_
        refine P_det (by rfl) (Over_nil (y_move (c := .bool _) (by rfl))) ?_
        refine P_det (by rfl) (Over_nil (y_loadN (by rfl) Tryd.isAgg24 Tryd.sizeOf24 (Mem.own (us := [.slice _ _ _, .slice _ _ _, .int .i64 _]) 1 (by rfl) (by rfl)) (by rfl))) ?_
        refine P_det (by rfl) (Over_nil (y_loadN (by rfl) Tryd.isAgg24 Tryd.sizeOf24 (Mem.own (us := [.slice _ _ _, .slice _ _ _, .int .i64 _]) 2 (by rfl) (by rfl)) (by rfl))) ?_
        refine P_det (by rfl) (Over_nil (y_callL (by rfl) (by rfl) Tryd.call15 (fun w hw => Ct_eq (rcsame_any c z1 q1 z2 q2 c a1 p1 a2 p2 w hn hm (NewRow.ints hr1 rfl sbA w hw) (NewRow.ints hr2 rfl sbA w hw) (h1.st w hw) (h2.st w hw)) (c' := .bool true) (by simp)))) ?_
        refine P_det (by rfl) (Over_nil (by first | exact y_pick_t (c := .bool _) (by rfl) (by rfl) | exact y_pick_f (c := .bool _) (by rfl) (by rfl))) ?_
        refine P_det (by rfl) (Over_nil (y_move (c := .bool _) (by rfl))) ?_
        refine P_det (by rfl) (Over_nil (y_move (c := .slice _ _ _) (by rfl))) ?_
        refine P_det (by rfl) (Over_nil (y_move (c := .slice _ _ _) (by rfl))) ?_
        refine P_det (by rfl) (Over_nil (y_callL (by rfl) (by rfl) Tryd.call18 (fun w hw => samePo_any l la2 lcap2 la lcap w hl (NewRow.rws po_len hrl2 rfl sbA w hw) (hp.st w hw)))) ?_
        refine P_det (by rfl) (Over_nil (by first | exact y_pick_t (c := .bool _) (by rfl) (by rfl) | exact y_pick_f (c := .bool _) (by rfl) (by rfl))) ?_
        refine P_det (by rfl) (Over_nil (y_assign (c := .bool _) (by rfl))) ?_
        refine PW_end (by rfl) ?_
        refine OverAll_nil ?_
        rintro -
        refine Then_normal ?_
        refine W_ret ?_
        refine Fin_ret [.bool _] [] Tryd.results3 ⟨by rfl, trivial⟩ HSub.nil ?_
        rfl
end Go.Proofs.YtjekjehgmljbgaaDoor.T

/- The arguments of the laws of cans, opened; the table of checks, where it was laid. -/
namespace Go.Proofs.YtjekjehgmljbgaaDoor.T
open Go.RowKit Go.Proofs Go.Eng Go.ChangeShapes Go.WideShapes Go.ChangeAt Go.Joins Go.Deep
set_option maxRecDepth 100000
set_option linter.unusedVariables false
section
variable {H : Type} {enc : TypeId × Value → H} {w : World} {base : Nat} {spare : Nat → Bool} {held : Bool}
theorem open_cans {r : Reach} {b0 : Nat} {v : Value} {d : DataW H} {p : List MemPlace} (hv : Value.okWide Tryd.prog w r b0 24 v) (h : DataW.Trod enc Tryd.prog w base spare held 24 v d p) (hs : ∀ b, spare b = true) :
    ∃ (c : Cn) (a1 : Option Addr) (p1 : Nat) (a2 : Option Addr) (p2 : Nat), v = .agg #[.slice a1 c.n p1, .slice a2 c.inn.length p2, .int .i64 c.st] ∧ Ints w a1 c.n p1 c.sz ∧ Ints w a2 c.inn.length p2 c.inn := by
  obtain ⟨v0, v1, v2, y0, y1, y2, n, rfl, _, _, h0, h1, h2⟩ := open_agg3 Tryd.underlying24 (by kernel_rfl) (by kernel_rfl) hv h
  obtain ⟨a1, m1, p1, xs, rfl, hx⟩ := open_intsT h0 hs
  obtain ⟨a2, m2, p2, ys, rfl, hy⟩ := open_intsT h1 hs
  obtain ⟨l, hl, _, _⟩ := DataW.trod_int Tryd.underlying3 h2
  simp only [List.cons.injEq, and_true] at hl
  subst hl
  have := hx.len
  subst this
  have := hy.len
  subst this
  exact ⟨⟨xs, ys, l⟩, a1, p1, a2, p2, rfl, hx, hy⟩
theorem open_pour {r : Reach} {b0 : Nat} {v : Value} {d : DataW H} {p : List MemPlace} (hv : Value.okWide Tryd.prog w r b0 26 v) (h : DataW.Trod enc Tryd.prog w base spare held 26 v d p) : ∃ x : Po, v = .agg x.cells.toArray := by
  obtain ⟨v0, v1, y0, y1, n, rfl, _, _, h0, h1⟩ := open_agg2 Tryd.underlying26 (by kernel_rfl) (by kernel_rfl) hv h
  obtain ⟨l, hl, _, _⟩ := DataW.trod_int Tryd.underlying3 h0
  obtain ⟨f, hf, _, _⟩ := DataW.trod_int Tryd.underlying3 h1
  simp only [List.cons.injEq, and_true] at hl hf
  subst hl hf
  exact ⟨⟨l, f⟩, rfl⟩
theorem cellsPo : Tryd.prog.cellsOf 26 = 1 + 1 := by kernel_rfl
theorem open_po {fuel : Nat} {cs : List Value} {y : DataW H × List MemPlace} (h : DataW.trod enc Tryd.prog w base spare held fuel 26 cs = some y) : ∃ x : Po, cs = x.cells := by
  obtain ⟨y0, y1, n, _, hl, h0, h1⟩ := trod_struct2 Tryd.underlying26 h
  rw [cellsPo] at hl
  match cs, hl with
  | [c0, c1], _ =>
    simp only [cells3, List.drop_zero, List.take_succ_cons, List.take_zero, List.drop_succ_cons] at h0 h1
    obtain ⟨l, hl, _, _⟩ := DataW.trod_int Tryd.underlying3 h0
    obtain ⟨f, hf, _, _⟩ := DataW.trod_int Tryd.underlying3 h1
    simp only [List.cons.injEq, and_true] at hl hf
    subst hl hf
    exact ⟨⟨l, f⟩, rfl⟩
theorem open_pours {r : Reach} {b0 : Nat} {v : Value} {d : DataW H} {p : List MemPlace} (hv : Value.okWide Tryd.prog w r b0 27 v) (h : DataW.Trod enc Tryd.prog w base spare held 27 v d p) : ∃ a n cap xs, v = .slice a n cap ∧ Pos w a n cap xs :=
  open_rwsV Tryd.underlying27 cellsPo open_po hv h
end
/-! ### The table of checks -/
def laidC : List (String × DataW Unit) := [("oilcake/can.checks", Rows.laid_oilcake_can_checks)]
theorem gChecks : Tryd.prog.globalNamed "oilcake/can.checks" = some 0 := by kernel_rfl
theorem tChecks : (Tryd.prog.globals[0]?).map (·.type) = some 107 := by kernel_rfl
theorem door_met (os : Os) (args : Array Value) : laidMetH Tryd.prog laidC ((World.doorLaid Tryd.prog 400 os).forCall (fun _ _ => 0) ⟨#[], args, []⟩).memory :=
  laidMetH_of_parts3 (fuel := 8) (laidMet_of_run' 8 (by kernel_rfl) (by kernel_rfl)) (by kernel_rfl) (by kernel_rfl)
theorem cellsChk : Tryd.prog.cellsOf 106 = 1 := by kernel_rfl
theorem cellsChk3 : Tryd.prog.cellsOf 107 = 3 := by kernel_rfl
theorem cellsFn : Tryd.prog.cellsOf 28 = 1 := by kernel_rfl
theorem chk_fn {W : World} {sp : Nat → Bool} {fuel : Nat} {v : Value} {x : DataW (List UInt8) × List MemPlace} {b : UInt8} {r : List UInt8} {f0 : FuncId}
    (hone : ((List.range Tryd.prog.funcs.size).filter fun f => (Tryd.prog.funcs[f]?).any (·.name.toUTF8.data.toList == b :: r)) = [f0])
    (h : DataW.trod (funcToken Tryd.prog) Tryd.prog W 0 sp true fuel 106 [v] = some x) (hx : x.1 = .agg [.held (b :: r)]) : v = .func (.func f0) #[] #[] := by
  obtain ⟨y0, n, rfl, _, h0⟩ := trod_struct1 Tryd.underlying106 h
  obtain ⟨y, q⟩ := y0
  simp only [DataW.agg.injEq, List.cons.injEq, and_true] at hx
  subst hx
  simp only [cellsFn, List.drop_zero, List.take_succ_cons, List.take_zero] at h0
  exact func_of_trod Tryd.underlying28 hone h0
theorem of_laid {W : World} (h : laidMetH Tryd.prog laidC W) : Gv W := by
  obtain ⟨g, t, cs, fuel, p, hg, ht, hv, hd⟩ := h.funcs (List.mem_singleton.2 rfl)
  obtain rfl := Option.some.inj (gChecks.symm.trans hg)
  obtain rfl := Option.some.inj (tChecks.symm.trans ht)
  have hd' : DataW.trod (funcToken Tryd.prog) Tryd.prog W 0 (fun _ => true) true fuel 107 cs.toList = some (.agg [.agg [.held [111, 105, 108, 99, 97, 107, 101, 47, 99, 97, 110, 46, 99, 104, 101, 99, 107, 115, 36, 49]], .agg [.held [111, 105, 108, 99, 97, 107, 101, 47, 99, 97, 110, 46, 99, 104, 101, 99, 107, 115, 36, 50]], .agg [.held [111, 105, 108, 99, 97, 107, 101, 47, 99, 97, 110, 46, 99, 104, 101, 99, 107, 115, 36, 51]]], p) := hd
  obtain ⟨xs, m1, rfl, hx1, hlen, hn3, hel⟩ := DataW.trod_array Tryd.underlying107 hd'
  simp only [Prod.mk.injEq, DataW.agg.injEq] at hx1
  rw [cellsChk3] at hlen
  have hc := fun i => World.var?_cell hg hv i
  obtain ⟨cl⟩ := cs
  match xs, hn3, hx1, cl, hlen, hel, hc with
  | [x0, x1, x2], _, hx1, [c0, c1, c2], _, hel, hc =>
    simp only [List.map_cons, List.map_nil, List.cons.injEq, and_true] at hx1
    have e0 := hel 0 (by decide)
    have e1 := hel 1 (by decide)
    have e2 := hel 2 (by decide)
    simp only [cellsChk, Nat.zero_mul, Nat.one_mul, Nat.mul_one, List.drop_zero, List.drop_succ_cons, List.take_succ_cons, List.take_zero, List.getElem?_cons_zero, List.getElem?_cons_succ] at e0 e1 e2
    obtain rfl := chk_fn (f0 := 225) (by kernel_rfl) e0 hx1.1.1.symm
    obtain rfl := chk_fn (f0 := 226) (by kernel_rfl) e1 hx1.1.2.1.symm
    obtain rfl := chk_fn (f0 := 227) (by kernel_rfl) e2 hx1.1.2.2.symm
    exact ⟨hc 0, hc 1, hc 2, trivial⟩
end Go.Proofs.YtjekjehgmljbgaaDoor.T

namespace Go.Proofs.YtjekjehgmljbgaaDoor
open Go.RowKit Go.Proofs Go.Eng Go.ChangeShapes Go.WideShapes Go.ChangeAt Go.Joins T
set_option maxRecDepth 100000
set_option linter.unusedVariables false

theorem walkCanTells (v0 v1 v2 : Value) (W : World) (hG : Gv W) (h0 : ∃ (c0 : Cn) (a0 : Option Addr) (p0 : Nat) (b0 : Option Addr) (q0 : Nat), v0 = .agg #[.slice a0 c0.n p0, .slice b0 c0.inn.length q0, .int .i64 c0.st] ∧ Ints W a0 c0.n p0 c0.sz ∧ Ints W b0 c0.inn.length q0 c0.inn) (h1 : ∃ x1 : Po, v1 = .agg x1.cells.toArray) (h2 : ∃ (ta2 : Option Addr) (tn2 tcap2 : Nat) (D2 : List Po), v2 = .slice ta2 tn2 tcap2 ∧ Pos W ta2 tn2 tcap2 D2) :
    Calls Tryd.prog 3 #[v0, v1, v2] W fun e W' => e = .returned (.bool true) ∧ Below W.heap.size W W' := by
  obtain ⟨c0, a0, p0, b0, q0, rfl, hx0, hy0⟩ := h0
  obtain ⟨x1, rfl⟩ := h1
  obtain ⟨ta2, tn2, tcap2, D2, rfl, hD2⟩ := h2
  refine Calls.mono (canTells_any c0 a0 p0 b0 q0 x1 D2 ta2 tn2 tcap2 W hG hx0 hy0  hD2) ?_
  rintro e W' ⟨v, rfl, Hn, hb, _, rfl⟩
  exact ⟨rfl, hb⟩

theorem liftCanTells (os : Os) (started : os.Started) (H : Type) (enc : TypeId × Value → H) :
    ReturnsInHanded {} Tryd.checked os 3 .any (fun w args => (Rows.canTellsSpec.pre enc Tryd.prog Tryd.f3 [] false w args ∧ laidMetH Tryd.prog laidC w) ∧ sizedMet enc Tryd.prog Tryd.f3 (OpenSpec.ofChange Rows.canTellsSpec) false w args) (Rows.canTellsSpec.post enc Tryd.prog Tryd.f3 false true false false) := by
  refine returnsInHanded_of_change_and (C := Tryd.checked) (X := fun w _ => laidMetH Tryd.prog laidC w) (fun _ _ _ hh h => h.of_heap hh) own started (by kernel_rfl) Tryd.func3
    (ChangeSpec.witness_shaped (enc := enc) (C := Tryd.checked) (os := os) (X := fun w _ => laidMetH Tryd.prog laidC w) false (World.doorLaid Tryd.prog 400 os) #[.agg #[.slice none 0 0, .slice none 0 0, .int .i64 0], .agg #[.int .i64 0, .int .i64 0], .slice none 0 0] 8 rfl (World.shaped_of_RefB (by kernel_rfl) (by kernel_rfl)) (by kernel_rfl) (by kernel_rfl) (by kernel_rfl) (door_met os _)) ?_
  intro W base args ds gs before hval0 hW _ _ hL _
  have hval : ∀ (j : Nat) t v, Tryd.f3.params[j]? = some t → args[j]? = some v → Value.okWide Tryd.prog W .any base t v := hval0
  have hW' := hW
  obtain ⟨p, q, hA0, hV, rfl, hfz, hnd⟩ := hW
  have hA : DataW.TrodAll enc Tryd.prog W 0 (fun _ => true) true Tryd.f3.params.toList args.toList ds p := hA0
  rw [Tryd.params3] at hA hval
  obtain ⟨v0, vs0, d0, ds0, p0, q0, hargs, rfl, rfl, h0, r0⟩ := trodAll_cons hA
  obtain ⟨v1, vs1, d1, ds1, p1, q1, rfl, rfl, rfl, h1, r1⟩ := trodAll_cons r0
  obtain ⟨v2, vs2, d2, ds2, p2, q2, rfl, rfl, rfl, h2, r2⟩ := trodAll_cons r1
  obtain ⟨rfl, rfl, rfl⟩ := trodAll_nil r2
  obtain rfl : args = #[v0, v1, v2] := by cases args; simp_all
  obtain ⟨rfl, rfl⟩ := trodVars_none hV
  have lt0 : ∀ x ∈ p0, x.block < W.heap.size := by obtain ⟨m, hm⟩ := h0; exact DataW.trod_lt m _ _ _ hm
  have lt1 : ∀ x ∈ p1, x.block < W.heap.size := by obtain ⟨m, hm⟩ := h1; exact DataW.trod_lt m _ _ _ hm
  have lt2 : ∀ x ∈ p2, x.block < W.heap.size := by obtain ⟨m, hm⟩ := h2; exact DataW.trod_lt m _ _ _ hm
  have o0 : ∃ (c0 : Cn) (a0 : Option Addr) (p0 : Nat) (b0 : Option Addr) (q0 : Nat), v0 = .agg #[.slice a0 c0.n p0, .slice b0 c0.inn.length q0, .int .i64 c0.st] ∧ Ints W a0 c0.n p0 c0.sz ∧ Ints W b0 c0.inn.length q0 c0.inn := open_cans (hval 0 _ v0 rfl rfl) h0 (fun _ => rfl)
  have o1 : ∃ x1 : Po, v1 = .agg x1.cells.toArray := open_pour (hval 1 _ v1 rfl rfl) h1
  have o2 : ∃ (ta2 : Option Addr) (tn2 tcap2 : Nat) (D2 : List Po), v2 = .slice ta2 tn2 tcap2 ∧ Pos W ta2 tn2 tcap2 D2 := open_pours (hval 2 _ v2 rfl rfl) h2
  clear hA0 hval0
  refine (walkCanTells v0 v1 v2 W (of_laid hL) o0 o1 o2).mono fun e W' ⟨he, bel⟩ => ?_
  subst he
  exact ⟨_, rfl, _, _, _, [], _, [], hW', trodAll_mk1 (shut_bool Tryd.underlying4 _),
    (trodAll_cons_mk (Below.trod laidOut (by kernel_rfl) (of_decide_eq_true (by kernel_rfl)) h0 bel lt0) (trodAll_cons_mk (Below.trod laidOut (by kernel_rfl) (of_decide_eq_true (by kernel_rfl)) h1 bel lt1) (trodAll_cons_mk (Below.trod laidOut (by kernel_rfl) (of_decide_eq_true (by kernel_rfl)) h2 bel lt2) trodAll_mk0))), rfl, bel.frame _, fun h => by cases h⟩

theorem canTellsH : Rows.CanTellsSaid :=
  OpenClaim.holds_of_wide 3 Tryd.f3 rfl rfl rfl rfl rfl rfl rfl ⟨rfl, rfl, rfl, rfl, rfl⟩ rfl rfl rfl rfl rfl (by kernel_rfl) Tryd.func3 (by kernel_rfl)
    (of_decide_eq_true (by kernel_rfl)) (by unfold Func.isWrapper; first | (rw [if_pos (by decide +kernel)]; kernel_rfl) | (rw [if_neg (by decide +kernel)]; exact ⟨rfl, rfl⟩))
    (fun os started H enc _ => liftCanTells os started H enc)
theorem canTells : Rows.CanTellsCardSaid :=
  Claim7.holds_tied_plain_at .later [] [.funcs] true (true, "4f976da4b806c04e14c28f8bda1ba53d549989da811836dbb6df42d861d3a136") false
    canTellsH (fun _ h => by cases h) (by kernel_rfl) (fun _ h => by cases h) canTells_row_tie rfl ⟨rfl, rfl⟩ (by kernel_rfl) rfl
    (fun f fn hf hfn => by
      obtain rfl : f = 3 := Option.some.inj ((show Tryd.prog.funcNamed "oilcake/oilcakelaw08.CanTells" = some 3 by kernel_rfl).symm.trans hf) |>.symm
      obtain rfl : fn = Tryd.f3 := (Option.some.inj (Tryd.func3.symm.trans hfn)).symm
      exact ⟨by kernel_rfl, fun j t ht => by
        rw [Tryd.params3] at ht
        have hm : t ∈ [24, 26, 27] := by simpa using Array.mem_of_getElem? ht
        have hall : ([24, 26, 27].all fun u => !Tryd.prog.wantsStandIn u) = true := by kernel_rfl
        exact (show Tryd.prog.wantsStandIn t = false by simpa using List.all_eq_true.1 hall t hm)⟩)
    (by kernel_rfl)
end Go.Proofs.YtjekjehgmljbgaaDoor
