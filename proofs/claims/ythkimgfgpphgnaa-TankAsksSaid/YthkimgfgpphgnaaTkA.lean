/- Walks of tank: met, empty, in, span, times, up, down, dip. -/
import Derived.Test.YthkimgfgpphgnaaChecked
import Derived.Test.YthkimgfgpphgnaaTkP
namespace Go.Proofs.Ythkimgfgpphgnaa.T
open Go.RowKit Go.Proofs Go.Eng
set_option maxRecDepth 100000
set_option linter.unusedVariables false
set_option linter.unusedSimpArgs false

theorem Trymixed : Try.prog.follows .mixedOrders = true := by kernel_rfl
theorem bd26_0_1 {x0 : Int} {x1 : Int} : ∀ w, (Instr.build 26 #[(0, .int .i64 x0), (1, .int .i64 x1)]).run Try.prog w = .ok (.agg #[.int .i64 x0, .int .i64 x1]) w := fun w => by kernel_rfl
theorem bs22_2_0_1 {x0 : Int} {x1 : Int} : ∀ w, (Instr.buildSlice 22 2 #[(0, .int .i64 x0), (1, .int .i64 x1)]).run Try.prog w = .ok (.slice (some ⟨w.heap.size, 0, none⟩) 2 2) (w.alloc (CB [.int .i64 x0, .int .i64 x1] 3)) := fun w => by kernel_rfl
theorem fa24_0 : ∀ b o w, (Instr.fieldAt 24 (.pointer (some ⟨b, o, none⟩)) 0).run Try.prog w = .ok (.pointer (some ⟨b, o + 0, none⟩)) w := fun b o w => by kernel_rfl
theorem fa26_0 : ∀ b o w, (Instr.fieldAt 26 (.pointer (some ⟨b, o, none⟩)) 0).run Try.prog w = .ok (.pointer (some ⟨b, o + 0, none⟩)) w := fun b o w => by kernel_rfl
theorem fa26_1 : ∀ b o w, (Instr.fieldAt 26 (.pointer (some ⟨b, o, none⟩)) 1).run Try.prog w = .ok (.pointer (some ⟨b, o + 1, none⟩)) w := fun b o w => by kernel_rfl
theorem fa98_0 : ∀ b o w, (Instr.fieldAt 98 (.pointer (some ⟨b, o, none⟩)) 0).run Try.prog w = .ok (.pointer (some ⟨b, o + 0, none⟩)) w := fun b o w => by kernel_rfl

theorem met_any (a b c d : Int) (w : World) :
    Ct Try.prog 109 #[.agg #[.int .i64 a, .int .i64 b], .agg #[.int .i64 c, .int .i64 d]] w fun v _ => v = .agg #[.int .i64 (max a c), .int .i64 (min b d)] := by
  have hF := wide_wide
  refine Ct_start (args := [_, _]) Try.func109 (by rfl) Try.ntmps109 (by rfl) ?_
  refine W_seq ?_
  refine W_region_lit (fun ds => ?_)
  refine WS_new hF (by rfl) (y_box (by rfl)) (fun b1 => ?_)
  refine WS_new hF (by rfl) (y_box (by rfl)) (fun b2 => ?_)
  refine WS_new hF (by rfl) (y_alloc Try.zeroValue26 (by rfl)) (fun b3 => ?_)
  refine WS_nil ?_
  refine Then_normal ?_
  refine W_seq ?_
  refine W_region_lit (fun ds => ?_)
  refine WS_det hF (by rfl) (y_fieldAddr (by rfl) fa26_0) ?_
  refine WS_det hF (by rfl) (y_load1 (by rfl) Try.isAgg3 (Mem.own1 2 (by rfl) (by rfl))) ?_
  refine WS_det hF (by rfl) (y_fieldAddr (by rfl) fa26_0) ?_
  refine WS_det hF (by rfl) (y_load1 (by rfl) Try.isAgg3 (Mem.own1 1 (by rfl) (by rfl))) ?_
  refine WS_det hF (by rfl) (y_max (by rfl) (by rfl)) ?_
  refine WS_det hF (by rfl) (y_fieldAddr (by rfl) fa26_1) ?_
  refine WS_det hF (by rfl) (y_load1 (by rfl) Try.isAgg3 (Mem.own1 2 (by rfl) (by rfl))) ?_
  refine WS_det hF (by rfl) (y_fieldAddr (by rfl) fa26_1) ?_
  refine WS_det hF (by rfl) (y_load1 (by rfl) Try.isAgg3 (Mem.own1 1 (by rfl) (by rfl))) ?_
  refine WS_det hF (by rfl) (y_min (by rfl) (by rfl)) ?_
  refine WS_det hF (by rfl) (y_buildL bd26_0_1 (by rfl)) ?_
  refine WS_store hF (i := 0) (by rfl) (by rfl) Try.sizeOf26 (by rfl) (by rfl) (by rfl) (by first | decide | exact Nat.le_of_ble_eq_true rfl | simp) ?_
  refine WS_nil ?_
  refine Then_normal ?_
  refine W_ret ?_
  refine Fin_ret [_] [] Try.results109 ⟨lvN (by rfl) Try.isAgg26 Try.sizeOf26 (Mem.own (us := [.int .i64 _, .int .i64 _]) 0 (by rfl) (by rfl)) (by rfl), trivial⟩ HSub.nil ?_
  rfl
theorem empty_any (a b : Int) (w : World) :
    Ct Try.prog 74 #[.agg #[.int .i64 a, .int .i64 b]] w fun v _ => v = .bool (decide (b < a)) := by
  have hF := wide_wide
  refine Ct_start (args := [_]) Try.func74 (by rfl) Try.ntmps74 (by rfl) ?_
  refine W_seq ?_
  refine W_region_lit (fun ds => ?_)
  refine WS_new hF (by rfl) (y_box (by rfl)) (fun b1 => ?_)
  refine WS_det hF (by rfl) (y_assign (c := .bool _) (by rfl)) ?_
  refine WS_nil ?_
  refine Then_normal ?_
  refine W_seq ?_
  refine W_region_lit (fun ds => ?_)
  refine WS_det hF (by rfl) (y_fieldAddr (by rfl) fa26_0) ?_
  refine WS_det hF (by rfl) (y_load1 (by rfl) Try.isAgg3 (Mem.own1 0 (by rfl) (by rfl))) ?_
  refine WS_det hF (by rfl) (y_fieldAddr (by rfl) fa26_1) ?_
  refine WS_det hF (by rfl) (y_load1 (by rfl) Try.isAgg3 (Mem.own1 0 (by rfl) (by rfl))) ?_
  refine WS_det hF (by rfl) (y_gtr (by rfl) (by rfl)) ?_
  refine WS_det hF (by rfl) (y_assign (c := .bool _) (by rfl)) ?_
  refine WS_nil ?_
  refine Then_normal ?_
  refine W_ret ?_
  refine Fin_ret [.bool _] [] Try.results74 ⟨by rfl, trivial⟩ HSub.nil ?_
  rfl
theorem in1_any (n lo hi : Int) (p q o1 o2 : Nat) (w : World) (h1 : At w p o1 [.int .i64 lo]) (h2 : At w q o2 [.int .i64 hi]) :
    Ct Try.prog 120 #[.int .i64 n, .pointer (some ⟨p, o1, none⟩), .pointer (some ⟨q, o2, none⟩)] w fun v _ => v = .bool (outB lo hi n) := by
  have hF := wide_wide
  refine Ct_start (args := [_, _, _]) Try.func120 (by rfl) Try.ntmps120 (by rfl) ?_
  refine W_seq ?_
  refine W_region_lit (fun ds => ?_)
  refine WS_det hF (by rfl) (y_assign (c := .bool _) (by rfl)) ?_
  refine WS_nil ?_
  refine Then_normal ?_
  refine W_seq ?_
  refine W_region_lit (fun ds => ?_)
  refine WS_det hF (by rfl) (y_move (c := .int .i64 _) (by rfl)) ?_
  refine WS_det hF (by rfl) (y_load1 (by rfl) Try.isAgg3 (by first | exact Mem.old1 (by assumption) | exact Mem.oldAt1 (by assumption) (by rfl) | exact Mem.old (by assumption) | exact Mem.oldAtL1 (by assumption) (by rfl) (by rfl))) ?_
  refine WS_det hF (by rfl) (y_lss (by rfl) (by rfl)) ?_
  refine WS_det hF (by rfl) (y_move (c := .bool _) (by rfl)) ?_
  refine WS_split 8 (by rfl) (fun g1_3 => ?_) (fun g1_3 => ?_)
  ·
    try simp only [Bool.not_eq_true', Bool.not_eq_false', decide_eq_true_eq, decide_eq_false_iff_not, ne_eq, Classical.not_not, Int.not_lt, Int.not_le] at g1_3
    refine WS_no hF (by rfl) ?_
    refine WS_no hF (by rfl) ?_
    refine WS_no hF (by rfl) ?_
    refine WS_det hF (by rfl) (by first | exact y_pick_t (c := .bool _) (by rfl) (by rfl) | exact y_pick_f (c := .bool _) (by rfl) (by rfl)) ?_
    refine WS_det hF (by rfl) (y_assign (c := .bool _) (by rfl)) ?_
    refine WS_nil ?_
    refine Then_normal ?_
    refine W_ret ?_
    refine Fin_ret [.bool _] [] Try.results120 ⟨by rfl, trivial⟩ HSub.nil ?_
    show _ = _
    simp [tupOf, outB, *] <;> omega
  ·
    try simp only [Bool.not_eq_true', Bool.not_eq_false', decide_eq_true_eq, decide_eq_false_iff_not, ne_eq, Classical.not_not, Int.not_lt, Int.not_le] at g1_3
    refine WS_det hF (by rfl) (y_move (c := .int .i64 _) (by rfl)) ?_
    refine WS_det hF (by rfl) (y_load1 (by rfl) Try.isAgg3 (by first | exact Mem.old1 (by assumption) | exact Mem.oldAt1 (by assumption) (by rfl) | exact Mem.old (by assumption) | exact Mem.oldAtL1 (by assumption) (by rfl) (by rfl))) ?_
    refine WS_det hF (by rfl) (y_gtr (by rfl) (by rfl)) ?_
    refine WS_det hF (by rfl) (by first | exact y_pick_t (c := .bool _) (by rfl) (by rfl) | exact y_pick_f (c := .bool _) (by rfl) (by rfl)) ?_
    refine WS_det hF (by rfl) (y_assign (c := .bool _) (by rfl)) ?_
    refine WS_nil ?_
    refine Then_normal ?_
    refine W_ret ?_
    refine Fin_ret [.bool _] [] Try.results120 ⟨by rfl, trivial⟩ HSub.nil ?_
    show _ = _
    simp [tupOf, outB, *] <;> omega
theorem ixf_any (a : Option Addr) (n cap : Nat) (xs : List Int) (lo hi : Int) (p q o1 o2 : Nat) (w : World) (hn : (n : Int) ≤ 9223372036854775806) (hx : Ints w a n cap xs) (h1 : At w p o1 [.int .i64 lo]) (h2 : At w q o2 [.int .i64 hi]) :
    Ct Try.prog 134 #[.slice a n cap, .func (.func 120) #[] #[.pointer (some ⟨p, o1, none⟩), .pointer (some ⟨q, o2, none⟩)]] w fun v _ => v = .int .i64 (firstOut lo hi xs 0) := by
  have hl := hx.len
  have hF := wide_wide
  refine Ct_start (args := [_, _]) Try.func134 (by rfl) Try.ntmps134 (by rfl) ?_
  refine W_seq ?_
  refine W_region_lit (fun ds => ?_)
  refine WS_det hF (by rfl) (y_assign (c := .int .i64 _) (by rfl)) ?_
  refine WS_nil ?_
  refine Then_normal ?_
  refine W_seq ?_
  refine W_seq ?_
  refine W_region_lit (fun ds => ?_)
  refine WS_det hF (by rfl) (y_move (c := .slice _ _ _) (by rfl)) ?_
  refine WS_det hF (by rfl) (y_len (by rfl) Try.runUnderlying22) ?_
  refine WS_det hF (by rfl) (y_move (c := .int .i64 _) (by rfl)) ?_
  refine WS_nil ?_
  refine Then_normal ?_
  refine W_block ?_
  refine W_loop (γ := Nat) (fun k => k ≤ n ∧ firstOut lo hi (xs.drop k) k = firstOut lo hi xs 0) (fun k => [(8, .int .i64 (k : Int)), (7, .int .i64 (n : Int)), (0, .slice a n cap), (1, .func (.func 120) #[] #[.pointer (some ⟨p, o1, none⟩), .pointer (some ⟨q, o2, none⟩)])]) (fun _ => _) (fun k => n - k) (0) ⟨Nat.zero_le _, by simp⟩ (by repeat (first | exact trivial | refine ⟨by rfl, ?_⟩)) (List.Sublist.refl _) ?_
  intro k e hk
  refine W_seq ?_
  refine W_region_lit (fun ds => ?_)
  refine WS_det hF (by rfl) (y_lss (by rfl) (by rfl)) ?_
  refine WS_nil ?_
  refine Then_normal ?_
  refine W_seq ?_
  refine W_cond (by rfl) (fun c2 => ?_) (fun c2 => ?_)
  ·
    try simp only [Bool.not_eq_true', Bool.not_eq_false', decide_eq_true_eq, decide_eq_false_iff_not, ne_eq, Classical.not_not, Int.not_lt, Int.not_le] at c2
    obtain ⟨b, o, rfl, hc⟩ := hx.cell k (by omega)
    refine W_skip ?_
    refine Then_normal ?_
    refine W_seq ?_
    refine W_block ?_
    refine W_seq ?_
    refine W_region_lit (fun ds => ?_)
    refine WS_det hF (by rfl) (y_move (c := .int .i64 _) (by rfl)) ?_
    refine WS_det hF (by rfl) (y_assign (c := .int .i64 _) (by rfl)) ?_
    refine WS_nil ?_
    refine Then_normal ?_
    refine W_seq ?_
    refine W_region_lit (fun ds => ?_)
    refine WS_det hF (by rfl) (y_move (c := _) (by rfl)) ?_
    refine WS_det hF (by rfl) (y_move (c := .slice _ _ _) (by rfl)) ?_
    refine WS_det hF (by rfl) (y_move (c := .int .i64 _) (by rfl)) ?_
    refine WS_det hF (by rfl) (y_index (k := k) (by rfl) (by rfl) (by first | rfl | omega) (by first | decide | omega) Try.runUnderlying22 Try.sizeOf3) ?_
    refine WS_det hF (by rfl) (y_load1 (by rfl) Try.isAgg3 (by first | exact Mem.old1 (by assumption) | exact Mem.oldAt1 (by assumption) (by rfl) | exact Mem.old (by assumption) | exact Mem.oldAtL1 (by assumption) (by rfl) (by rfl))) ?_
    refine WS_det hF (by rfl) (y_callL (by rfl) (by rfl) Try.call120 (fun w hw => in1_any _ lo hi _ _ _ _ w (Mem.old h1 w hw) (Mem.old h2 w hw))) ?_
    refine WS_nil ?_
    refine Then_normal ?_
    refine W_cond (by rfl) (fun c4 => ?_) (fun c4 => ?_)
    ·
      try simp only [Bool.not_eq_true', Bool.not_eq_false', decide_eq_true_eq, decide_eq_false_iff_not, ne_eq, Classical.not_not, Int.not_lt, Int.not_le] at c4
      refine W_seq ?_
      refine W_region_lit (fun ds => ?_)
      refine WS_det hF (by rfl) (y_move (c := .int .i64 _) (by rfl)) ?_
      refine WS_det hF (by rfl) (y_assign (c := .int .i64 _) (by rfl)) ?_
      refine WS_nil ?_
      refine Then_normal ?_
      refine W_ret ?_
      refine InB_ret ?_
      refine Then_ret ?_
      refine Loop_ret ?_
      refine InB_ret ?_
      refine Then_ret ?_
      refine Fin_ret [.int .i64 _] [] Try.results134 ⟨by rfl, trivial⟩ HSub.nil ?_
      show _ = _
      rw [firstOut_step (by omega), c4] at hk
      simp [tupOf, ← hk.2]
    ·
      try simp only [Bool.not_eq_true', Bool.not_eq_false', decide_eq_true_eq, decide_eq_false_iff_not, ne_eq, Classical.not_not, Int.not_lt, Int.not_le] at c4
      refine W_skip ?_
      refine InB_normal ?_
      refine Then_normal ?_
      refine W_region_lit (fun ds => ?_)
      refine WS_det hF (by rfl) (y_add (by rfl) (by rfl) (by unfold I64; omega)) ?_
      refine WS_det hF (by rfl) (y_move (c := .int .i64 _) (by rfl)) ?_
      refine WS_nil ?_
      exact Loop_next (k + 1) ⟨by omega, by rw [firstOut_step (by omega), c4] at hk; exact hk.2⟩ (by repeat (first | exact trivial | refine ⟨by rfl, ?_⟩)) (by repeat (first | exact List.Sublist.refl _ | exact List.nil_sublist _ | apply List.Sublist.cons_cons | apply List.Sublist.cons)) (by omega)
  ·
    try simp only [Bool.not_eq_true', Bool.not_eq_false', decide_eq_true_eq, decide_eq_false_iff_not, ne_eq, Classical.not_not, Int.not_lt, Int.not_le] at c2
    refine W_exit ?_
    refine Then_exit ?_
    refine Loop_exit ?_
    refine InB_same ?_
    refine Then_normal ?_
    refine W_seq ?_
    refine W_region_lit (fun ds => ?_)
    refine WS_det hF (by rfl) (y_assign (c := .int .i64 _) (by rfl)) ?_
    refine WS_nil ?_
    refine Then_normal ?_
    refine W_ret ?_
    refine Fin_ret [.int .i64 _] [] Try.results134 ⟨by rfl, trivial⟩ HSub.nil ?_
    show _ = _
    obtain rfl : k = n := by omega
    rw [← hk.2, ← hl]; simp [tupOf, firstOut]
theorem ctf_any (a : Option Addr) (n cap : Nat) (xs : List Int) (lo hi : Int) (p q o1 o2 : Nat) (w : World) (hn : (n : Int) ≤ 9223372036854775806) (hx : Ints w a n cap xs) (h1 : At w p o1 [.int .i64 lo]) (h2 : At w q o2 [.int .i64 hi]) :
    Ct Try.prog 119 #[.slice a n cap, .func (.func 120) #[] #[.pointer (some ⟨p, o1, none⟩), .pointer (some ⟨q, o2, none⟩)]] w fun v _ => v = .bool (xs.any (outB lo hi)) := by
  have hF := wide_wide
  refine Ct_start (args := [_, _]) Try.func119 (by rfl) Try.ntmps119 (by rfl) ?_
  refine W_seq ?_
  refine W_region_lit (fun ds => ?_)
  refine WS_det hF (by rfl) (y_assign (c := .bool _) (by rfl)) ?_
  refine WS_nil ?_
  refine Then_normal ?_
  refine W_seq ?_
  refine W_region_lit (fun ds => ?_)
  refine WS_det hF (by rfl) (y_move (c := .slice _ _ _) (by rfl)) ?_
  refine WS_det hF (by rfl) (y_move (c := _) (by rfl)) ?_
  refine WS_det hF (by rfl) (y_callL (by rfl) (by rfl) Try.call134 (fun w hw => ixf_any a n cap xs lo hi p q o1 o2 w hn (hx.st w hw) (Mem.old h1 w hw) (Mem.old h2 w hw))) ?_
  refine WS_det hF (by rfl) (y_geq (by rfl) (by rfl)) ?_
  refine WS_det hF (by rfl) (y_assign (c := .bool _) (by rfl)) ?_
  refine WS_nil ?_
  refine Then_normal ?_
  refine W_ret ?_
  refine Fin_ret [.bool _] [] Try.results119 ⟨by rfl, trivial⟩ HSub.nil ?_
  show Value.bool _ = _
  rw [firstOut_lt]
theorem in_any (a : Option Addr) (n cap : Nat) (xs : List Int) (lo hi : Int) (w : World) (hn : (n : Int) ≤ 9223372036854775806) (hx : Ints w a n cap xs) :
    Ct Try.prog 65 #[.int .i64 lo, .int .i64 hi, .slice a n cap] w fun v _ => v = .bool (inB lo hi xs) := by
  have hF := wide_wide
  refine Ct_start (args := [_, _, _]) Try.func65 (by rfl) Try.ntmps65 (by rfl) ?_
  refine W_seq ?_
  refine W_region_lit (fun ds => ?_)
  refine WS_new hF (by rfl) (y_box (by rfl)) (fun b1 => ?_)
  refine WS_new hF (by rfl) (y_box (by rfl)) (fun b2 => ?_)
  refine WS_det hF (by rfl) (y_assign (c := .bool _) (by rfl)) ?_
  refine WS_nil ?_
  refine Then_normal ?_
  refine W_seq ?_
  refine W_region_lit (fun ds => ?_)
  refine WS_det hF (by rfl) (y_move (c := .slice _ _ _) (by rfl)) ?_
  refine WS_det hF (by rfl) (y_makeFuncL (by rfl) (by rfl)) ?_
  refine WS_det hF (by rfl) (y_callL (by rfl) (by rfl) Try.call119 (fun w hw => ctf_any a n cap xs lo hi _ _ _ _ w hn (hx.st w hw) (Mem.own1 1 rfl rfl w hw) (Mem.own1 0 rfl rfl w hw))) ?_
  refine WS_det hF (by rfl) (y_not (by rfl)) ?_
  refine WS_det hF (by rfl) (y_assign (c := .bool _) (by rfl)) ?_
  refine WS_nil ?_
  refine Then_normal ?_
  refine W_ret ?_
  refine Fin_ret [.bool _] [] Try.results65 ⟨by rfl, trivial⟩ HSub.nil ?_
  show Value.bool _ = _
  rw [inB_any]

theorem span_any (a b m : Int) (w : World) :
    Ct Try.prog 72 #[.agg #[.int .i64 a, .int .i64 b], .int .i64 m] w fun v _ => v = .bool (inB 0 m [a, b] && decide (a ≤ b)) := by
  have hF := wide_wide
  refine Ct_start (args := [_, _]) Try.func72 (by rfl) Try.ntmps72 (by rfl) ?_
  refine W_seq ?_
  refine W_region_lit (fun ds => ?_)
  refine WS_new hF (by rfl) (y_box (by rfl)) (fun b1 => ?_)
  refine WS_det hF (by rfl) (y_assign (c := .bool _) (by rfl)) ?_
  refine WS_nil ?_
  refine Then_normal ?_
  refine W_seq ?_
  refine W_region_lit (fun ds => ?_)
  refine WS_det hF (by rfl) (y_move (c := .int .i64 _) (by rfl)) ?_
  refine WS_det hF (by rfl) (y_fieldAddr (by rfl) fa26_0) ?_
  refine WS_det hF (by rfl) (y_load1 (by rfl) Try.isAgg3 (Mem.own1 0 (by rfl) (by rfl))) ?_
  refine WS_det hF (by rfl) (y_fieldAddr (by rfl) fa26_1) ?_
  refine WS_det hF (by rfl) (y_load1 (by rfl) Try.isAgg3 (Mem.own1 0 (by rfl) (by rfl))) ?_
  refine WS_newS hF (by rfl) (y_buildSliceL bs22_2_0_1 (by rfl)) (fun b2 => ?_)
  refine WS_det hF (by rfl) (y_callL (by rfl) (by rfl) Try.call65 (fun w hw => in_any _ _ _ _ _ _ w (by decide) (by first | exact Ints.one 0 rfl w hw | exact Ints.two 0 rfl w hw))) ?_
  refine WS_det hF (by rfl) (y_move (c := .bool _) (by rfl)) ?_
  refine WS_split 12 (by rfl) (fun g1_7 => ?_) (fun g1_7 => ?_)
  ·
    try simp only [Bool.not_eq_true', Bool.not_eq_false', decide_eq_true_eq, decide_eq_false_iff_not, ne_eq, Classical.not_not, Int.not_lt, Int.not_le] at g1_7
    refine WS_det hF (by rfl) (y_fieldAddr (by rfl) fa26_0) ?_
    refine WS_det hF (by rfl) (y_load1 (by rfl) Try.isAgg3 (Mem.own1 1 (by rfl) (by rfl))) ?_
    refine WS_det hF (by rfl) (y_fieldAddr (by rfl) fa26_1) ?_
    refine WS_det hF (by rfl) (y_load1 (by rfl) Try.isAgg3 (Mem.own1 1 (by rfl) (by rfl))) ?_
    refine WS_det hF (by rfl) (y_leq (by rfl) (by rfl)) ?_
    refine WS_det hF (by rfl) (by first | exact y_pick_t (c := .bool _) (by rfl) (by rfl) | exact y_pick_f (c := .bool _) (by rfl) (by rfl)) ?_
    refine WS_det hF (by rfl) (y_assign (c := .bool _) (by rfl)) ?_
    refine WS_nil ?_
    refine Then_normal ?_
    refine W_ret ?_
    refine Fin_ret [.bool _] [] Try.results72 ⟨by rfl, trivial⟩ HSub.nil ?_
    show _ = _
    simp [tupOf, *]
  ·
    try simp only [Bool.not_eq_true', Bool.not_eq_false', decide_eq_true_eq, decide_eq_false_iff_not, ne_eq, Classical.not_not, Int.not_lt, Int.not_le] at g1_7
    refine WS_no hF (by rfl) ?_
    refine WS_no hF (by rfl) ?_
    refine WS_no hF (by rfl) ?_
    refine WS_no hF (by rfl) ?_
    refine WS_no hF (by rfl) ?_
    refine WS_det hF (by rfl) (by first | exact y_pick_t (c := .bool _) (by rfl) (by rfl) | exact y_pick_f (c := .bool _) (by rfl) (by rfl)) ?_
    refine WS_det hF (by rfl) (y_assign (c := .bool _) (by rfl)) ?_
    refine WS_nil ?_
    refine Then_normal ?_
    refine W_ret ?_
    refine Fin_ret [.bool _] [] Try.results72 ⟨by rfl, trivial⟩ HSub.nil ?_
    show _ = _
    simp [tupOf, *]

/-- A gauge in memory. -/
structure Gg (w : World) (g og : Nat) (t : Tk) : Prop where
  ok : t.Ok
  ex : ∃ a cap, At w g og [.slice a t.n cap, .int .i64 t.leak, .int .i64 t.foot, .int .i64 t.full, .int .i64 t.height] ∧ Ints w a t.n cap t.pints
theorem Gg.below {w w' : World} {g og : Nat} {t : Tk} (h : Gg w g og t) (hb : Below w.heap.size w w') : Gg w' g og t := by
  obtain ⟨hok, a, cap, h1, h2⟩ := h
  exact ⟨hok, a, cap, At.old hb h1, h2.below hb⟩
theorem Gg.st {C : Ctx} {H : List Blk} {g og : Nat} {t : Tk} (h : Gg C.w0 g og t) (w : World) (hw : St C H w) : Gg w g og t := h.below hw.1

theorem times_any (g og : Nat) (t : Tk) (x : Int) (w : World) (hG : Gg w g og t) (h0 : 0 ≤ x) (h1 : x ≤ t.height) :
    Ct Try.prog 67 #[.pointer (some ⟨g, og, none⟩), .int .i64 x] w fun v _ => v = .int .i64 (t.eight x) := by
  obtain ⟨hok, a, cap, hg, hx⟩ := hG
  have h2 := hok.n2
  have h3 := hok.n21
  have hH : t.height = 8 * ((t.n : Int) - 1) := rfl
  obtain ⟨hs1, hs2, hs3, hs4⟩ := hok.seg h0 h1
  have hp0 := hok.bd (t.seg x) (by omega)
  have hp1 := hok.bd (t.seg x + 1) (by omega)
  have hpi := hok.inc (t.seg x) hs2
  have hE : t.eight x = 8 * t.p (t.seg x) + (x - 8 * (t.seg x : Int)) * (t.p (t.seg x + 1) - t.p (t.seg x)) := rfl
  have hm := mul_bd hs3 hs4 (show 0 ≤ t.p (t.seg x + 1) - t.p (t.seg x) by omega) (show t.p (t.seg x + 1) - t.p (t.seg x) ≤ 600 by omega)
  obtain ⟨b, o, rfl⟩ := hx.adr (by omega)
  have e0 := hx.at (k := t.seg x) (by omega)
  have e1 := hx.at (k := t.seg x + 1) (by omega)
  change At w b _ [.int .i64 (t.p (t.seg x))] at e0
  change At w b _ [.int .i64 (t.p (t.seg x + 1))] at e1
  rw [hE]
  generalize t.p (t.seg x) = p0 at *
  generalize t.p (t.seg x + 1) = p1 at *
  generalize t.seg x = k at *
  have hF := wide_wide
  refine Ct_start (args := [_, _]) Try.func67 (by rfl) Try.ntmps67 (by rfl) ?_
  refine W_seq ?_
  refine W_region_lit (fun ds => ?_)
  refine WS_det hF (by rfl) (y_assign (c := .int .i64 _) (by rfl)) ?_
  refine WS_nil ?_
  refine Then_normal ?_
  refine W_seq ?_
  refine W_region_lit (fun ds => ?_)
  refine WS_det hF (by rfl) (y_move (c := .int .i64 _) (by rfl)) ?_
  refine WS_det hF (by rfl) (y_quo (by rfl) (by rfl) (by omega) (by omega) (by unfold I64; omega)) ?_
  refine WS_det hF (by rfl) (y_move (c := .pointer _) (by rfl)) ?_
  refine WS_det hF (by rfl) (by first | exact y_nilCheck (by rfl) | exact y_nilCheckF (by rfl)) ?_
  refine WS_det hF (by rfl) (y_fieldAddr (by rfl) fa98_0) ?_
  refine WS_det hF (by rfl) (y_fieldAddr (by rfl) fa24_0) ?_
  refine WS_det hF (by rfl) (y_load1 (by rfl) Try.isAgg22 (by first | exact Mem.old1 (by assumption) | exact Mem.oldAt1 (by assumption) (by rfl) | exact Mem.old (by assumption) | exact Mem.oldAtL1 (by assumption) (by rfl) (by rfl))) ?_
  refine WS_det hF (by rfl) (y_len (by rfl) Try.runUnderlying22) ?_
  refine WS_det hF (by rfl) (y_sub (by rfl) (by rfl) (by unfold I64; omega)) ?_
  refine WS_det hF (by rfl) (y_min (by rfl) (by rfl)) ?_
  refine WS_det hF (by rfl) (y_assign (c := .int .i64 _) (by rfl)) ?_
  refine WS_nil ?_
  refine Then_normal ?_
  refine W_seq ?_
  rw [hs1]
  refine W_draw0 hF Trymixed [] (by decide +kernel) (fun ds => ?_)
  refine P_det (by rfl) (Over_nil (y_move (c := .pointer _) (by rfl))) ?_
  refine P_det (by rfl) (Over_nil (by first | exact y_nilCheck (by rfl) | exact y_nilCheckF (by rfl))) ?_
  refine P_det (by rfl) (Over_nil (y_fieldAddr (by rfl) fa98_0)) ?_
  refine P_det (by rfl) (Over_nil (y_fieldAddr (by rfl) fa24_0)) ?_
  refine P_det (by rfl) (Over_nil (y_load1 (by rfl) Try.isAgg22 (by first | exact Mem.old1 (by assumption) | exact Mem.oldAt1 (by assumption) (by rfl) | exact Mem.old (by assumption) | exact Mem.oldAtL1 (by assumption) (by rfl) (by rfl)))) ?_
  refine P_det (by rfl) (Over_nil (y_move (c := .int .i64 _) (by rfl))) ?_
  refine P_det (by rfl) (Over_nil (y_index (k := _) (by rfl) (by rfl) (by first | rfl | omega) (by first | decide | omega) Try.runUnderlying22 Try.sizeOf3)) ?_
  refine P_det (by rfl) (Over_nil (y_load1 (by rfl) Try.isAgg3 (by first | exact Mem.old1 (by assumption) | exact Mem.oldAt1 (by assumption) (by rfl) | exact Mem.old (by assumption) | exact Mem.oldAtL1 (by assumption) (by rfl) (by rfl)))) ?_
  refine P_det (by rfl) (Over_nil (y_mul (by rfl) (by rfl) (by unfold I64; omega))) ?_
  refine P_det (by rfl) (Over_nil (y_move (c := .int .i64 _) (by rfl))) ?_
  refine P_det (by rfl) (Over_nil (y_move (c := .int .i64 _) (by rfl))) ?_
  refine P_det (by rfl) (Over_nil (y_mul (by rfl) (by rfl) (by unfold I64; omega))) ?_
  refine P_det (by rfl) (Over_nil (y_sub (by rfl) (by rfl) (by unfold I64; omega))) ?_
  refine P_det (by rfl) (Over_nil (y_move (c := .pointer _) (by rfl))) ?_
  refine P_det (by rfl) (Over_nil (by first | exact y_nilCheck (by rfl) | exact y_nilCheckF (by rfl))) ?_
  refine P_det (by rfl) (Over_nil (y_fieldAddr (by rfl) fa98_0)) ?_
  refine P_det (by rfl) (Over_nil (y_fieldAddr (by rfl) fa24_0)) ?_
  refine P_det (by rfl) (Over_nil (y_load1 (by rfl) Try.isAgg22 (by first | exact Mem.old1 (by assumption) | exact Mem.oldAt1 (by assumption) (by rfl) | exact Mem.old (by assumption) | exact Mem.oldAtL1 (by assumption) (by rfl) (by rfl)))) ?_
  refine P_det (by rfl) (Over_nil (y_move (c := .int .i64 _) (by rfl))) ?_
  refine P_det (by rfl) (Over_nil (y_add (by rfl) (by rfl) (by unfold I64; omega))) ?_
  refine P_det (by rfl) (Over_nil (y_index (k := _) (by rfl) (by rfl) (by first | rfl | omega) (by first | decide | omega) Try.runUnderlying22 Try.sizeOf3)) ?_
  refine P_det (by rfl) (Over_nil (y_load1 (by rfl) Try.isAgg3 (by first | exact Mem.old1 (by assumption) | exact Mem.oldAt1 (by assumption) (by rfl) | exact Mem.old (by assumption) | exact Mem.oldAtL1 (by assumption) (by rfl) (by rfl)))) ?_
  refine P_det (by rfl) (Over_nil (y_move (c := .pointer _) (by rfl))) ?_
  refine P_det (by rfl) (Over_nil (by first | exact y_nilCheck (by rfl) | exact y_nilCheckF (by rfl))) ?_
  refine P_det (by rfl) (Over_nil (y_fieldAddr (by rfl) fa98_0)) ?_
  refine P_det (by rfl) (Over_nil (y_fieldAddr (by rfl) fa24_0)) ?_
  refine P_det (by rfl) (Over_nil (y_load1 (by rfl) Try.isAgg22 (by first | exact Mem.old1 (by assumption) | exact Mem.oldAt1 (by assumption) (by rfl) | exact Mem.old (by assumption) | exact Mem.oldAtL1 (by assumption) (by rfl) (by rfl)))) ?_
  refine P_det (by rfl) (Over_nil (y_move (c := .int .i64 _) (by rfl))) ?_
  refine P_det (by rfl) (Over_nil (y_index (k := _) (by rfl) (by rfl) (by first | rfl | omega) (by first | decide | omega) Try.runUnderlying22 Try.sizeOf3)) ?_
  refine P_det (by rfl) (Over_nil (y_load1 (by rfl) Try.isAgg3 (by first | exact Mem.old1 (by assumption) | exact Mem.oldAt1 (by assumption) (by rfl) | exact Mem.old (by assumption) | exact Mem.oldAtL1 (by assumption) (by rfl) (by rfl)))) ?_
  refine P_det (by rfl) (Over_nil (y_sub (by rfl) (by rfl) (by unfold I64; omega))) ?_
  refine P_det (by rfl) (Over_nil (y_mul (by rfl) (by rfl) (by unfold I64; omega))) ?_
  refine P_det (by rfl) (Over_nil (y_add (by rfl) (by rfl) (by unfold I64; omega))) ?_
  refine P_det (by rfl) (Over_nil (y_assign (c := .int .i64 _) (by rfl))) ?_
  refine PW_end (by rfl) ?_
  refine OverAll_nil ?_
  rintro -
  refine Then_normal ?_
  refine W_ret ?_
  refine Fin_ret [.int .i64 _] [] Try.results67 ⟨by rfl, trivial⟩ HSub.nil ?_
  rfl
theorem up_any (g og : Nat) (t : Tk) (x : Int) (w : World) (hG : Gg w g og t) (h0 : 0 ≤ x) (h1 : x ≤ t.height) :
    Ct Try.prog 94 #[.pointer (some ⟨g, og, none⟩), .int .i64 x] w fun v _ => v = .int .i64 (t.up x) := by
  have he := hG.ok.eight_bd h0 h1
  have hf := hG.ok.full_bd
  have hF := wide_wide
  refine Ct_start (args := [_, _]) Try.func94 (by rfl) Try.ntmps94 (by rfl) ?_
  refine W_seq ?_
  refine W_region_lit (fun ds => ?_)
  refine WS_det hF (by rfl) (y_assign (c := .int .i64 _) (by rfl)) ?_
  refine WS_nil ?_
  refine Then_normal ?_
  refine W_seq ?_
  refine W_region_lit (fun ds => ?_)
  refine WS_det hF (by rfl) (y_move (c := .pointer _) (by rfl)) ?_
  refine WS_det hF (by rfl) (y_move (c := .int .i64 _) (by rfl)) ?_
  refine WS_det hF (by rfl) (y_callL (by rfl) (by rfl) Try.call67 (fun w hw => times_any _ _ t x w (hG.st w hw) h0 h1)) ?_
  refine WS_det hF (by rfl) (y_add (by rfl) (by rfl) (by unfold I64; omega)) ?_
  refine WS_det hF (by rfl) (y_sub (by rfl) (by rfl) (by unfold I64; omega)) ?_
  refine WS_det hF (by rfl) (y_quo (by rfl) (by rfl) (by omega) (by omega) (by unfold I64; omega)) ?_
  refine WS_det hF (by rfl) (y_assign (c := .int .i64 _) (by rfl)) ?_
  refine WS_nil ?_
  refine Then_normal ?_
  refine W_ret ?_
  refine Fin_ret [.int .i64 _] [] Try.results94 ⟨by rfl, trivial⟩ HSub.nil ?_
  show Value.int _ _ = _
  unfold Tk.up
  rw [show t.eight x + 8 - 1 = t.eight x + 7 by omega]
theorem down_any (g og : Nat) (t : Tk) (x : Int) (w : World) (hG : Gg w g og t) (h0 : 0 ≤ x) (h1 : x ≤ t.height) :
    Ct Try.prog 123 #[.pointer (some ⟨g, og, none⟩), .int .i64 x] w fun v _ => v = .int .i64 (t.down x) := by
  have he := hG.ok.eight_bd h0 h1
  have hf := hG.ok.full_bd
  have hF := wide_wide
  refine Ct_start (args := [_, _]) Try.func123 (by rfl) Try.ntmps123 (by rfl) ?_
  refine W_seq ?_
  refine W_region_lit (fun ds => ?_)
  refine WS_det hF (by rfl) (y_assign (c := .int .i64 _) (by rfl)) ?_
  refine WS_nil ?_
  refine Then_normal ?_
  refine W_seq ?_
  refine W_region_lit (fun ds => ?_)
  refine WS_det hF (by rfl) (y_move (c := .pointer _) (by rfl)) ?_
  refine WS_det hF (by rfl) (y_move (c := .int .i64 _) (by rfl)) ?_
  refine WS_det hF (by rfl) (y_callL (by rfl) (by rfl) Try.call67 (fun w hw => times_any _ _ t x w (hG.st w hw) h0 h1)) ?_
  refine WS_det hF (by rfl) (y_quo (by rfl) (by rfl) (by omega) (by omega) (by unfold I64; omega)) ?_
  refine WS_det hF (by rfl) (y_assign (c := .int .i64 _) (by rfl)) ?_
  refine WS_nil ?_
  refine Then_normal ?_
  refine W_ret ?_
  refine Fin_ret [.int .i64 _] [] Try.results123 ⟨by rfl, trivial⟩ HSub.nil ?_
  rfl
theorem dip_any (g og : Nat) (t : Tk) (x y : Int) (w : World) (hG : Gg w g og t) (h0 : 0 ≤ x) (h1 : x ≤ t.height) (h2 : 0 ≤ y) (h3 : y ≤ t.height) :
    Ct Try.prog 73 #[.pointer (some ⟨g, og, none⟩), .agg #[.int .i64 x, .int .i64 y]] w fun v _ => v = .agg #[.int .i64 (t.up x), .int .i64 (t.down y)] := by
  have hF := wide_wide
  refine Ct_start (args := [_, _]) Try.func73 (by rfl) Try.ntmps73 (by rfl) ?_
  refine W_seq ?_
  refine W_region_lit (fun ds => ?_)
  refine WS_new hF (by rfl) (y_box (by rfl)) (fun b1 => ?_)
  refine WS_new hF (by rfl) (y_alloc Try.zeroValue26 (by rfl)) (fun b2 => ?_)
  refine WS_nil ?_
  refine Then_normal ?_
  refine W_seq ?_
  apply W_draw1 hF Trymixed [1000000] (i := 0) (by rfl) (by decide +kernel)
  intro ds
  refine P_det (by rfl) (Over_out (by rfl) (Over_nil (y_move (c := .pointer _) (by rfl)))) ?_
  refine P_det (by rfl) (Over_out (by rfl) (Over_nil (y_fieldAddr (by rfl) fa26_0))) ?_
  refine P_det (by rfl) (Over_out (by rfl) (Over_nil (y_load1 (by rfl) Try.isAgg3 (Mem.own1 0 (by rfl) (by rfl))))) ?_
  refine P_det (by rfl) (Over_out (by rfl) (Over_nil (y_callL (by rfl) (by rfl) Try.call94 (fun w hw => up_any _ _ t x w (hG.st w hw) h0 h1)))) ?_
  refine P_det (by rfl) (Over_out (by rfl) (Over_nil (y_move (c := .pointer _) (by rfl)))) ?_
  refine P_det (by rfl) (Over_out (by rfl) (Over_nil (y_fieldAddr (by rfl) fa26_1))) ?_
  refine P_det (by rfl) (Over_out (by rfl) (Over_nil (y_load1 (by rfl) Try.isAgg3 (Mem.own1 0 (by rfl) (by rfl))))) ?_
  refine P_det (by rfl) (Over_out (by rfl) (Over_nil (y_callL (by rfl) (by rfl) Try.call123 (fun w hw => down_any _ _ t y w (hG.st w hw) h2 h3)))) ?_
  refine P_det (by rfl) (Over_out (by rfl) (Over_nil (y_buildL bd26_0_1 (by rfl)))) ?_
  refine P_st 1000000 0 (by rfl) (by rfl) (by rfl) (by rfl) (by rfl) (Over_nil (st_pre (fun _ => by rfl) (fun _ => by rfl) Try.sizeOf26 (by rfl) (by rfl) (by first | decide | exact Nat.le_of_ble_eq_true rfl | simp))) ?_
  refine PW_end (by rfl) ?_
  refine OverAll_cons (fun w1000000 l1000000 => ?_)
  refine OverAll_nil ?_
  rintro ⟨-, h1000000⟩
  obtain rfl := h1000000
  refine Then_normal ?_
  refine W_ret ?_
  refine Fin_ret [_] [] Try.results73 ⟨lvN (by rfl) Try.isAgg26 Try.sizeOf26 (Mem.own (us := [.int .i64 _, .int .i64 _]) 0 (by rfl) (by rfl)) (by rfl), trivial⟩ HSub.nil ?_
  rfl
end Go.Proofs.Ythkimgfgpphgnaa.T
