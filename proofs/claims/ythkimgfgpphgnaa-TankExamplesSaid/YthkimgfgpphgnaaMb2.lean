/- What the tank can hold by the entries behind: the walk. -/
import Derived.Test.YthkimgfgpphgnaaMb1
import Derived.Test.YthkimgfgpphgnaaRows
import Derived.WalkKit
import Derived.ProofKit
import Derived.OpenShut
import Derived.Lib.SmallJoins
import Derived.ChangeOld
import Derived.Below
set_option linter.unusedVariables false
set_option linter.unusedSimpArgs false
/- Walks: part, Least, cmp.Less, slices.BinarySearch. -/
namespace Go.Proofs.Ythkimgfgpphgnaa.T
open Go.RowKit Go.Proofs Go.Eng
set_option maxRecDepth 100000
set_option linter.unusedVariables false
set_option linter.unusedSimpArgs false

theorem bd30_0_1 {x0 : Int} {x1 : Int} : ∀ w, (Instr.build 30 #[(0, .int .i64 x0), (1, .int .i64 x1)]).run Try.prog w = .ok (.agg #[.int .i64 x0, .int .i64 x1]) w := fun w => by kernel_rfl

theorem gcd_step (x y : Nat) : Nat.gcd y (x % y) = Nat.gcd x y := by
  rw [Nat.gcd_comm x y, Nat.gcd_rec y x, Nat.gcd_comm]
def lowest (n d : Nat) : Value := .agg #[.int .i64 ((n / Nat.gcd n d : Nat) : Int), .int .i64 ((d / Nat.gcd n d : Nat) : Int)]

theorem part_any (n d : Nat) (w : World) (hn : (n : Int) ≤ 1000000000000) (hd : 0 < d) (hd' : (d : Int) ≤ 1000000000000) :
    Ct Try.prog 66 #[.int .i64 n, .int .i64 d] w fun v _ => v = lowest n d := by
  have hF := wide_wide
  refine Ct_start (args := [_, _]) Try.func66 (by rfl) Try.ntmps66 (by rfl) ?_
  refine W_seq ?_
  refine W_region_lit (fun ds => ?_)
  refine WS_new hF (by rfl) (y_alloc Try.zeroValue30 (by rfl)) (fun b1 => ?_)
  refine WS_nil ?_
  refine Then_normal ?_
  refine W_seq ?_
  refine W_region_lit (fun ds => ?_)
  refine WS_det hF (by rfl) (y_move (c := .int .i64 _) (by rfl)) ?_
  refine WS_det hF (by rfl) (y_move (c := .int .i64 _) (by rfl)) ?_
  refine WS_det hF (by rfl) (y_assign (c := .int .i64 _) (by rfl)) ?_
  refine WS_det hF (by rfl) (y_assign (c := .int .i64 _) (by rfl)) ?_
  refine WS_nil ?_
  refine Then_normal ?_
  refine W_seq ?_
  refine W_block ?_
  refine W_loop (γ := Nat × Nat) (fun p => Nat.gcd p.1 p.2 = Nat.gcd n d ∧ (p.1 : Int) ≤ 1000000000000 ∧ (p.2 : Int) ≤ 1000000000000) (fun p => [(5, .int .i64 (p.1 : Int)), (6, .int .i64 (p.2 : Int)), (0, .int .i64 n), (1, .int .i64 d), (4, .pointer (some ⟨b1, 0, none⟩))]) (fun _ => _) (fun p => p.2) ((n, d)) ⟨rfl, hn, hd'⟩ (by repeat (first | exact trivial | refine ⟨by rfl, ?_⟩)) (List.Sublist.refl _) ?_
  rintro ⟨x, y⟩ e ⟨hg, hx, hy⟩
  simp only at hg hx hy
  refine W_seq ?_
  refine W_seq ?_
  refine W_region_lit (fun ds => ?_)
  refine WS_det hF (by rfl) (y_move (c := .int .i64 _) (by rfl)) ?_
  refine WS_det hF (by rfl) (y_neq (by rfl) (by rfl)) ?_
  refine WS_nil ?_
  refine Then_normal ?_
  refine W_cond (by rfl) (fun c2 => ?_) (fun c2 => ?_)
  ·
    try simp only [Bool.not_eq_true', Bool.not_eq_false', decide_eq_true_eq, decide_eq_false_iff_not, ne_eq, Classical.not_not, Int.not_lt, Int.not_le] at c2
    refine W_skip ?_
    refine Then_normal ?_
    refine W_block ?_
    refine W_draw0 hF Trymixed [] (by decide +kernel) (fun ds => ?_)
    refine P_det (by rfl) (Over_nil (y_move (c := .int .i64 _) (by rfl))) ?_
    refine P_det (by rfl) (Over_nil (y_move (c := .int .i64 _) (by rfl))) ?_
    refine P_det (by rfl) (Over_nil (y_move (c := .int .i64 _) (by rfl))) ?_
    refine P_det (by rfl) (Over_nil (y_rem (by rfl) (by rfl) (by omega) (by omega))) ?_
    refine P_det (by rfl) (Over_nil (y_assign (c := .int .i64 _) (by rfl))) ?_
    refine P_det (by rfl) (Over_nil (y_assign (c := .int .i64 _) (by rfl))) ?_
    refine PW_end (by rfl) ?_
    refine OverAll_nil ?_
    rintro -
    refine InB_normal ?_
    exact Loop_next (y, x % y) ⟨(gcd_step x y).trans hg, hy, Int.le_trans (Int.ofNat_le.2 (Nat.mod_le x y)) hx⟩ (by repeat (first | exact trivial | refine ⟨by rfl, ?_⟩)) (by repeat (first | exact List.Sublist.refl _ | exact List.nil_sublist _ | apply List.Sublist.cons_cons | apply List.Sublist.cons)) (Nat.mod_lt x (by omega))
  ·
    try simp only [Bool.not_eq_true', Bool.not_eq_false', decide_eq_true_eq, decide_eq_false_iff_not, ne_eq, Classical.not_not, Int.not_lt, Int.not_le] at c2
    have hy0 : y = 0 := by omega
    subst hy0
    rw [Nat.gcd_zero_right] at hg
    have hxp : 0 < x := by rw [hg]; exact Nat.gcd_pos_of_pos_right n hd
    refine W_exit ?_
    refine Then_exit ?_
    refine Loop_exit ?_
    refine InB_same ?_
    refine Then_normal ?_
    refine W_seq ?_
    apply W_draw1 hF Trymixed [1000000] (i := 0) (by rfl) (by decide +kernel)
    intro ds
    refine P_det (by rfl) (Over_out (by rfl) (Over_nil (y_move (c := .int .i64 _) (by rfl)))) ?_
    refine P_det (by rfl) (Over_out (by rfl) (Over_nil (y_move (c := .int .i64 _) (by rfl)))) ?_
    refine P_det (by rfl) (Over_out (by rfl) (Over_nil (y_quo (by rfl) (by rfl) (by omega) (by omega) (by unfold I64; omega)))) ?_
    refine P_det (by rfl) (Over_out (by rfl) (Over_nil (y_move (c := .int .i64 _) (by rfl)))) ?_
    refine P_det (by rfl) (Over_out (by rfl) (Over_nil (y_move (c := .int .i64 _) (by rfl)))) ?_
    refine P_det (by rfl) (Over_out (by rfl) (Over_nil (y_quo (by rfl) (by rfl) (by omega) (by omega) (by unfold I64; omega)))) ?_
    refine P_det (by rfl) (Over_out (by rfl) (Over_nil (y_buildL bd30_0_1 (by rfl)))) ?_
    refine P_st 1000000 0 (by rfl) (by rfl) (by rfl) (by rfl) (by rfl) (Over_nil (st_pre (fun _ => by rfl) (fun _ => by rfl) Try.sizeOf30 (by rfl) (by rfl) (by first | decide | exact Nat.le_of_ble_eq_true rfl | simp))) ?_
    refine PW_end (by rfl) ?_
    refine OverAll_cons (fun w1000000 l1000000 => ?_)
    refine OverAll_nil ?_
    rintro ⟨-, h1000000⟩
    obtain rfl := h1000000
    refine Then_normal ?_
    refine W_ret ?_
    refine Fin_ret [_] [] Try.results66 ⟨lvN (by rfl) Try.isAgg30 Try.sizeOf30 (Mem.own (us := [.int .i64 _, .int .i64 _]) 0 (by rfl) (by rfl)) (by rfl), trivial⟩ HSub.nil ?_
    show Value.agg _ = _
    unfold lowest
    rw [← hg]; rfl
/-- A fraction in lowest terms. -/
def lowI (n d : Int) : Value := lowest n.toNat d.toNat
theorem part_int (n d : Int) (w : World) (h0 : 0 ≤ n) (hn : n ≤ 1000000000000) (hd : 0 < d) (hd' : d ≤ 1000000000000) :
    Ct Try.prog 66 #[.int .i64 n, .int .i64 d] w fun v _ => v = lowI n d := by
  obtain ⟨n, rfl⟩ := Int.eq_ofNat_of_zero_le h0
  obtain ⟨d, rfl⟩ := Int.eq_ofNat_of_zero_le (Int.le_of_lt hd)
  exact part_any n d w hn (by omega) hd'

theorem cnan_any (x : Int) (w : World) : Ct Try.prog 129 #[.int .i64 x] w fun v _ => v = .bool false := by
  have hF := wide_wide
  refine Ct_start (args := [_]) Try.func129 (by rfl) Try.ntmps129 (by rfl) ?_
  refine W_seq ?_
  refine W_region_lit (fun ds => ?_)
  refine WS_det hF (by rfl) (y_assign (c := .bool _) (by rfl)) ?_
  refine WS_nil ?_
  refine Then_normal ?_
  refine W_seq ?_
  refine W_region_lit (fun ds => ?_)
  refine WS_det hF (by rfl) (y_move (c := .int .i64 _) (by rfl)) ?_
  refine WS_det hF (by rfl) (y_move (c := .int .i64 _) (by rfl)) ?_
  refine WS_det hF (by rfl) (y_neq (by rfl) (by rfl)) ?_
  refine WS_det hF (by rfl) (y_assign (c := .bool _) (by rfl)) ?_
  refine WS_nil ?_
  refine Then_normal ?_
  refine W_ret ?_
  refine Fin_ret [.bool _] [] Try.results129 ⟨by rfl, trivial⟩ HSub.nil ?_
  show Value.bool _ = _
  simp
theorem snan_any (x : Int) (w : World) : Ct Try.prog 122 #[.int .i64 x] w fun v _ => v = .bool false := by
  have hF := wide_wide
  refine Ct_start (args := [_]) Try.func122 (by rfl) Try.ntmps122 (by rfl) ?_
  refine W_seq ?_
  refine W_region_lit (fun ds => ?_)
  refine WS_det hF (by rfl) (y_assign (c := .bool _) (by rfl)) ?_
  refine WS_nil ?_
  refine Then_normal ?_
  refine W_seq ?_
  refine W_region_lit (fun ds => ?_)
  refine WS_det hF (by rfl) (y_move (c := .int .i64 _) (by rfl)) ?_
  refine WS_det hF (by rfl) (y_move (c := .int .i64 _) (by rfl)) ?_
  refine WS_det hF (by rfl) (y_neq (by rfl) (by rfl)) ?_
  refine WS_det hF (by rfl) (y_assign (c := .bool _) (by rfl)) ?_
  refine WS_nil ?_
  refine Then_normal ?_
  refine W_ret ?_
  refine Fin_ret [.bool _] [] Try.results122 ⟨by rfl, trivial⟩ HSub.nil ?_
  show Value.bool _ = _
  simp

theorem less_any (x y : Int) (w : World) : Ct Try.prog 121 #[.int .i64 x, .int .i64 y] w fun v _ => v = .bool (decide (x < y)) := by
  have hF := wide_wide
  refine Ct_start (args := [_, _]) Try.func121 (by rfl) Try.ntmps121 (by rfl) ?_
  refine W_seq ?_
  refine W_region_lit (fun ds => ?_)
  refine WS_det hF (by rfl) (y_assign (c := .bool _) (by rfl)) ?_
  refine WS_nil ?_
  refine Then_normal ?_
  refine W_seq ?_
  refine W_region_lit (fun ds => ?_)
  refine WS_det hF (by rfl) (y_move (c := .int .i64 _) (by rfl)) ?_
  refine WS_det hF (by rfl) (y_callL (by rfl) (by rfl) Try.call129 (fun w hw => cnan_any _ w)) ?_
  refine WS_det hF (by rfl) (y_move (c := .bool _) (by rfl)) ?_
  refine WS_split 7 (by rfl) (fun g1_2 => ?_) (fun g1_2 => ?_)
  · cases g1_2
  ·
    try simp only [Bool.not_eq_true', Bool.not_eq_false', decide_eq_true_eq, decide_eq_false_iff_not, ne_eq, Classical.not_not, Int.not_lt, Int.not_le] at g1_2
    refine WS_no hF (by rfl) ?_
    refine WS_no hF (by rfl) ?_
    refine WS_no hF (by rfl) ?_
    refine WS_det hF (by rfl) (by first | exact y_pick_t (c := .bool _) (by rfl) (by rfl) | exact y_pick_f (c := .bool _) (by rfl) (by rfl)) ?_
    refine WS_det hF (by rfl) (y_move (c := .bool _) (by rfl)) ?_
    refine WS_det hF (by rfl) (y_move (c := .int .i64 _) (by rfl)) ?_
    refine WS_det hF (by rfl) (y_move (c := .int .i64 _) (by rfl)) ?_
    refine WS_det hF (by rfl) (y_lss (by rfl) (by rfl)) ?_
    refine WS_det hF (by rfl) (by first | exact y_pick_t (c := .bool _) (by rfl) (by rfl) | exact y_pick_f (c := .bool _) (by rfl) (by rfl)) ?_
    refine WS_det hF (by rfl) (y_assign (c := .bool _) (by rfl)) ?_
    refine WS_nil ?_
    refine Then_normal ?_
    refine W_ret ?_
    refine Fin_ret [.bool _] [] Try.results121 ⟨by rfl, trivial⟩ HSub.nil ?_
    rfl

theorem bsearch_any (a : Option Addr) (n cap : Nat) (xs : List Int) (v : Int) (i : Nat) (w : World) (hn : (n : Int) ≤ 1000000) (hx : Ints w a n cap xs) (hi : i ≤ n) (hlo : ∀ k, k < i → xs.getD k 0 < v) (hhi : ∀ k, i ≤ k → k < n → v ≤ xs.getD k 0) :
    Ct Try.prog 71 #[.slice a n cap, .int .i64 v] w fun r _ => r = .tuple #[.int .i64 (i : Int), .bool (decide (i < n ∧ xs.getD i 0 = v))] := by
  have hF := wide_wide
  refine Ct_start (args := [_, _]) Try.func71 (by rfl) Try.ntmps71 (by rfl) ?_
  refine W_seq ?_
  refine W_region_lit (fun ds => ?_)
  refine WS_det hF (by rfl) (y_assign (c := .int .i64 _) (by rfl)) ?_
  refine WS_det hF (by rfl) (y_assign (c := .bool _) (by rfl)) ?_
  refine WS_nil ?_
  refine Then_normal ?_
  refine W_seq ?_
  refine W_region_lit (fun ds => ?_)
  refine WS_det hF (by rfl) (y_move (c := .slice _ _ _) (by rfl)) ?_
  refine WS_det hF (by rfl) (y_len (by rfl) Try.runUnderlying22) ?_
  refine WS_det hF (by rfl) (y_assign (c := .int .i64 _) (by rfl)) ?_
  refine WS_nil ?_
  refine Then_normal ?_
  refine W_seq ?_
  refine W_region_lit (fun ds => ?_)
  refine WS_det hF (by rfl) (y_move (c := .int .i64 _) (by rfl)) ?_
  refine WS_det hF (by rfl) (y_assign (c := .int .i64 _) (by rfl)) ?_
  refine WS_det hF (by rfl) (y_assign (c := .int .i64 _) (by rfl)) ?_
  refine WS_nil ?_
  refine Then_normal ?_
  refine W_seq ?_
  refine W_block ?_
  refine W_loop (γ := Nat × Nat) (fun p => p.1 ≤ i ∧ i ≤ p.2 ∧ p.2 ≤ n) (fun p => [(7, .int .i64 (p.1 : Int)), (8, .int .i64 (p.2 : Int)), (0, .slice a n cap), (1, .int .i64 v), (6, .int .i64 n)]) (fun _ => _) (fun p => p.2 - p.1) ((0, n)) ⟨Nat.zero_le _, hi, Nat.le_refl _⟩ (by repeat (first | exact trivial | refine ⟨by rfl, ?_⟩)) (List.Sublist.refl _) ?_
  rintro ⟨x, y⟩ e ⟨h1, h2, h3⟩
  simp only at h1 h2 h3
  refine W_seq ?_
  refine W_seq ?_
  refine W_region_lit (fun ds => ?_)
  refine WS_det hF (by rfl) (y_move (c := .int .i64 _) (by rfl)) ?_
  refine WS_det hF (by rfl) (y_move (c := .int .i64 _) (by rfl)) ?_
  refine WS_det hF (by rfl) (y_lss (by rfl) (by rfl)) ?_
  refine WS_nil ?_
  refine Then_normal ?_
  refine W_cond (by rfl) (fun c3 => ?_) (fun c3 => ?_)
  ·
    try simp only [Bool.not_eq_true', Bool.not_eq_false', decide_eq_true_eq, decide_eq_false_iff_not, ne_eq, Classical.not_not, Int.not_lt, Int.not_le] at c3
    obtain ⟨b, o, rfl, hc⟩ := hx.cell ((x + y) / 2) (by omega)
    refine W_skip ?_
    refine Then_normal ?_
    refine W_block ?_
    refine W_seq ?_
    refine W_region_lit (fun ds => ?_)
    refine WS_det hF (by rfl) (y_move (c := .int .i64 _) (by rfl)) ?_
    refine WS_det hF (by rfl) (y_move (c := .int .i64 _) (by rfl)) ?_
    refine WS_det hF (by rfl) (y_add (by rfl) (by rfl) (by unfold I64; omega)) ?_
    refine WS_det hF (by rfl) (y_conv_iu (by rfl) Try.runUnderlying3 Try.runUnderlying150 (by first | exact IntWalk.i64_in _ (by omega) | exact IntWalk.u64_in _ (by omega))) ?_
    refine WS_det hF (by rfl) (y_shr1 (by rfl) (by rfl) (by rfl)) ?_
    refine WS_det hF (by rfl) (y_conv_iu (by rfl) Try.runUnderlying150 Try.runUnderlying3 (by first | exact IntWalk.i64_in _ (by omega) | exact IntWalk.u64_in _ (by omega))) ?_
    refine WS_det hF (by rfl) (y_assign (c := .int .i64 _) (by rfl)) ?_
    refine WS_nil ?_
    refine Then_normal ?_
    refine W_seq ?_
    refine W_region_lit (fun ds => ?_)
    refine WS_det hF (by rfl) (y_move (c := .slice _ _ _) (by rfl)) ?_
    refine WS_det hF (by rfl) (y_move (c := .int .i64 _) (by rfl)) ?_
    refine WS_det hF (by rfl) (y_index (k := (x + y) / 2) (by rfl) (by rfl) (by first | rfl | omega) (by first | decide | omega) Try.runUnderlying22 Try.sizeOf3) ?_
    refine WS_det hF (by rfl) (y_load1 (by rfl) Try.isAgg3 (by first | exact Mem.old1 (by assumption) | exact Mem.oldAt1 (by assumption) (by rfl) | exact Mem.old (by assumption) | exact Mem.oldAtL1 (by assumption) (by rfl) (by rfl))) ?_
    refine WS_det hF (by rfl) (y_move (c := .int .i64 _) (by rfl)) ?_
    refine WS_det hF (by rfl) (y_callL (by rfl) (by rfl) Try.call121 (fun w hw => less_any _ _ w)) ?_
    refine WS_nil ?_
    refine Then_normal ?_
    refine W_cond (by rfl) (fun c5 => ?_) (fun c5 => ?_)
    ·
      try simp only [Bool.not_eq_true', Bool.not_eq_false', decide_eq_true_eq, decide_eq_false_iff_not, ne_eq, Classical.not_not, Int.not_lt, Int.not_le] at c5
      have hm : (x + y) / 2 < i := Nat.lt_of_not_le fun h => absurd (hhi _ h (by omega)) (by omega)
      refine W_region_lit (fun ds => ?_)
      refine WS_det hF (by rfl) (y_move (c := .int .i64 _) (by rfl)) ?_
      refine WS_det hF (by rfl) (y_add (by rfl) (by rfl) (by unfold I64; omega)) ?_
      refine WS_det hF (by rfl) (y_assign (c := .int .i64 _) (by rfl)) ?_
      refine WS_nil ?_
      refine InB_normal ?_
      exact Loop_next ((x + y) / 2 + 1, y) ⟨by show (x + y) / 2 + 1 ≤ i; omega, h2, h3⟩ (by repeat (first | exact trivial | refine ⟨by rfl, ?_⟩)) (by repeat (first | exact List.Sublist.refl _ | exact List.nil_sublist _ | apply List.Sublist.cons_cons | apply List.Sublist.cons)) (by show y - ((x + y) / 2 + 1) < y - x; omega)
    ·
      try simp only [Bool.not_eq_true', Bool.not_eq_false', decide_eq_true_eq, decide_eq_false_iff_not, ne_eq, Classical.not_not, Int.not_lt, Int.not_le] at c5
      have hm : i ≤ (x + y) / 2 := Nat.le_of_not_lt fun h => absurd (hlo _ h) (by omega)
      refine W_region_lit (fun ds => ?_)
      refine WS_det hF (by rfl) (y_move (c := .int .i64 _) (by rfl)) ?_
      refine WS_det hF (by rfl) (y_assign (c := .int .i64 _) (by rfl)) ?_
      refine WS_nil ?_
      refine InB_normal ?_
      exact Loop_next (x, (x + y) / 2) ⟨h1, by show i ≤ (x + y) / 2; omega, by show (x + y) / 2 ≤ n; omega⟩ (by repeat (first | exact trivial | refine ⟨by rfl, ?_⟩)) (by repeat (first | exact List.Sublist.refl _ | exact List.nil_sublist _ | apply List.Sublist.cons_cons | apply List.Sublist.cons)) (by show (x + y) / 2 - x < y - x; omega)
  ·
    try simp only [Bool.not_eq_true', Bool.not_eq_false', decide_eq_true_eq, decide_eq_false_iff_not, ne_eq, Classical.not_not, Int.not_lt, Int.not_le] at c3
    obtain rfl : x = i := by omega
    refine W_exit ?_
    refine Then_exit ?_
    refine Loop_exit ?_
    refine InB_same ?_
    refine Then_normal ?_
    refine W_seq ?_
    refine W_region_lit (fun ds => ?_)
    refine WS_det hF (by rfl) (y_move (c := .int .i64 _) (by rfl)) ?_
    refine WS_det hF (by rfl) (y_move (c := .int .i64 _) (by rfl)) ?_
    refine WS_det hF (by rfl) (y_move (c := .int .i64 _) (by rfl)) ?_
    refine WS_det hF (by rfl) (y_lss (by rfl) (by rfl)) ?_
    refine WS_det hF (by rfl) (y_move (c := .bool _) (by rfl)) ?_
    refine WS_split 35 (by rfl) (fun g8_4 => ?_) (fun g8_4 => ?_)
    ·
      try simp only [Bool.not_eq_true', Bool.not_eq_false', decide_eq_true_eq, decide_eq_false_iff_not, ne_eq, Classical.not_not, Int.not_lt, Int.not_le] at g8_4
      obtain ⟨b, o, rfl, hc⟩ := hx.cell x (by omega)
      refine WS_det hF (by rfl) (y_move (c := .slice _ _ _) (by rfl)) ?_
      refine WS_det hF (by rfl) (y_move (c := .int .i64 _) (by rfl)) ?_
      refine WS_det hF (by rfl) (y_index (k := x) (by rfl) (by rfl) (by first | rfl | omega) (by first | decide | omega) Try.runUnderlying22 Try.sizeOf3) ?_
      refine WS_det hF (by rfl) (y_load1 (by rfl) Try.isAgg3 (by first | exact Mem.old1 (by assumption) | exact Mem.oldAt1 (by assumption) (by rfl) | exact Mem.old (by assumption) | exact Mem.oldAtL1 (by assumption) (by rfl) (by rfl))) ?_
      refine WS_det hF (by rfl) (y_move (c := .int .i64 _) (by rfl)) ?_
      refine WS_det hF (by rfl) (y_eql (by rfl) (by rfl)) ?_
      refine WS_det hF (by rfl) (y_move (c := .bool _) (by rfl)) ?_
      refine WS_split 42 (by rfl) (fun g8_11 => ?_) (fun g8_11 => ?_)
      ·
        try simp only [Bool.not_eq_true', Bool.not_eq_false', decide_eq_true_eq, decide_eq_false_iff_not, ne_eq, Classical.not_not, Int.not_lt, Int.not_le] at g8_11
        refine WS_no hF (by rfl) ?_
        refine WS_no hF (by rfl) ?_
        refine WS_no hF (by rfl) ?_
        refine WS_no hF (by rfl) ?_
        refine WS_no hF (by rfl) ?_
        refine WS_no hF (by rfl) ?_
        refine WS_no hF (by rfl) ?_
        refine WS_no hF (by rfl) ?_
        refine WS_no hF (by rfl) ?_
        refine WS_det hF (by rfl) (by first | exact y_pick_t (c := .bool _) (by rfl) (by rfl) | exact y_pick_f (c := .bool _) (by rfl) (by rfl)) ?_
        refine WS_det hF (by rfl) (by first | exact y_pick_t (c := .bool _) (by rfl) (by rfl) | exact y_pick_f (c := .bool _) (by rfl) (by rfl)) ?_
        refine WS_det hF (by rfl) (y_assign (c := .int .i64 _) (by rfl)) ?_
        refine WS_det hF (by rfl) (y_assign (c := .bool _) (by rfl)) ?_
        refine WS_nil ?_
        refine Then_normal ?_
        refine W_ret ?_
        refine Fin_ret [.int .i64 _, .bool _] [] Try.results71 ⟨by rfl, by rfl, trivial⟩ HSub.nil ?_
        show Value.tuple _ = _
        rw [decide_eq_true (p := x < n ∧ xs.getD x 0 = v) ⟨by omega, g8_11⟩]
      ·
        try simp only [Bool.not_eq_true', Bool.not_eq_false', decide_eq_true_eq, decide_eq_false_iff_not, ne_eq, Classical.not_not, Int.not_lt, Int.not_le] at g8_11
        refine WS_det hF (by rfl) (y_move (c := .slice _ _ _) (by rfl)) ?_
        refine WS_det hF (by rfl) (y_move (c := .int .i64 _) (by rfl)) ?_
        refine WS_det hF (by rfl) (y_index (k := x) (by rfl) (by rfl) (by first | rfl | omega) (by first | decide | omega) Try.runUnderlying22 Try.sizeOf3) ?_
        refine WS_det hF (by rfl) (y_load1 (by rfl) Try.isAgg3 (by first | exact Mem.old1 (by assumption) | exact Mem.oldAt1 (by assumption) (by rfl) | exact Mem.old (by assumption) | exact Mem.oldAtL1 (by assumption) (by rfl) (by rfl))) ?_
        refine WS_det hF (by rfl) (y_callL (by rfl) (by rfl) Try.call122 (fun w hw => snan_any _ w)) ?_
        refine WS_det hF (by rfl) (y_move (c := .bool _) (by rfl)) ?_
        refine WS_split 48 (by rfl) (fun g8_17 => ?_) (fun g8_17 => ?_)
        · simp at g8_17
        ·
          try simp only [Bool.not_eq_true', Bool.not_eq_false', decide_eq_true_eq, decide_eq_false_iff_not, ne_eq, Classical.not_not, Int.not_lt, Int.not_le] at g8_17
          refine WS_no hF (by rfl) ?_
          refine WS_no hF (by rfl) ?_
          refine WS_det hF (by rfl) (by first | exact y_pick_t (c := .bool _) (by rfl) (by rfl) | exact y_pick_f (c := .bool _) (by rfl) (by rfl)) ?_
          refine WS_det hF (by rfl) (by first | exact y_pick_t (c := .bool _) (by rfl) (by rfl) | exact y_pick_f (c := .bool _) (by rfl) (by rfl)) ?_
          refine WS_det hF (by rfl) (by first | exact y_pick_t (c := .bool _) (by rfl) (by rfl) | exact y_pick_f (c := .bool _) (by rfl) (by rfl)) ?_
          refine WS_det hF (by rfl) (y_assign (c := .int .i64 _) (by rfl)) ?_
          refine WS_det hF (by rfl) (y_assign (c := .bool _) (by rfl)) ?_
          refine WS_nil ?_
          refine Then_normal ?_
          refine W_ret ?_
          refine Fin_ret [.int .i64 _, .bool _] [] Try.results71 ⟨by rfl, by rfl, trivial⟩ HSub.nil ?_
          show Value.tuple _ = _
          rw [decide_eq_false (p := x < n ∧ xs.getD x 0 = v) (fun h => g8_11 h.2)]
    ·
      try simp only [Bool.not_eq_true', Bool.not_eq_false', decide_eq_true_eq, decide_eq_false_iff_not, ne_eq, Classical.not_not, Int.not_lt, Int.not_le] at g8_4
      refine WS_no hF (by rfl) ?_
      refine WS_no hF (by rfl) ?_
      refine WS_no hF (by rfl) ?_
      refine WS_no hF (by rfl) ?_
      refine WS_no hF (by rfl) ?_
      refine WS_no hF (by rfl) ?_
      refine WS_no hF (by rfl) ?_
      refine WS_no hF (by rfl) ?_
      refine WS_no hF (by rfl) ?_
      refine WS_no hF (by rfl) ?_
      refine WS_no hF (by rfl) ?_
      refine WS_no hF (by rfl) ?_
      refine WS_no hF (by rfl) ?_
      refine WS_no hF (by rfl) ?_
      refine WS_no hF (by rfl) ?_
      refine WS_no hF (by rfl) ?_
      refine WS_no hF (by rfl) ?_
      refine WS_det hF (by rfl) (by first | exact y_pick_t (c := .bool _) (by rfl) (by rfl) | exact y_pick_f (c := .bool _) (by rfl) (by rfl)) ?_
      refine WS_det hF (by rfl) (y_assign (c := .int .i64 _) (by rfl)) ?_
      refine WS_det hF (by rfl) (y_assign (c := .bool _) (by rfl)) ?_
      refine WS_nil ?_
      refine Then_normal ?_
      refine W_ret ?_
      refine Fin_ret [.int .i64 _, .bool _] [] Try.results71 ⟨by rfl, by rfl, trivial⟩ HSub.nil ?_
      show Value.tuple _ = _
      rw [decide_eq_false (p := x < n ∧ xs.getD x 0 = v) (fun h => by omega)]
end Go.Proofs.Ythkimgfgpphgnaa.T

/- Walks of tank: gauged, Check, Volume, Eighth, Range. -/
namespace Go.Proofs.Ythkimgfgpphgnaa.T
open Go.RowKit Go.Proofs Go.Eng
set_option maxRecDepth 100000
set_option linter.unusedVariables false
set_option linter.unusedSimpArgs false

theorem bd26  : ∀ w, (Instr.build 26 #[]).run Try.prog w = .ok (.agg #[.int .i64 0, .int .i64 0]) w := fun w => by kernel_rfl
theorem bd30  : ∀ w, (Instr.build 30 #[]).run Try.prog w = .ok (.agg #[.int .i64 0, .int .i64 0]) w := fun w => by kernel_rfl
theorem bd98_0_1_2 {x0_0a : Option Addr} {x0_0l x0_0c : Nat} {x0_1 : Int} {x0_2 : Int} {x1 : Int} {x2 : Int} : ∀ w, (Instr.build 98 #[(0, .agg #[.slice x0_0a x0_0l x0_0c, .int .i64 x0_1, .int .i64 x0_2]), (1, .int .i64 x1), (2, .int .i64 x2)]).run Try.prog w = .ok (.agg #[.slice x0_0a x0_0l x0_0c, .int .i64 x0_1, .int .i64 x0_2, .int .i64 x1, .int .i64 x2]) w := fun w => by kernel_rfl
theorem bs22_1_0 {x0 : Int} : ∀ w, (Instr.buildSlice 22 1 #[(0, .int .i64 x0)]).run Try.prog w = .ok (.slice (some ⟨w.heap.size, 0, none⟩) 1 1) (w.alloc (CB [.int .i64 x0] 3)) := fun w => by kernel_rfl
theorem fa24_1 : ∀ b o w, (Instr.fieldAt 24 (.pointer (some ⟨b, o, none⟩)) 1).run Try.prog w = .ok (.pointer (some ⟨b, o + 1, none⟩)) w := fun b o w => by kernel_rfl
theorem fa24_2 : ∀ b o w, (Instr.fieldAt 24 (.pointer (some ⟨b, o, none⟩)) 2).run Try.prog w = .ok (.pointer (some ⟨b, o + 2, none⟩)) w := fun b o w => by kernel_rfl
theorem fa98_1 : ∀ b o w, (Instr.fieldAt 98 (.pointer (some ⟨b, o, none⟩)) 1).run Try.prog w = .ok (.pointer (some ⟨b, o + 3, none⟩)) w := fun b o w => by kernel_rfl
theorem fa98_2 : ∀ b o w, (Instr.fieldAt 98 (.pointer (some ⟨b, o, none⟩)) 2).run Try.prog w = .ok (.pointer (some ⟨b, o + 4, none⟩)) w := fun b o w => by kernel_rfl

theorem Tk.incB_bd {t : Tk} (h0 : t.p 0 = 0) : ∀ {k : Nat}, t.incB k = true → 0 ≤ t.p k ∧ t.p k ≤ 600
  | 0, _ => by omega
  | k + 1, h => by
    rw [t.incB_succ k, Bool.and_eq_true, inB1] at h
    have := Tk.incB_bd h0 h.1
    omega
/-- What comes of a tank: a gauge in a new block, or none. -/
def GaugeV (t : Tk) (a : Option Addr) (cap : Nat) (v : Value) (Hn : List Blk) : Prop :=
  ∃ p, v = .tuple #[.pointer p, .bool t.okB] ∧ (t.okB = true → ∃ b, p = some ⟨b, 0, none⟩ ∧ Hn = [(b, CB [.slice a t.n cap, .int .i64 t.leak, .int .i64 t.foot, .int .i64 t.full, .int .i64 t.height] 98)]) ∧ (t.okB = false → Hn = [])
theorem GaugeV.bad {t : Tk} {a : Option Addr} {cap : Nat} {p : Option Addr} (h : t.okB = false) : GaugeV t a cap (.tuple #[.pointer p, .bool false]) [] :=
  ⟨p, by rw [h], fun h' => (by rw [h] at h'; cases h'), fun _ => rfl⟩


theorem gauged_any (t : Tk) (a : Option Addr) (cap : Nat) (w : World) (hn : t.n ≤ 1000000) (hx : Ints w a t.n cap t.pints) :
    Ct Try.prog 64 #[.agg #[.slice a t.n cap, .int .i64 t.leak, .int .i64 t.foot]] w (GaugeV t a cap) := by
  have hcap := hx.le
  have hF := wide_wide
  refine Ct_start (args := [_]) Try.func64 (by rfl) Try.ntmps64 (by rfl) ?_
  refine W_seq ?_
  refine W_region_lit (fun ds => ?_)
  refine WS_new hF (by rfl) (y_box (by rfl)) (fun b1 => ?_)
  refine WS_det hF (by rfl) (y_assign (c := .pointer _) (by rfl)) ?_
  refine WS_det hF (by rfl) (y_assign (c := .bool _) (by rfl)) ?_
  refine WS_nil ?_
  refine Then_normal ?_
  refine W_seq ?_
  refine W_region_lit (fun ds => ?_)
  refine WS_det hF (by rfl) (y_fieldAddr (by rfl) fa24_0) ?_
  refine WS_det hF (by rfl) (y_load1 (by rfl) Try.isAgg22 (Mem.own1 0 (by rfl) (by rfl))) ?_
  refine WS_det hF (by rfl) (y_len (by rfl) Try.runUnderlying22) ?_
  refine WS_det hF (by rfl) (y_assign (c := .int .i64 _) (by rfl)) ?_
  refine WS_nil ?_
  refine Then_normal ?_
  refine W_seq ?_
  refine W_seq ?_
  refine W_region_lit (fun ds => ?_)
  refine WS_det hF (by rfl) (y_move (c := .int .i64 _) (by rfl)) ?_
  refine WS_newS hF (by rfl) (y_buildSliceL bs22_1_0 (by rfl)) (fun b2 => ?_)
  refine WS_det hF (by rfl) (y_callL (by rfl) (by rfl) Try.call65 (fun w hw => in_any _ _ _ _ _ _ w (by decide) (by first | exact Ints.one 0 rfl w hw | exact Ints.two 0 rfl w hw))) ?_
  refine WS_det hF (by rfl) (y_not (by rfl)) ?_
  refine WS_det hF (by rfl) (y_move (c := .bool _) (by rfl)) ?_
  refine WS_split 15 (by rfl) (fun g2_4 => ?_) (fun g2_4 => ?_)
  ·
    try simp only [Bool.not_eq_true', Bool.not_eq_false', decide_eq_true_eq, decide_eq_false_iff_not, ne_eq, Classical.not_not, Int.not_lt, Int.not_le] at g2_4
    refine WS_no hF (by rfl) ?_
    refine WS_no hF (by rfl) ?_
    refine WS_no hF (by rfl) ?_
    refine WS_no hF (by rfl) ?_
    refine WS_no hF (by rfl) ?_
    refine WS_det hF (by rfl) (by first | exact y_pick_t (c := .bool _) (by rfl) (by rfl) | exact y_pick_f (c := .bool _) (by rfl) (by rfl)) ?_
    refine WS_det hF (by rfl) (y_move (c := .bool _) (by rfl)) ?_
    refine WS_no hF (by rfl) ?_
    refine WS_no hF (by rfl) ?_
    refine WS_no hF (by rfl) ?_
    refine WS_no hF (by rfl) ?_
    refine WS_no hF (by rfl) ?_
    refine WS_det hF (by rfl) (by first | exact y_pick_t (c := .bool _) (by rfl) (by rfl) | exact y_pick_f (c := .bool _) (by rfl) (by rfl)) ?_
    refine WS_nil ?_
    refine Then_normal ?_
    refine W_cond (by rfl) (fun c2 => ?_) (fun c2 => ?_)
    ·
      try simp only [Bool.not_eq_true', Bool.not_eq_false', decide_eq_true_eq, decide_eq_false_iff_not, ne_eq, Classical.not_not, Int.not_lt, Int.not_le] at c2
      refine W_seq ?_
      refine W_region_lit (fun ds => ?_)
      refine WS_det hF (by rfl) (y_assign (c := .pointer _) (by rfl)) ?_
      refine WS_det hF (by rfl) (y_assign (c := .bool _) (by rfl)) ?_
      refine WS_nil ?_
      refine Then_normal ?_
      refine W_ret ?_
      refine Then_ret ?_
      refine Fin_ret [.pointer _, .bool _] [] Try.results64 ⟨by rfl, by rfl, trivial⟩ HSub.nil ?_
      exact GaugeV.bad (by simp [Tk.okB, *])
    · cases c2
  ·
    try simp only [Bool.not_eq_true', Bool.not_eq_false', decide_eq_true_eq, decide_eq_false_iff_not, ne_eq, Classical.not_not, Int.not_lt, Int.not_le] at g2_4
    have hr := inB1.1 g2_4
    obtain ⟨b, o, rfl, hc⟩ := hx.cell 0 (by omega)
    change At w b _ [.int .i64 (t.p 0)] at hc
    refine WS_det hF (by rfl) (y_fieldAddr (by rfl) fa24_0) ?_
    refine WS_det hF (by rfl) (y_load1 (by rfl) Try.isAgg22 (Mem.own1 1 (by rfl) (by rfl))) ?_
    refine WS_det hF (by rfl) (y_index (k := 0) (by rfl) (by rfl) (by first | rfl | omega) (by first | decide | omega) Try.runUnderlying22 Try.sizeOf3) ?_
    refine WS_det hF (by rfl) (y_load1 (by rfl) Try.isAgg3 (by first | exact Mem.old1 (by assumption) | exact Mem.oldAt1 (by assumption) (by rfl) | exact Mem.old (by assumption) | exact Mem.oldAtL1 (by assumption) (by rfl) (by rfl))) ?_
    refine WS_det hF (by rfl) (y_neq (by rfl) (by rfl)) ?_
    refine WS_det hF (by rfl) (by first | exact y_pick_t (c := .bool _) (by rfl) (by rfl) | exact y_pick_f (c := .bool _) (by rfl) (by rfl)) ?_
    refine WS_det hF (by rfl) (y_move (c := .bool _) (by rfl)) ?_
    refine WS_split 22 (by rfl) (fun g2_11 => ?_) (fun g2_11 => ?_)
    ·
      try simp only [Bool.not_eq_true', Bool.not_eq_false', decide_eq_true_eq, decide_eq_false_iff_not, ne_eq, Classical.not_not, Int.not_lt, Int.not_le] at g2_11
      refine WS_no hF (by rfl) ?_
      refine WS_no hF (by rfl) ?_
      refine WS_no hF (by rfl) ?_
      refine WS_no hF (by rfl) ?_
      refine WS_no hF (by rfl) ?_
      refine WS_det hF (by rfl) (by first | exact y_pick_t (c := .bool _) (by rfl) (by rfl) | exact y_pick_f (c := .bool _) (by rfl) (by rfl)) ?_
      refine WS_nil ?_
      refine Then_normal ?_
      refine W_cond (by rfl) (fun c2 => ?_) (fun c2 => ?_)
      ·
        try simp only [Bool.not_eq_true', Bool.not_eq_false', decide_eq_true_eq, decide_eq_false_iff_not, ne_eq, Classical.not_not, Int.not_lt, Int.not_le] at c2
        refine W_seq ?_
        refine W_region_lit (fun ds => ?_)
        refine WS_det hF (by rfl) (y_assign (c := .pointer _) (by rfl)) ?_
        refine WS_det hF (by rfl) (y_assign (c := .bool _) (by rfl)) ?_
        refine WS_nil ?_
        refine Then_normal ?_
        refine W_ret ?_
        refine Then_ret ?_
        refine Fin_ret [.pointer _, .bool _] [] Try.results64 ⟨by rfl, by rfl, trivial⟩ HSub.nil ?_
        exact GaugeV.bad (by simp [Tk.okB, *])
      · cases c2
    ·
      try simp only [Bool.not_eq_true', Bool.not_eq_false', decide_eq_true_eq, decide_eq_false_iff_not, ne_eq, Classical.not_not, Int.not_lt, Int.not_le] at g2_11
      refine WS_det hF (by rfl) (y_fieldAddr (by rfl) fa24_1) ?_
      refine WS_det hF (by rfl) (y_load1 (by rfl) Try.isAgg3 (Mem.own1 1 (by rfl) (by rfl))) ?_
      refine WS_newS hF (by rfl) (y_buildSliceL bs22_1_0 (by rfl)) (fun b3 => ?_)
      refine WS_det hF (by rfl) (y_callL (by rfl) (by rfl) Try.call65 (fun w hw => in_any _ _ _ _ _ _ w (by decide) (by first | exact Ints.one 0 rfl w hw | exact Ints.two 0 rfl w hw))) ?_
      refine WS_det hF (by rfl) (y_not (by rfl)) ?_
      refine WS_det hF (by rfl) (by first | exact y_pick_t (c := .bool _) (by rfl) (by rfl) | exact y_pick_f (c := .bool _) (by rfl) (by rfl)) ?_
      refine WS_nil ?_
      refine Then_normal ?_
      refine W_cond (by rfl) (fun c2 => ?_) (fun c2 => ?_)
      ·
        try simp only [Bool.not_eq_true', Bool.not_eq_false', decide_eq_true_eq, decide_eq_false_iff_not, ne_eq, Classical.not_not, Int.not_lt, Int.not_le] at c2
        refine W_seq ?_
        refine W_region_lit (fun ds => ?_)
        refine WS_det hF (by rfl) (y_assign (c := .pointer _) (by rfl)) ?_
        refine WS_det hF (by rfl) (y_assign (c := .bool _) (by rfl)) ?_
        refine WS_nil ?_
        refine Then_normal ?_
        refine W_ret ?_
        refine Then_ret ?_
        refine Fin_ret [.pointer _, .bool _] [] Try.results64 ⟨by rfl, by rfl, trivial⟩ HSub.nil ?_
        exact GaugeV.bad (by simp [Tk.okB, *])
      ·
        try simp only [Bool.not_eq_true', Bool.not_eq_false', decide_eq_true_eq, decide_eq_false_iff_not, ne_eq, Classical.not_not, Int.not_lt, Int.not_le] at c2
        have hinc0 : t.incB 0 = true := rfl
        have hh : t.height = 8 * ((t.n : Int) - 1) := rfl
        have hbd := fun k => t.incB_bd (k := k) g2_11
        refine W_skip ?_
        refine Then_normal ?_
        refine W_seq ?_
        refine W_seq ?_
        refine W_region_lit (fun ds => ?_)
        refine WS_det hF (by rfl) (y_fieldAddr (by rfl) fa24_0) ?_
        refine WS_det hF (by rfl) (y_load1 (by rfl) Try.isAgg22 (Mem.own1 2 (by rfl) (by rfl))) ?_
        refine WS_det hF (by rfl) (y_slice_loE (l := 1) (by rfl) (by rfl) (by rfl) (by omega) Try.runUnderlying22 Try.sizeOf3 (shift_some (by omega))) ?_
        refine WS_det hF (by rfl) (y_len (by rfl) Try.runUnderlying22) ?_
        refine WS_det hF (by rfl) (y_move (c := .int .i64 _) (by rfl)) ?_
        refine WS_nil ?_
        refine Then_normal ?_
        refine W_block ?_
        refine W_loop (γ := Nat) (fun k => k ≤ t.n - 1 ∧ t.incB k = true) (fun k => [(33, .int .i64 (k : Int)), (32, .int .i64 ((t.n - 1 : Nat) : Int)), (31, .slice (some ⟨b, o + 1 * 1, none⟩) (t.n - 1) (cap - 1)), (1, .pointer (some ⟨b1, 0, none⟩)), (4, .int .i64 (t.n : Int))]) (fun _ => _) (fun k => t.n - 1 - k) (0) ⟨Nat.zero_le _, hinc0⟩ (by repeat (first | exact trivial | refine ⟨by rfl, ?_⟩)) (List.Sublist.refl _) ?_
        rintro k e ⟨hk, hinc⟩
        refine W_seq ?_
        refine W_region_lit (fun ds => ?_)
        refine WS_det hF (by rfl) (y_lss (by rfl) (by rfl)) ?_
        refine WS_nil ?_
        refine Then_normal ?_
        refine W_seq ?_
        refine W_cond (by rfl) (fun c5 => ?_) (fun c5 => ?_)
        ·
          try simp only [Bool.not_eq_true', Bool.not_eq_false', decide_eq_true_eq, decide_eq_false_iff_not, ne_eq, Classical.not_not, Int.not_lt, Int.not_le] at c5
          have hb := hbd k hinc
          have hk0 : At w b (o + k * 1) [.int .i64 (t.p k)] := hx.at (k := k) (by omega)
          have hk1 : At w b (o + 1 * 1 + k * 1) [.int .i64 (t.p (k + 1))] := by
            have := hx.at (k := k + 1) (by omega)
            rwa [show o + (k + 1) * 1 = o + 1 * 1 + k * 1 by omega] at this
          refine W_skip ?_
          refine Then_normal ?_
          refine W_seq ?_
          refine W_block ?_
          refine W_seq ?_
          refine W_region_lit (fun ds => ?_)
          refine WS_det hF (by rfl) (y_move (c := .int .i64 _) (by rfl)) ?_
          refine WS_det hF (by rfl) (y_index (k := k) (by rfl) (by rfl) (by first | rfl | omega) (by first | decide | omega) Try.runUnderlying22 Try.sizeOf3) ?_
          refine WS_det hF (by rfl) (y_load1 (by rfl) Try.isAgg3 (by first | exact Mem.old1 (by assumption) | exact Mem.oldAt1 (by assumption) (by rfl) | exact Mem.old (by assumption) | exact Mem.oldAtL1 (by assumption) (by rfl) (by rfl))) ?_
          refine WS_det hF (by rfl) (y_assign (c := .int .i64 _) (by rfl)) ?_
          refine WS_det hF (by rfl) (y_assign (c := .int .i64 _) (by rfl)) ?_
          refine WS_nil ?_
          refine Then_normal ?_
          refine W_seq ?_
          refine W_region_lit (fun ds => ?_)
          refine WS_det hF (by rfl) (y_fieldAddr (by rfl) fa24_0) ?_
          refine WS_det hF (by rfl) (y_load1 (by rfl) Try.isAgg22 (Mem.own1 2 (by rfl) (by rfl))) ?_
          refine WS_det hF (by rfl) (y_move (c := .int .i64 _) (by rfl)) ?_
          refine WS_det hF (by rfl) (y_index (k := k) (by rfl) (by rfl) (by first | rfl | omega) (by first | decide | omega) Try.runUnderlying22 Try.sizeOf3) ?_
          refine WS_det hF (by rfl) (y_load1 (by rfl) Try.isAgg3 (by first | exact Mem.old1 (by assumption) | exact Mem.oldAt1 (by assumption) (by rfl) | exact Mem.old (by assumption) | exact Mem.oldAtL1 (by assumption) (by rfl) (by rfl))) ?_
          refine WS_det hF (by rfl) (y_add (by rfl) (by rfl) (by unfold I64; omega)) ?_
          refine WS_det hF (by rfl) (y_move (c := .int .i64 _) (by rfl)) ?_
          refine WS_newS hF (by rfl) (y_buildSliceL bs22_1_0 (by rfl)) (fun b4 => ?_)
          refine WS_det hF (by rfl) (y_callL (by rfl) (by rfl) Try.call65 (fun w hw => in_any _ _ _ _ _ _ w (by decide) (by first | exact Ints.one 0 rfl w hw | exact Ints.two 0 rfl w hw))) ?_
          refine WS_det hF (by rfl) (y_not (by rfl)) ?_
          refine WS_nil ?_
          refine Then_normal ?_
          refine W_cond (by rfl) (fun c7 => ?_) (fun c7 => ?_)
          ·
            try simp only [Bool.not_eq_true', Bool.not_eq_false', decide_eq_true_eq, decide_eq_false_iff_not, ne_eq, Classical.not_not, Int.not_lt, Int.not_le] at c7
            refine W_seq ?_
            refine W_region_lit (fun ds => ?_)
            refine WS_det hF (by rfl) (y_assign (c := .pointer _) (by rfl)) ?_
            refine WS_det hF (by rfl) (y_assign (c := .bool _) (by rfl)) ?_
            refine WS_nil ?_
            refine Then_normal ?_
            refine W_ret ?_
            refine InB_ret ?_
            refine Then_ret ?_
            refine Loop_ret ?_
            refine InB_ret ?_
            refine Then_ret ?_
            refine Fin_ret [.pointer _, .bool _] [] Try.results64 ⟨by rfl, by rfl, trivial⟩ HSub.nil ?_
            exact GaugeV.bad (by simp [Tk.okB, t.incB_false (m := t.n - 1) (by omega) c7])
          ·
            try simp only [Bool.not_eq_true', Bool.not_eq_false', decide_eq_true_eq, decide_eq_false_iff_not, ne_eq, Classical.not_not, Int.not_lt, Int.not_le] at c7
            refine W_skip ?_
            refine InB_normal ?_
            refine Then_normal ?_
            refine W_region_lit (fun ds => ?_)
            refine WS_det hF (by rfl) (y_add (by rfl) (by rfl) (by unfold I64; omega)) ?_
            refine WS_det hF (by rfl) (y_move (c := .int .i64 _) (by rfl)) ?_
            refine WS_nil ?_
            exact Loop_next (k + 1) ⟨by omega, by rw [t.incB_succ k, hinc, c7]; rfl⟩ (by repeat (first | exact trivial | refine ⟨by rfl, ?_⟩)) (by repeat (first | exact List.Sublist.refl _ | exact List.nil_sublist _ | apply List.Sublist.cons_cons | apply List.Sublist.cons)) (by omega)
        ·
          try simp only [Bool.not_eq_true', Bool.not_eq_false', decide_eq_true_eq, decide_eq_false_iff_not, ne_eq, Classical.not_not, Int.not_lt, Int.not_le] at c5
          have hkn : k = t.n - 1 := by omega
          subst hkn
          have hf : At w b (o + (t.n - 1) * 1) [.int .i64 t.full] := hx.at (k := t.n - 1) (by omega)
          refine W_exit ?_
          refine Then_exit ?_
          refine Loop_exit ?_
          refine InB_same ?_
          refine Then_normal ?_
          refine W_seq ?_
          refine W_draw0 hF Trymixed [] (by decide +kernel) (fun ds => ?_)
          refine P_det (by rfl) (Over_nil (y_loadN (by rfl) Try.isAgg24 Try.sizeOf24 (Mem.own (us := [.slice _ _ _, .int .i64 _, .int .i64 _]) 2 (by rfl) (by rfl)) (by rfl))) ?_
          refine P_det (by rfl) (Over_nil (y_fieldAddr (by rfl) fa24_0)) ?_
          refine P_det (by rfl) (Over_nil (y_load1 (by rfl) Try.isAgg22 (Mem.own1 2 (by rfl) (by rfl)))) ?_
          refine P_det (by rfl) (Over_nil (y_move (c := .int .i64 _) (by rfl))) ?_
          refine P_det (by rfl) (Over_nil (y_sub (by rfl) (by rfl) (by unfold I64; omega))) ?_
          refine P_det (by rfl) (Over_nil (y_index (k := t.n - 1) (by rfl) (by rfl) (by first | rfl | omega) (by first | decide | omega) Try.runUnderlying22 Try.sizeOf3)) ?_
          refine P_det (by rfl) (Over_nil (y_load1 (by rfl) Try.isAgg3 (by first | exact Mem.old1 (by assumption) | exact Mem.oldAt1 (by assumption) (by rfl) | exact Mem.old (by assumption) | exact Mem.oldAtL1 (by assumption) (by rfl) (by rfl)))) ?_
          refine P_det (by rfl) (Over_nil (y_move (c := .int .i64 _) (by rfl))) ?_
          refine P_det (by rfl) (Over_nil (y_sub (by rfl) (by rfl) (by unfold I64; omega))) ?_
          refine P_det (by rfl) (Over_nil (y_mul (by rfl) (by rfl) (by unfold I64; omega))) ?_
          refine P_det (by rfl) (Over_nil (y_buildL bd98_0_1_2 (by rfl))) ?_
          refine P_new (by rfl) (by rfl) (Over_nil (y_box (by rfl))) ?_
          refine P_ali [60] (fun e => e 60) (by rfl) (by rfl) (by rfl) (fun _ _ h => h 60 (List.mem_singleton.2 rfl)) (Over_in (by rfl) (Over_nil (by rintro _ _ ⟨b6, rfl, rfl⟩; exact (YD0_of (y_assign (c := .pointer _) (by rfl)))))) ?_
          refine PW_end (by rfl) ?_
          refine OverAll_cons (fun w7 l7 => ?_)
          refine OverAll_cons (fun w60 l60 => ?_)
          refine OverAll_nil ?_
          rintro ⟨⟨-, h7⟩, h60⟩
          obtain ⟨b5, rfl, rfl⟩ := h60
          obtain ⟨h7, rfl⟩ := h7
          replace h7 : w7 = .pointer _ := h7
          subst h7
          refine Then_normal ?_
          refine W_seq ?_
          refine W_draw0 hF Trymixed [] (by decide +kernel) (fun ds => ?_)
          refine P_det (by rfl) (Over_nil (y_move (c := .pointer _) (by rfl))) ?_
          refine P_det (by rfl) (Over_nil (y_move (c := .pointer _) (by rfl))) ?_
          refine P_det (by rfl) (Over_nil (by first | exact y_nilCheck (by rfl) | exact y_nilCheckF (by rfl))) ?_
          refine P_det (by rfl) (Over_nil (y_fieldAddr (by rfl) fa98_2)) ?_
          refine P_det (by rfl) (Over_nil (y_load1 (by rfl) Try.isAgg3 (Mem.own1 0 (by rfl) (by rfl)))) ?_
          refine P_det (by rfl) (Over_nil (y_fieldAddr (by rfl) fa24_2)) ?_
          refine P_det (by rfl) (Over_nil (y_load1 (by rfl) Try.isAgg3 (Mem.own1 3 (by rfl) (by rfl)))) ?_
          refine P_new (by rfl) (by rfl) (Over_nil (y_buildSliceL bs22_1_0 (by rfl))) ?_
          refine P_det (by rfl) (Over_in (by rfl) (Over_nil (by rintro _ _ ⟨b9, rfl, rfl⟩; exact (y_callL (by rfl) (by rfl) Try.call65 (fun w hw => in_any _ _ _ _ _ _ w (by decide) (by first | exact Ints.one 0 rfl w hw | exact Ints.two 0 rfl w hw)))))) ?_
          refine P_det (by rfl) (Over_out (by rfl) (Over_nil (y_assign (c := .pointer _) (by rfl)))) ?_
          refine P_det (by rfl) (Over_out (by rfl) (Over_nil (y_assign (c := .bool _) (by rfl)))) ?_
          refine PW_end (by rfl) ?_
          refine OverAll_cons (fun w68 l68 => ?_)
          refine OverAll_nil ?_
          rintro ⟨-, h68⟩
          obtain ⟨b8, rfl, rfl⟩ := h68
          refine Then_normal ?_
          refine W_ret ?_
          have hok : inB 0 (8 * ((t.n : Int) - 1)) [t.foot] = t.okB := by simp [Tk.okB, *]
          refine Fin_ret [.pointer _, .bool _] (cond t.okB [(b5, _)] []) Try.results64 ⟨by rfl, by rfl, trivial⟩ (by cases t.okB; exact HSub.nil; exact (HSub.sub (by repeat (first | exact List.nil_sublist _ | apply List.Sublist.cons_cons | apply List.Sublist.cons)))) ?_
          show GaugeV _ _ _ (Value.tuple #[Value.pointer _, Value.bool (inB 0 (8 * ((t.n : Int) - 1)) [t.foot])]) _
          rw [hok]
          refine ⟨_, rfl, fun h => ?_, fun h => by rw [h]; rfl⟩
          rw [h]
          exact ⟨_, rfl, rfl⟩
theorem check_any (t : Tk) (a : Option Addr) (cap : Nat) (w : World) (hn : t.n ≤ 1000000) (hx : Ints w a t.n cap t.pints) :
    Ct Try.prog 19 #[.agg #[.slice a t.n cap, .int .i64 t.leak, .int .i64 t.foot]] w fun v _ => v = .int .i64 (if t.okB then 0 else 30) := by
  have hF := wide_wide
  refine Ct_start (args := [_]) Try.func19 (by rfl) Try.ntmps19 (by rfl) ?_
  refine W_seq ?_
  refine W_region_lit (fun ds => ?_)
  refine WS_new hF (by rfl) (y_box (by rfl)) (fun b1 => ?_)
  refine WS_det hF (by rfl) (y_assign (c := .int .i64 _) (by rfl)) ?_
  refine WS_nil ?_
  refine Then_normal ?_
  refine W_seq ?_
  refine W_seq ?_
  refine W_region_lit (fun ds => ?_)
  refine WS_det hF (by rfl) (y_loadN (by rfl) Try.isAgg24 Try.sizeOf24 (Mem.own (us := [.slice _ _ _, .int .i64 _, .int .i64 _]) 0 (by rfl) (by rfl)) (by rfl)) ?_
  refine WS_gen hF (by rfl) (y_callL (by rfl) (by rfl) Try.call64 (fun w hw => gauged_any t a cap w hn (hx.st w hw))) ?_
  rintro _ Hg ⟨p, rfl, hg1, hg2⟩
  refine WS_det hF (by rfl) (y_move (c := .tuple _) (by rfl)) ?_
  refine WS_det hF (by rfl) (y_extract (c := .pointer _) (by rfl) (by rfl)) ?_
  refine WS_det hF (by rfl) (y_extract (c := .bool _) (by rfl) (by rfl)) ?_
  refine WS_det hF (by rfl) (y_assign (c := .pointer _) (by rfl)) ?_
  refine WS_det hF (by rfl) (y_assign (c := .bool _) (by rfl)) ?_
  refine WS_nil ?_
  refine Then_normal ?_
  refine W_seq ?_
  refine W_region_lit (fun ds => ?_)
  refine WS_det hF (by rfl) (y_move (c := .bool _) (by rfl)) ?_
  refine WS_det hF (by rfl) (y_not (by rfl)) ?_
  refine WS_nil ?_
  refine Then_normal ?_
  refine W_cond (by rfl) (fun c2 => ?_) (fun c2 => ?_)
  ·
    try simp only [Bool.not_eq_true', Bool.not_eq_false', decide_eq_true_eq, decide_eq_false_iff_not, ne_eq, Classical.not_not, Int.not_lt, Int.not_le] at c2
    refine W_seq ?_
    refine W_region_lit (fun ds => ?_)
    refine WS_det hF (by rfl) (y_assign (c := .int .i64 _) (by rfl)) ?_
    refine WS_nil ?_
    refine Then_normal ?_
    refine W_ret ?_
    refine Then_ret ?_
    refine Fin_ret [.int .i64 _] [] Try.results19 ⟨by rfl, trivial⟩ HSub.nil ?_
    show Value.int _ _ = _
    simp [*]
  ·
    try simp only [Bool.not_eq_true', Bool.not_eq_false', decide_eq_true_eq, decide_eq_false_iff_not, ne_eq, Classical.not_not, Int.not_lt, Int.not_le] at c2
    refine W_skip ?_
    refine Then_normal ?_
    refine W_seq ?_
    refine W_region_lit (fun ds => ?_)
    refine WS_det hF (by rfl) (y_assign (c := .int .i64 _) (by rfl)) ?_
    refine WS_nil ?_
    refine Then_normal ?_
    refine W_ret ?_
    refine Fin_ret [.int .i64 _] [] Try.results19 ⟨by rfl, trivial⟩ HSub.nil ?_
    show Value.int _ _ = _
    simp [*]
theorem Gg.own {C : Ctx} {H : List Blk} {g : Nat} {t : Tk} {a : Option Addr} {cap : Nat} (hm : (g, CB [.slice a t.n cap, .int .i64 t.leak, .int .i64 t.foot, .int .i64 t.full, .int .i64 t.height] 98) ∈ H) (hok : t.okB = true) (hx : Ints C.w0 a t.n cap t.pints) (w : World) (hw : St C H w) : Gg w g 0 t := by
  obtain ⟨i, hi, he⟩ := List.mem_iff_getElem.1 hm
  exact ⟨Tk.ok_iff.1 hok, a, cap, Mem.own (rest := []) i ((List.getElem?_eq_getElem hi).trans (congrArg some he)) rfl w hw, hx.st w hw⟩
def partV0 : Value := .agg #[.int .i64 0, .int .i64 0]
/-- What a tank holds at an eighth. -/
def Tk.volume (t : Tk) (x : Int) : Value :=
  if t.okB then if inB 0 t.height [x] then .tuple #[lowI (t.eight x) 8, .int .i64 0] else .tuple #[partV0, .int .i64 2] else .tuple #[partV0, .int .i64 30]

theorem volume_any (t : Tk) (a : Option Addr) (cap : Nat) (x : Int) (w : World) (hn : t.n ≤ 1000000) (hx : Ints w a t.n cap t.pints) :
    Ct Try.prog 13 #[.agg #[.slice a t.n cap, .int .i64 t.leak, .int .i64 t.foot], .int .i64 x] w fun v _ => v = t.volume x := by
  have hF := wide_wide
  refine Ct_start (args := [_, _]) Try.func13 (by rfl) Try.ntmps13 (by rfl) ?_
  refine W_seq ?_
  refine W_region_lit (fun ds => ?_)
  refine WS_new hF (by rfl) (y_box (by rfl)) (fun b1 => ?_)
  refine WS_new hF (by rfl) (y_alloc Try.zeroValue30 (by rfl)) (fun b2 => ?_)
  refine WS_det hF (by rfl) (y_assign (c := .int .i64 _) (by rfl)) ?_
  refine WS_nil ?_
  refine Then_normal ?_
  refine W_seq ?_
  refine W_region_lit (fun ds => ?_)
  refine WS_det hF (by rfl) (y_loadN (by rfl) Try.isAgg24 Try.sizeOf24 (Mem.own (us := [.slice _ _ _, .int .i64 _, .int .i64 _]) 1 (by rfl) (by rfl)) (by rfl)) ?_
  refine WS_gen hF (by rfl) (y_callL (by rfl) (by rfl) Try.call64 (fun w hw => gauged_any t a cap w hn (hx.st w hw))) ?_
  rintro _ Hg ⟨p, rfl, hg1, hg2⟩
  refine WS_det hF (by rfl) (y_move (c := .tuple _) (by rfl)) ?_
  refine WS_det hF (by rfl) (y_extract (c := .pointer _) (by rfl) (by rfl)) ?_
  refine WS_det hF (by rfl) (y_extract (c := .bool _) (by rfl) (by rfl)) ?_
  refine WS_det hF (by rfl) (y_assign (c := .pointer _) (by rfl)) ?_
  refine WS_det hF (by rfl) (y_assign (c := .bool _) (by rfl)) ?_
  refine WS_nil ?_
  refine Then_normal ?_
  refine W_seq ?_
  refine W_block ?_
  refine W_seq ?_
  refine W_region_lit (fun ds => ?_)
  refine WS_det hF (by rfl) (y_move (c := .bool _) (by rfl)) ?_
  refine WS_det hF (by rfl) (y_not (by rfl)) ?_
  refine WS_det hF (by rfl) (y_assign (c := .bool _) (by rfl)) ?_
  refine WS_nil ?_
  refine Then_normal ?_
  refine W_cond (by rfl) (fun c2 => ?_) (fun c2 => ?_)
  ·
    try simp only [Bool.not_eq_true', Bool.not_eq_false', decide_eq_true_eq, decide_eq_false_iff_not, ne_eq, Classical.not_not, Int.not_lt, Int.not_le] at c2
    obtain rfl := hg2 c2
    refine W_seq ?_
    refine W_region_lit (fun ds => ?_)
    refine WS_det hF (by rfl) (y_buildL bd30 (by rfl)) ?_
    refine WS_store hF (i := 0) (by rfl) (by rfl) Try.sizeOf30 (by rfl) (by rfl) (by rfl) (by first | decide | exact Nat.le_of_ble_eq_true rfl | simp) ?_
    refine WS_det hF (by rfl) (y_assign (c := .int .i64 _) (by rfl)) ?_
    refine WS_nil ?_
    refine Then_normal ?_
    refine W_ret ?_
    refine InB_ret ?_
    refine Then_ret ?_
    refine Fin_ret [_, .int .i64 _] [] Try.results13 ⟨lvN (by rfl) Try.isAgg30 Try.sizeOf30 (Mem.own (us := [.int .i64 _, .int .i64 _]) 0 (by rfl) (by rfl)) (by rfl), by rfl, trivial⟩ HSub.nil ?_
    show Value.tuple _ = _
    simp only [Tk.volume, c2, if_true, Bool.false_eq_true, if_false]; rfl
  ·
    try simp only [Bool.not_eq_true', Bool.not_eq_false', decide_eq_true_eq, decide_eq_false_iff_not, ne_eq, Classical.not_not, Int.not_lt, Int.not_le] at c2
    obtain ⟨g, rfl, rfl⟩ := hg1 c2
    refine W_seq ?_
    refine W_region_lit (fun ds => ?_)
    refine WS_det hF (by rfl) (y_move (c := .pointer _) (by rfl)) ?_
    refine WS_det hF (by rfl) (by first | exact y_nilCheck (by rfl) | exact y_nilCheckF (by rfl)) ?_
    refine WS_det hF (by rfl) (y_fieldAddr (by rfl) fa98_2) ?_
    refine WS_det hF (by rfl) (y_load1 (by rfl) Try.isAgg3 (Mem.own1 0 (by rfl) (by rfl))) ?_
    refine WS_det hF (by rfl) (y_move (c := .int .i64 _) (by rfl)) ?_
    refine WS_newS hF (by rfl) (y_buildSliceL bs22_1_0 (by rfl)) (fun b3 => ?_)
    refine WS_det hF (by rfl) (y_callL (by rfl) (by rfl) Try.call65 (fun w hw => in_any _ _ _ _ _ _ w (by decide) (by first | exact Ints.one 0 rfl w hw | exact Ints.two 0 rfl w hw))) ?_
    refine WS_det hF (by rfl) (y_not (by rfl)) ?_
    refine WS_det hF (by rfl) (y_assign (c := .bool _) (by rfl)) ?_
    refine WS_nil ?_
    refine Then_normal ?_
    refine W_cond (by rfl) (fun c4 => ?_) (fun c4 => ?_)
    ·
      try simp only [Bool.not_eq_true', Bool.not_eq_false', decide_eq_true_eq, decide_eq_false_iff_not, ne_eq, Classical.not_not, Int.not_lt, Int.not_le] at c4
      refine W_seq ?_
      refine W_region_lit (fun ds => ?_)
      refine WS_det hF (by rfl) (y_buildL bd30 (by rfl)) ?_
      refine WS_store hF (i := 2) (by rfl) (by rfl) Try.sizeOf30 (by rfl) (by rfl) (by rfl) (by first | decide | exact Nat.le_of_ble_eq_true rfl | simp) ?_
      refine WS_det hF (by rfl) (y_assign (c := .int .i64 _) (by rfl)) ?_
      refine WS_nil ?_
      refine Then_normal ?_
      refine W_ret ?_
      refine InB_ret ?_
      refine Then_ret ?_
      refine Fin_ret [_, .int .i64 _] [] Try.results13 ⟨lvN (by rfl) Try.isAgg30 Try.sizeOf30 (Mem.own (us := [.int .i64 _, .int .i64 _]) 2 (by rfl) (by rfl)) (by rfl), by rfl, trivial⟩ HSub.nil ?_
      show Value.tuple _ = _
      simp only [Tk.volume, c2, c4, if_true, Bool.false_eq_true, if_false]; rfl
    ·
      try simp only [Bool.not_eq_true', Bool.not_eq_false', decide_eq_true_eq, decide_eq_false_iff_not, ne_eq, Classical.not_not, Int.not_lt, Int.not_le] at c4
      have hf := (Tk.ok_iff.1 c2).full_bd
      have h8 := (Tk.ok_iff.1 c2).eight_bd (inB1.1 c4).1 (inB1.1 c4).2
      refine W_skip ?_
      refine InB_normal ?_
      refine Then_normal ?_
      refine W_seq ?_
      refine W_region_lit (fun ds => ?_)
      refine WS_det hF (by rfl) (y_move (c := .pointer _) (by rfl)) ?_
      refine WS_det hF (by rfl) (y_move (c := .int .i64 _) (by rfl)) ?_
      refine WS_det hF (by rfl) (y_callL (by rfl) (by rfl) Try.call67 (fun w hw => times_any _ _ t x w (Gg.own (by repeat (first | exact List.mem_cons_self | apply List.mem_cons_of_mem)) c2 hx w hw) (inB1.1 c4).1 (inB1.1 c4).2)) ?_
      refine WS_det hF (by rfl) (y_callL (by rfl) (by rfl) Try.call66 (fun w hw => part_int _ _ w (by omega) (by omega) (by omega) (by omega))) ?_
      refine WS_store hF (i := 2) (by rfl) (by rfl) Try.sizeOf30 (by rfl) (by rfl) (by rfl) (by first | decide | exact Nat.le_of_ble_eq_true rfl | simp) ?_
      refine WS_det hF (by rfl) (y_assign (c := .int .i64 _) (by rfl)) ?_
      refine WS_nil ?_
      refine Then_normal ?_
      refine W_ret ?_
      refine Fin_ret [_, .int .i64 _] [] Try.results13 ⟨lvN (by rfl) Try.isAgg30 Try.sizeOf30 (Mem.own (us := [.int .i64 _, .int .i64 _]) 2 (by rfl) (by rfl)) (by rfl), by rfl, trivial⟩ HSub.nil ?_
      show Value.tuple _ = _
      simp only [Tk.volume, c2, c4, if_true, Bool.false_eq_true, if_false]; rfl
/-- The eighth of some pints; the index is that of the first number that is no less. -/
def Tk.eighthV (t : Tk) (x : Int) (i : Nat) : Value :=
  if t.okB then if inB 0 t.full [x] then .tuple #[if i < t.n ∧ t.p i = x then lowI (8 * i) 1 else lowI (8 * (((i : Int) - 1) * (t.p i - t.p (i - 1)) + x - t.p (i - 1))) (t.p i - t.p (i - 1)), .int .i64 0] else .tuple #[partV0, .int .i64 2] else .tuple #[partV0, .int .i64 30]
structure Tk.Lb (t : Tk) (x : Int) (i : Nat) : Prop where
  le : i ≤ t.n
  lo : ∀ k, k < i → t.p k < x
  hi : ∀ k, i ≤ k → k < t.n → x ≤ t.p k

theorem eighth_any (t : Tk) (a : Option Addr) (cap : Nat) (x : Int) (i : Nat) (w : World) (hn : t.n ≤ 1000000) (hx : Ints w a t.n cap t.pints) (hi : t.okB = true → t.Lb x i) :
    Ct Try.prog 15 #[.agg #[.slice a t.n cap, .int .i64 t.leak, .int .i64 t.foot], .int .i64 x] w fun v _ => v = t.eighthV x i := by
  have hcap := hx.le
  have hF := wide_wide
  refine Ct_start (args := [_, _]) Try.func15 (by rfl) Try.ntmps15 (by rfl) ?_
  refine W_seq ?_
  refine W_region_lit (fun ds => ?_)
  refine WS_new hF (by rfl) (y_box (by rfl)) (fun b1 => ?_)
  refine WS_new hF (by rfl) (y_alloc Try.zeroValue30 (by rfl)) (fun b2 => ?_)
  refine WS_det hF (by rfl) (y_assign (c := .int .i64 _) (by rfl)) ?_
  refine WS_nil ?_
  refine Then_normal ?_
  refine W_seq ?_
  refine W_region_lit (fun ds => ?_)
  refine WS_det hF (by rfl) (y_loadN (by rfl) Try.isAgg24 Try.sizeOf24 (Mem.own (us := [.slice _ _ _, .int .i64 _, .int .i64 _]) 1 (by rfl) (by rfl)) (by rfl)) ?_
  refine WS_gen hF (by rfl) (y_callL (by rfl) (by rfl) Try.call64 (fun w hw => gauged_any t a cap w hn (hx.st w hw))) ?_
  rintro _ Hg ⟨p, rfl, hg1, hg2⟩
  refine WS_det hF (by rfl) (y_move (c := .tuple _) (by rfl)) ?_
  refine WS_det hF (by rfl) (y_extract (c := .pointer _) (by rfl) (by rfl)) ?_
  refine WS_det hF (by rfl) (y_extract (c := .bool _) (by rfl) (by rfl)) ?_
  refine WS_det hF (by rfl) (y_assign (c := .pointer _) (by rfl)) ?_
  refine WS_det hF (by rfl) (y_assign (c := .bool _) (by rfl)) ?_
  refine WS_nil ?_
  refine Then_normal ?_
  refine W_seq ?_
  refine W_block ?_
  refine W_seq ?_
  refine W_region_lit (fun ds => ?_)
  refine WS_det hF (by rfl) (y_move (c := .bool _) (by rfl)) ?_
  refine WS_det hF (by rfl) (y_not (by rfl)) ?_
  refine WS_det hF (by rfl) (y_assign (c := .bool _) (by rfl)) ?_
  refine WS_nil ?_
  refine Then_normal ?_
  refine W_cond (by rfl) (fun c2 => ?_) (fun c2 => ?_)
  ·
    try simp only [Bool.not_eq_true', Bool.not_eq_false', decide_eq_true_eq, decide_eq_false_iff_not, ne_eq, Classical.not_not, Int.not_lt, Int.not_le] at c2
    obtain rfl := hg2 c2
    refine W_seq ?_
    refine W_region_lit (fun ds => ?_)
    refine WS_det hF (by rfl) (y_buildL bd30 (by rfl)) ?_
    refine WS_store hF (i := 0) (by rfl) (by rfl) Try.sizeOf30 (by rfl) (by rfl) (by rfl) (by first | decide | exact Nat.le_of_ble_eq_true rfl | simp) ?_
    refine WS_det hF (by rfl) (y_assign (c := .int .i64 _) (by rfl)) ?_
    refine WS_nil ?_
    refine Then_normal ?_
    refine W_ret ?_
    refine InB_ret ?_
    refine Then_ret ?_
    refine Fin_ret [_, .int .i64 _] [] Try.results15 ⟨lvN (by rfl) Try.isAgg30 Try.sizeOf30 (Mem.own (us := [.int .i64 _, .int .i64 _]) 0 (by rfl) (by rfl)) (by rfl), by rfl, trivial⟩ HSub.nil ?_
    show Value.tuple _ = _
    simp only [Tk.eighthV, c2, if_true, Bool.false_eq_true, if_false]; rfl
  ·
    try simp only [Bool.not_eq_true', Bool.not_eq_false', decide_eq_true_eq, decide_eq_false_iff_not, ne_eq, Classical.not_not, Int.not_lt, Int.not_le] at c2
    obtain ⟨g, rfl, rfl⟩ := hg1 c2
    refine W_seq ?_
    refine W_region_lit (fun ds => ?_)
    refine WS_det hF (by rfl) (y_move (c := .pointer _) (by rfl)) ?_
    refine WS_det hF (by rfl) (by first | exact y_nilCheck (by rfl) | exact y_nilCheckF (by rfl)) ?_
    refine WS_det hF (by rfl) (y_fieldAddr (by rfl) fa98_1) ?_
    refine WS_det hF (by rfl) (y_load1 (by rfl) Try.isAgg3 (Mem.own1 0 (by rfl) (by rfl))) ?_
    refine WS_det hF (by rfl) (y_move (c := .int .i64 _) (by rfl)) ?_
    refine WS_newS hF (by rfl) (y_buildSliceL bs22_1_0 (by rfl)) (fun b3 => ?_)
    refine WS_det hF (by rfl) (y_callL (by rfl) (by rfl) Try.call65 (fun w hw => in_any _ _ _ _ _ _ w (by decide) (by first | exact Ints.one 0 rfl w hw | exact Ints.two 0 rfl w hw))) ?_
    refine WS_det hF (by rfl) (y_not (by rfl)) ?_
    refine WS_det hF (by rfl) (y_assign (c := .bool _) (by rfl)) ?_
    refine WS_nil ?_
    refine Then_normal ?_
    refine W_cond (by rfl) (fun c4 => ?_) (fun c4 => ?_)
    ·
      try simp only [Bool.not_eq_true', Bool.not_eq_false', decide_eq_true_eq, decide_eq_false_iff_not, ne_eq, Classical.not_not, Int.not_lt, Int.not_le] at c4
      refine W_seq ?_
      refine W_region_lit (fun ds => ?_)
      refine WS_det hF (by rfl) (y_buildL bd30 (by rfl)) ?_
      refine WS_store hF (i := 2) (by rfl) (by rfl) Try.sizeOf30 (by rfl) (by rfl) (by rfl) (by first | decide | exact Nat.le_of_ble_eq_true rfl | simp) ?_
      refine WS_det hF (by rfl) (y_assign (c := .int .i64 _) (by rfl)) ?_
      refine WS_nil ?_
      refine Then_normal ?_
      refine W_ret ?_
      refine InB_ret ?_
      refine Then_ret ?_
      refine Fin_ret [_, .int .i64 _] [] Try.results15 ⟨lvN (by rfl) Try.isAgg30 Try.sizeOf30 (Mem.own (us := [.int .i64 _, .int .i64 _]) 2 (by rfl) (by rfl)) (by rfl), by rfl, trivial⟩ HSub.nil ?_
      show Value.tuple _ = _
      simp only [Tk.eighthV, c2, c4, if_true, Bool.false_eq_true, if_false]; rfl
    ·
      try simp only [Bool.not_eq_true', Bool.not_eq_false', decide_eq_true_eq, decide_eq_false_iff_not, ne_eq, Classical.not_not, Int.not_lt, Int.not_le] at c4
      have hok := Tk.ok_iff.1 c2
      have hf := hok.full_bd
      have hlb := hi c2
      have hxr := inB1.1 c4
      have h2 := hok.n2
      have h21 := hok.n21
      have hin : i < t.n := Nat.lt_of_not_le fun h => by
        have h1 := hlb.lo (t.n - 1) (by omega)
        have h3 : t.full = t.p (t.n - 1) := rfl
        omega
      have hi0 : i = 0 → t.p i = x := fun h => by
        subst h
        have h1 := hlb.hi 0 (Nat.le_refl _) (by omega)
        rw [hok.p0] at h1 ⊢
        omega
      obtain ⟨b, o, rfl⟩ := hx.adr (by omega)
      have e1 : At w b (o + i * 1) [.int .i64 (t.p i)] := hx.at (k := i) hin
      have e0 : At w b (o + (i - 1) * 1) [.int .i64 (t.p (i - 1))] := hx.at (k := i - 1) (by omega)
      refine W_skip ?_
      refine InB_normal ?_
      refine Then_normal ?_
      refine W_seq ?_
      refine W_region_lit (fun ds => ?_)
      refine WS_det hF (by rfl) (y_fieldAddr (by rfl) fa24_0) ?_
      refine WS_det hF (by rfl) (y_load1 (by rfl) Try.isAgg22 (Mem.own1 3 (by rfl) (by rfl))) ?_
      refine WS_det hF (by rfl) (y_move (c := .int .i64 _) (by rfl)) ?_
      refine WS_det hF (by rfl) (y_callL (by rfl) (by rfl) Try.call71 (fun w hw => bsearch_any _ t.n cap t.pints x i w (by omega) (hx.st w hw) hlb.le hlb.lo hlb.hi)) ?_
      refine WS_det hF (by rfl) (y_move (c := .tuple _) (by rfl)) ?_
      refine WS_det hF (by rfl) (y_extract (c := .int .i64 _) (by rfl) (by rfl)) ?_
      refine WS_det hF (by rfl) (y_extract (c := .bool _) (by rfl) (by rfl)) ?_
      refine WS_det hF (by rfl) (y_assign (c := .int .i64 _) (by rfl)) ?_
      refine WS_det hF (by rfl) (y_assign (c := .bool _) (by rfl)) ?_
      refine WS_nil ?_
      refine Then_normal ?_
      refine W_seq ?_
      refine W_seq ?_
      refine W_region_lit (fun ds => ?_)
      refine WS_det hF (by rfl) (y_move (c := .bool _) (by rfl)) ?_
      refine WS_nil ?_
      refine Then_normal ?_
      refine W_cond (by rfl) (fun c7 => ?_) (fun c7 => ?_)
      ·
        try simp only [Bool.not_eq_true', Bool.not_eq_false', decide_eq_true_eq, decide_eq_false_iff_not, ne_eq, Classical.not_not, Int.not_lt, Int.not_le] at c7
        obtain ⟨_, c7⟩ := c7
        change t.p i = x at c7
        refine W_seq ?_
        refine W_region_lit (fun ds => ?_)
        refine WS_det hF (by rfl) (y_move (c := .int .i64 _) (by rfl)) ?_
        refine WS_det hF (by rfl) (y_mul (by rfl) (by rfl) (by unfold I64; omega)) ?_
        refine WS_det hF (by rfl) (y_callL (by rfl) (by rfl) Try.call66 (fun w hw => part_int _ _ w (by omega) (by omega) (by omega) (by omega))) ?_
        refine WS_store hF (i := 2) (by rfl) (by rfl) Try.sizeOf30 (by rfl) (by rfl) (by rfl) (by first | decide | exact Nat.le_of_ble_eq_true rfl | simp) ?_
        refine WS_det hF (by rfl) (y_assign (c := .int .i64 _) (by rfl)) ?_
        refine WS_nil ?_
        refine Then_normal ?_
        refine W_ret ?_
        refine Then_ret ?_
        refine Fin_ret [_, .int .i64 _] [] Try.results15 ⟨lvN (by rfl) Try.isAgg30 Try.sizeOf30 (Mem.own (us := [.int .i64 _, .int .i64 _]) 2 (by rfl) (by rfl)) (by rfl), by rfl, trivial⟩ HSub.nil ?_
        show Value.tuple _ = _
        simp only [Tk.eighthV, c2, c4, if_true, Bool.false_eq_true, if_false]
        rw [if_pos ⟨hin, c7⟩] <;> rfl
      ·
        try simp only [Bool.not_eq_true', Bool.not_eq_false', decide_eq_true_eq, decide_eq_false_iff_not, ne_eq, Classical.not_not, Int.not_lt, Int.not_le] at c7
        have c7 : ¬ t.p i = x := fun h => c7 ⟨hin, h⟩
        have hi1 : 1 ≤ i := Nat.one_le_iff_ne_zero.2 fun h => c7 (hi0 h)
        have hmono := hok.inc (i - 1) (by omega)
        rw [show i - 1 + 1 = i by omega] at hmono
        have hlo := hlb.lo (i - 1) (by omega)
        have hhi := hlb.hi i (Nat.le_refl _) hin
        have hb0 := hok.bd (i - 1) (by omega)
        have hm := mul_bd (a := (i : Int) - 1) (b := t.p i - t.p (i - 1)) (A := 20) (B := 600) (by omega) (by omega) (by omega) (by omega)
        refine W_skip ?_
        refine Then_normal ?_
        refine W_seq ?_
        refine W_draw0 hF Trymixed [] (by decide +kernel) (fun ds => ?_)
        refine P_det (by rfl) (Over_nil (y_fieldAddr (by rfl) fa24_0)) ?_
        refine P_det (by rfl) (Over_nil (y_load1 (by rfl) Try.isAgg22 (Mem.own1 3 (by rfl) (by rfl)))) ?_
        refine P_det (by rfl) (Over_nil (y_move (c := .int .i64 _) (by rfl))) ?_
        refine P_det (by rfl) (Over_nil (y_index (k := i) (by rfl) (by rfl) (by first | rfl | omega) (by first | decide | omega) Try.runUnderlying22 Try.sizeOf3)) ?_
        refine P_det (by rfl) (Over_nil (y_load1 (by rfl) Try.isAgg3 (by first | exact Mem.old1 (by assumption) | exact Mem.oldAt1 (by assumption) (by rfl) | exact Mem.old (by assumption) | exact Mem.oldAtL1 (by assumption) (by rfl) (by rfl)))) ?_
        refine P_det (by rfl) (Over_nil (y_fieldAddr (by rfl) fa24_0)) ?_
        refine P_det (by rfl) (Over_nil (y_load1 (by rfl) Try.isAgg22 (Mem.own1 3 (by rfl) (by rfl)))) ?_
        refine P_det (by rfl) (Over_nil (y_move (c := .int .i64 _) (by rfl))) ?_
        refine P_det (by rfl) (Over_nil (y_sub (by rfl) (by rfl) (by unfold I64; omega))) ?_
        refine P_det (by rfl) (Over_nil (y_index (k := i - 1) (by rfl) (by rfl) (by first | rfl | omega) (by first | decide | omega) Try.runUnderlying22 Try.sizeOf3)) ?_
        refine P_det (by rfl) (Over_nil (y_load1 (by rfl) Try.isAgg3 (by first | exact Mem.old1 (by assumption) | exact Mem.oldAt1 (by assumption) (by rfl) | exact Mem.old (by assumption) | exact Mem.oldAtL1 (by assumption) (by rfl) (by rfl)))) ?_
        refine P_det (by rfl) (Over_nil (y_sub (by rfl) (by rfl) (by unfold I64; omega))) ?_
        refine P_det (by rfl) (Over_nil (y_assign (c := .int .i64 _) (by rfl))) ?_
        refine PW_end (by rfl) ?_
        refine OverAll_nil ?_
        rintro -
        refine Then_normal ?_
        refine W_seq ?_
        refine W_region_lit (fun ds => ?_)
        refine WS_det hF (by rfl) (y_move (c := .int .i64 _) (by rfl)) ?_
        refine WS_det hF (by rfl) (y_sub (by rfl) (by rfl) (by unfold I64; omega)) ?_
        refine WS_det hF (by rfl) (y_move (c := .int .i64 _) (by rfl)) ?_
        refine WS_det hF (by rfl) (y_mul (by rfl) (by rfl) (by unfold I64; omega)) ?_
        refine WS_det hF (by rfl) (y_move (c := .int .i64 _) (by rfl)) ?_
        refine WS_det hF (by rfl) (y_add (by rfl) (by rfl) (by unfold I64; omega)) ?_
        refine WS_det hF (by rfl) (y_fieldAddr (by rfl) fa24_0) ?_
        refine WS_det hF (by rfl) (y_load1 (by rfl) Try.isAgg22 (Mem.own1 3 (by rfl) (by rfl))) ?_
        refine WS_det hF (by rfl) (y_move (c := .int .i64 _) (by rfl)) ?_
        refine WS_det hF (by rfl) (y_sub (by rfl) (by rfl) (by unfold I64; omega)) ?_
        refine WS_det hF (by rfl) (y_index (k := i - 1) (by rfl) (by rfl) (by first | rfl | omega) (by first | decide | omega) Try.runUnderlying22 Try.sizeOf3) ?_
        refine WS_det hF (by rfl) (y_load1 (by rfl) Try.isAgg3 (by first | exact Mem.old1 (by assumption) | exact Mem.oldAt1 (by assumption) (by rfl) | exact Mem.old (by assumption) | exact Mem.oldAtL1 (by assumption) (by rfl) (by rfl))) ?_
        refine WS_det hF (by rfl) (y_sub (by rfl) (by rfl) (by unfold I64; omega)) ?_
        refine WS_det hF (by rfl) (y_mul (by rfl) (by rfl) (by unfold I64; omega)) ?_
        refine WS_det hF (by rfl) (y_move (c := .int .i64 _) (by rfl)) ?_
        refine WS_det hF (by rfl) (y_callL (by rfl) (by rfl) Try.call66 (fun w hw => part_int _ _ w (by omega) (by omega) (by omega) (by omega))) ?_
        refine WS_store hF (i := 2) (by rfl) (by rfl) Try.sizeOf30 (by rfl) (by rfl) (by rfl) (by first | decide | exact Nat.le_of_ble_eq_true rfl | simp) ?_
        refine WS_det hF (by rfl) (y_assign (c := .int .i64 _) (by rfl)) ?_
        refine WS_nil ?_
        refine Then_normal ?_
        refine W_ret ?_
        refine Fin_ret [_, .int .i64 _] [] Try.results15 ⟨lvN (by rfl) Try.isAgg30 Try.sizeOf30 (Mem.own (us := [.int .i64 _, .int .i64 _]) 2 (by rfl) (by rfl)) (by rfl), by rfl, trivial⟩ HSub.nil ?_
        show Value.tuple _ = _
        simp only [Tk.eighthV, c2, c4, if_true, Bool.false_eq_true, if_false]
        rw [if_neg fun h => c7 h.2] <;> rfl
/-- The pints of a dip. -/
def Tk.range (t : Tk) (x y : Int) : Value :=
  if t.okB then if inB 0 t.height [x, y] && decide (x ≤ y) then if t.down y < t.up x then .tuple #[partV0, .int .i64 6] else .tuple #[.agg #[.int .i64 (t.up x), .int .i64 (t.down y)], .int .i64 0] else .tuple #[partV0, .int .i64 2] else .tuple #[partV0, .int .i64 30]
theorem range_any (t : Tk) (a : Option Addr) (cap : Nat) (x y : Int) (w : World) (hn : t.n ≤ 1000000) (hx : Ints w a t.n cap t.pints) :
    Ct Try.prog 17 #[.agg #[.slice a t.n cap, .int .i64 t.leak, .int .i64 t.foot], .agg #[.int .i64 x, .int .i64 y]] w fun v _ => v = t.range x y := by
  have hF := wide_wide
  refine Ct_start (args := [_, _]) Try.func17 (by rfl) Try.ntmps17 (by rfl) ?_
  refine W_seq ?_
  refine W_region_lit (fun ds => ?_)
  refine WS_new hF (by rfl) (y_box (by rfl)) (fun b1 => ?_)
  refine WS_new hF (by rfl) (y_box (by rfl)) (fun b2 => ?_)
  refine WS_new hF (by rfl) (y_alloc Try.zeroValue26 (by rfl)) (fun b3 => ?_)
  refine WS_det hF (by rfl) (y_assign (c := .int .i64 _) (by rfl)) ?_
  refine WS_nil ?_
  refine Then_normal ?_
  refine W_seq ?_
  refine W_region_lit (fun ds => ?_)
  refine WS_det hF (by rfl) (y_loadN (by rfl) Try.isAgg24 Try.sizeOf24 (Mem.own (us := [.slice _ _ _, .int .i64 _, .int .i64 _]) 2 (by rfl) (by rfl)) (by rfl)) ?_
  refine WS_gen hF (by rfl) (y_callL (by rfl) (by rfl) Try.call64 (fun w hw => gauged_any t a cap w hn (hx.st w hw))) ?_
  rintro _ Hg ⟨p, rfl, hg1, hg2⟩
  refine WS_det hF (by rfl) (y_move (c := .tuple _) (by rfl)) ?_
  refine WS_det hF (by rfl) (y_extract (c := .pointer _) (by rfl) (by rfl)) ?_
  refine WS_det hF (by rfl) (y_extract (c := .bool _) (by rfl) (by rfl)) ?_
  refine WS_det hF (by rfl) (y_assign (c := .pointer _) (by rfl)) ?_
  refine WS_det hF (by rfl) (y_assign (c := .bool _) (by rfl)) ?_
  refine WS_nil ?_
  refine Then_normal ?_
  refine W_seq ?_
  refine W_block ?_
  refine W_seq ?_
  refine W_region_lit (fun ds => ?_)
  refine WS_det hF (by rfl) (y_move (c := .bool _) (by rfl)) ?_
  refine WS_det hF (by rfl) (y_not (by rfl)) ?_
  refine WS_det hF (by rfl) (y_assign (c := .bool _) (by rfl)) ?_
  refine WS_nil ?_
  refine Then_normal ?_
  refine W_cond (by rfl) (fun c2 => ?_) (fun c2 => ?_)
  ·
    try simp only [Bool.not_eq_true', Bool.not_eq_false', decide_eq_true_eq, decide_eq_false_iff_not, ne_eq, Classical.not_not, Int.not_lt, Int.not_le] at c2
    obtain rfl := hg2 c2
    refine W_seq ?_
    refine W_region_lit (fun ds => ?_)
    refine WS_det hF (by rfl) (y_buildL bd26 (by rfl)) ?_
    refine WS_store hF (i := 0) (by rfl) (by rfl) Try.sizeOf26 (by rfl) (by rfl) (by rfl) (by first | decide | exact Nat.le_of_ble_eq_true rfl | simp) ?_
    refine WS_det hF (by rfl) (y_assign (c := .int .i64 _) (by rfl)) ?_
    refine WS_nil ?_
    refine Then_normal ?_
    refine W_ret ?_
    refine InB_ret ?_
    refine Then_ret ?_
    refine Fin_ret [_, .int .i64 _] [] Try.results17 ⟨lvN (by rfl) Try.isAgg26 Try.sizeOf26 (Mem.own (us := [.int .i64 _, .int .i64 _]) 0 (by rfl) (by rfl)) (by rfl), by rfl, trivial⟩ HSub.nil ?_
    show Value.tuple _ = _
    simp only [Tk.range, c2, if_true, Bool.false_eq_true, if_false]; rfl
  ·
    try simp only [Bool.not_eq_true', Bool.not_eq_false', decide_eq_true_eq, decide_eq_false_iff_not, ne_eq, Classical.not_not, Int.not_lt, Int.not_le] at c2
    obtain ⟨g, rfl, rfl⟩ := hg1 c2
    refine W_seq ?_
    refine W_draw0 hF Trymixed [] (by decide +kernel) (fun ds => ?_)
    refine P_det (by rfl) (Over_nil (y_loadN (by rfl) Try.isAgg26 Try.sizeOf26 (Mem.own (us := [.int .i64 _, .int .i64 _]) 2 (by rfl) (by rfl)) (by rfl))) ?_
    refine P_det (by rfl) (Over_nil (y_move (c := .pointer _) (by rfl))) ?_
    refine P_det (by rfl) (Over_nil (by first | exact y_nilCheck (by rfl) | exact y_nilCheckF (by rfl))) ?_
    refine P_det (by rfl) (Over_nil (y_fieldAddr (by rfl) fa98_2)) ?_
    refine P_det (by rfl) (Over_nil (y_load1 (by rfl) Try.isAgg3 (Mem.own1 0 (by rfl) (by rfl)))) ?_
    refine P_det (by rfl) (Over_nil (y_callL (by rfl) (by rfl) Try.call72 (fun w hw => span_any _ _ _ w))) ?_
    refine P_det (by rfl) (Over_nil (y_not (by rfl))) ?_
    refine P_det (by rfl) (Over_nil (y_assign (c := .bool _) (by rfl))) ?_
    refine PW_end (by rfl) ?_
    refine OverAll_nil ?_
    rintro -
    refine Then_normal ?_
    refine W_cond (by rfl) (fun c4 => ?_) (fun c4 => ?_)
    ·
      try simp only [Bool.not_eq_true', Bool.not_eq_false', decide_eq_true_eq, decide_eq_false_iff_not, ne_eq, Classical.not_not, Int.not_lt, Int.not_le] at c4
      refine W_seq ?_
      refine W_region_lit (fun ds => ?_)
      refine WS_det hF (by rfl) (y_buildL bd26 (by rfl)) ?_
      refine WS_store hF (i := 1) (by rfl) (by rfl) Try.sizeOf26 (by rfl) (by rfl) (by rfl) (by first | decide | exact Nat.le_of_ble_eq_true rfl | simp) ?_
      refine WS_det hF (by rfl) (y_assign (c := .int .i64 _) (by rfl)) ?_
      refine WS_nil ?_
      refine Then_normal ?_
      refine W_ret ?_
      refine InB_ret ?_
      refine Then_ret ?_
      refine Fin_ret [_, .int .i64 _] [] Try.results17 ⟨lvN (by rfl) Try.isAgg26 Try.sizeOf26 (Mem.own (us := [.int .i64 _, .int .i64 _]) 1 (by rfl) (by rfl)) (by rfl), by rfl, trivial⟩ HSub.nil ?_
      show Value.tuple _ = _
      simp only [Tk.range, c2, c4, if_true, Bool.false_eq_true, if_false]; rfl
    ·
      try simp only [Bool.not_eq_true', Bool.not_eq_false', decide_eq_true_eq, decide_eq_false_iff_not, ne_eq, Classical.not_not, Int.not_lt, Int.not_le] at c4
      have hb : (0 ≤ x ∧ x ≤ t.height) ∧ (0 ≤ y ∧ y ≤ t.height) := by
        rw [Bool.and_eq_true, inB2] at c4
        exact c4.1
      refine W_skip ?_
      refine InB_normal ?_
      refine Then_normal ?_
      refine W_seq ?_
      refine W_region_lit (fun ds => ?_)
      refine WS_det hF (by rfl) (y_move (c := .pointer _) (by rfl)) ?_
      refine WS_det hF (by rfl) (y_loadN (by rfl) Try.isAgg26 Try.sizeOf26 (Mem.own (us := [.int .i64 _, .int .i64 _]) 2 (by rfl) (by rfl)) (by rfl)) ?_
      refine WS_det hF (by rfl) (y_callL (by rfl) (by rfl) Try.call73 (fun w hw => dip_any _ _ t x y w (Gg.own (by repeat (first | exact List.mem_cons_self | apply List.mem_cons_of_mem)) c2 hx w hw) hb.1.1 hb.1.2 hb.2.1 hb.2.2)) ?_
      refine WS_new hF (by rfl) (y_alloc Try.zeroValue26 (by rfl)) (fun b4 => ?_)
      refine WS_store hF (i := 0) (by rfl) (by rfl) Try.sizeOf26 (by rfl) (by rfl) (by rfl) (by first | decide | exact Nat.le_of_ble_eq_true rfl | simp) ?_
      refine WS_nil ?_
      refine Then_normal ?_
      refine W_seq ?_
      refine W_seq ?_
      refine W_region_lit (fun ds => ?_)
      refine WS_det hF (by rfl) (y_loadN (by rfl) Try.isAgg26 Try.sizeOf26 (Mem.own (us := [.int .i64 _, .int .i64 _]) 0 (by rfl) (by rfl)) (by rfl)) ?_
      refine WS_det hF (by rfl) (y_callL (by rfl) (by rfl) Try.call74 (fun w hw => empty_any _ _ w)) ?_
      refine WS_nil ?_
      refine Then_normal ?_
      refine W_cond (by rfl) (fun c7 => ?_) (fun c7 => ?_)
      ·
        try simp only [Bool.not_eq_true', Bool.not_eq_false', decide_eq_true_eq, decide_eq_false_iff_not, ne_eq, Classical.not_not, Int.not_lt, Int.not_le] at c7
        refine W_seq ?_
        refine W_region_lit (fun ds => ?_)
        refine WS_det hF (by rfl) (y_buildL bd26 (by rfl)) ?_
        refine WS_store hF (i := 2) (by rfl) (by rfl) Try.sizeOf26 (by rfl) (by rfl) (by rfl) (by first | decide | exact Nat.le_of_ble_eq_true rfl | simp) ?_
        refine WS_det hF (by rfl) (y_assign (c := .int .i64 _) (by rfl)) ?_
        refine WS_nil ?_
        refine Then_normal ?_
        refine W_ret ?_
        refine Then_ret ?_
        refine Fin_ret [_, .int .i64 _] [] Try.results17 ⟨lvN (by rfl) Try.isAgg26 Try.sizeOf26 (Mem.own (us := [.int .i64 _, .int .i64 _]) 2 (by rfl) (by rfl)) (by rfl), by rfl, trivial⟩ HSub.nil ?_
        show Value.tuple _ = _
        simp only [Tk.range, c2, c4, if_true, Bool.false_eq_true, if_false]
        rw [if_pos c7] <;> rfl
      ·
        try simp only [Bool.not_eq_true', Bool.not_eq_false', decide_eq_true_eq, decide_eq_false_iff_not, ne_eq, Classical.not_not, Int.not_lt, Int.not_le] at c7
        refine W_skip ?_
        refine Then_normal ?_
        refine W_seq ?_
        refine W_region_lit (fun ds => ?_)
        refine WS_det hF (by rfl) (y_loadN (by rfl) Try.isAgg26 Try.sizeOf26 (Mem.own (us := [.int .i64 _, .int .i64 _]) 0 (by rfl) (by rfl)) (by rfl)) ?_
        refine WS_store hF (i := 2) (by rfl) (by rfl) Try.sizeOf26 (by rfl) (by rfl) (by rfl) (by first | decide | exact Nat.le_of_ble_eq_true rfl | simp) ?_
        refine WS_det hF (by rfl) (y_assign (c := .int .i64 _) (by rfl)) ?_
        refine WS_nil ?_
        refine Then_normal ?_
        refine W_ret ?_
        refine Fin_ret [_, .int .i64 _] [] Try.results17 ⟨lvN (by rfl) Try.isAgg26 Try.sizeOf26 (Mem.own (us := [.int .i64 _, .int .i64 _]) 2 (by rfl) (by rfl)) (by rfl), by rfl, trivial⟩ HSub.nil ?_
        show Value.tuple _ = _
        simp only [Tk.range, c2, c4, if_true, Bool.false_eq_true, if_false]
        rw [if_neg (by omega)] <;> rfl
end Go.Proofs.Ythkimgfgpphgnaa.T

/- Walks of the reference: Tank, Eight, Check, Volume, Range. -/
namespace Go.Proofs.Ythkimgfgpphgnaa.T
open Go.RowKit Go.Proofs Go.Eng
set_option maxRecDepth 100000
set_option linter.unusedVariables false
set_option linter.unusedSimpArgs false



end Go.Proofs.Ythkimgfgpphgnaa.T

/- The reference of Eighth. -/
namespace Go.Proofs.Ythkimgfgpphgnaa.T
open Go.RowKit Go.Proofs Go.Eng
set_option maxRecDepth 100000
set_option linter.unusedVariables false
set_option linter.unusedSimpArgs false



end Go.Proofs.Ythkimgfgpphgnaa.T

/- Walks: GreatTank, TwinTank, SameInts. -/
namespace Go.Proofs.Ythkimgfgpphgnaa.T
open Go.RowKit Go.Proofs Go.Eng
set_option maxRecDepth 100000
set_option linter.unusedVariables false
set_option linter.unusedSimpArgs false

theorem bd24_0_1_2 {x0a : Option Addr} {x0l x0c : Nat} {x1 : Int} {x2 : Int} : ∀ w, (Instr.build 24 #[(0, .slice x0a x0l x0c), (1, .int .i64 x1), (2, .int .i64 x2)]).run Try.prog w = .ok (.agg #[.slice x0a x0l x0c, .int .i64 x1, .int .i64 x2]) w := fun w => by kernel_rfl
theorem bs22_0  : ∀ w, (Instr.buildSlice 22 0 #[]).run Try.prog w = .ok (.slice (some ⟨w.heap.size, 0, none⟩) 0 0) (w.alloc (CB [] 3)) := fun w => by kernel_rfl

theorem Ct_eq {P : Program} {f : FuncId} {args : Array Value} {w : World} {c c' : Value} (hc : Ct P f args w fun v _ => v = c) (h : c = c') : Ct P f args w fun v _ => v = c' := h ▸ hc
def iv (xs : List Int) : List Value := xs.map (Value.int .i64)
theorem Ints.row {w : World} {b o n cap : Nat} {xs : List Int} (h : Ints w (some ⟨b, o, none⟩) n cap xs) : At w b o (iv xs) := At.of fun j v hv => by
  have hj : j < xs.length := by have := (List.getElem?_eq_some_iff.1 hv).1; simpa [iv] using this
  have h1 := h.at (k := j) (by rw [← h.len]; exact hj)
  have h2 : v = .int .i64 (xs.getD j 0) := by
    rw [iv, List.getElem?_map, List.getElem?_eq_getElem hj] at hv
    simp only [Option.map_some, Option.some.injEq] at hv
    rw [← hv]; simp [List.getD_eq_getElem?_getD, hj]
  rw [h2]
  have := h1.1
  rwa [show o + j * 1 = o + j by omega] at this
theorem Ints.src {C : Ctx} {H : List Blk} {a : Option Addr} {n cap : Nat} {xs : List Int} (h : Ints C.w0 a n cap xs) : Src C H a n (iv xs) := by
  by_cases hn : n = 0
  · refine .inl ⟨hn, ?_⟩
    have := h.len
    rw [hn] at this
    rw [List.length_eq_zero_iff.1 this]; rfl
  · obtain ⟨b, o, rfl⟩ := h.adr (by omega)
    exact .inr ⟨b, o, rfl, Mem.old h.row⟩
theorem NewRow.ints {C : Ctx} {H Hn : List Blk} {a : Option Addr} {n cap : Nat} {xs : List Int} {T : TypeId} (h : NewRow T 1 n (iv xs) (.slice a n cap) Hn) (hl : xs.length = n) (hs : Hn.Sublist H) (w : World) (hw : St C H w) : Ints w a n cap xs := by
  obtain ⟨a', cap', he, hle, hc⟩ := h
  cases he
  rcases hc with ⟨hn, b, junk, rfl, rfl, hlen⟩ | ⟨hn, rfl, rfl⟩
  · exact Ints.mem (rest := junk) 0 rfl hl hle w (hw.sub hs)
  · subst hn
    rw [List.length_eq_zero_iff.1 hl]
    exact Ints.nil _ _ _

/-- A tank in new memory. -/
def TwinV (t : Tk) (v : Value) (Hn : List Blk) : Prop := ∃ a cap, v = .agg #[.slice a t.n cap, .int .i64 t.leak, .int .i64 t.foot] ∧ NewRow 3 1 t.n (iv t.pints) (.slice a t.n cap) Hn
theorem infInt : (Try.prog.info? 3).map (fun i => (i.zero, i.size, i.bytes)) = some (some (.int .i64 0), 1, 8) := by kernel_rfl

theorem sameInts_any (a a' : Option Addr) (n n' cap cap' : Nat) (xs ys : List Int) (w : World) (hn : n ≤ 1000000) (hx : Ints w a n cap xs) (hy : Ints w a' n' cap' ys) :
    Ct Try.prog 21 #[.slice a n cap, .slice a' n' cap'] w fun v _ => v = .bool (decide (xs = ys)) := by
  have hF := wide_wide
  refine Ct_start (args := [_, _]) Try.func21 (by rfl) Try.ntmps21 (by rfl) ?_
  refine W_seq ?_
  refine W_region_lit (fun ds => ?_)
  refine WS_det hF (by rfl) (y_assign (c := .bool _) (by rfl)) ?_
  refine WS_nil ?_
  refine Then_normal ?_
  refine W_seq ?_
  refine W_seq ?_
  refine W_region_lit (fun ds => ?_)
  refine WS_det hF (by rfl) (y_move (c := .slice _ _ _) (by rfl)) ?_
  refine WS_det hF (by rfl) (y_len (by rfl) Try.runUnderlying22) ?_
  refine WS_det hF (by rfl) (y_move (c := .slice _ _ _) (by rfl)) ?_
  refine WS_det hF (by rfl) (y_len (by rfl) Try.runUnderlying22) ?_
  refine WS_det hF (by rfl) (y_neq (by rfl) (by rfl)) ?_
  refine WS_nil ?_
  refine Then_normal ?_
  refine W_cond (by rfl) (fun c1 => ?_) (fun c1 => ?_)
  ·
    try simp only [Bool.not_eq_true', Bool.not_eq_false', decide_eq_true_eq, decide_eq_false_iff_not, ne_eq, Classical.not_not, Int.not_lt, Int.not_le] at c1
    refine W_seq ?_
    refine W_region_lit (fun ds => ?_)
    refine WS_det hF (by rfl) (y_assign (c := .bool _) (by rfl)) ?_
    refine WS_nil ?_
    refine Then_normal ?_
    refine W_ret ?_
    refine Then_ret ?_
    refine Fin_ret [.bool _] [] Try.results21 ⟨by rfl, trivial⟩ HSub.nil ?_
    show Value.bool _ = _
    rw [decide_eq_false]
    intro h
    have h1 := hx.len
    have h2 := hy.len
    rw [h] at h1
    omega
  ·
    try simp only [Bool.not_eq_true', Bool.not_eq_false', decide_eq_true_eq, decide_eq_false_iff_not, ne_eq, Classical.not_not, Int.not_lt, Int.not_le] at c1
    obtain rfl : n = n' := by omega
    refine W_skip ?_
    refine Then_normal ?_
    refine W_seq ?_
    refine W_seq ?_
    refine W_region_lit (fun ds => ?_)
    refine WS_det hF (by rfl) (y_assign (c := .int .i64 _) (by rfl)) ?_
    refine WS_nil ?_
    refine Then_normal ?_
    refine W_block ?_
    refine W_loop (γ := Nat) (fun k => k ≤ n ∧ ∀ j, j < k → xs.getD j 0 = ys.getD j 0) (fun k => [(5, .int .i64 (k : Int)), (0, .slice a n cap), (1, .slice a' n cap')]) (fun _ => _) (fun k => n - k) (0) ⟨Nat.zero_le _, fun j h => absurd h (Nat.not_lt_zero _)⟩ (by repeat (first | exact trivial | refine ⟨by rfl, ?_⟩)) (List.Sublist.refl _) ?_
    rintro k e ⟨hk, hj⟩
    refine W_seq ?_
    refine W_seq ?_
    refine W_region_lit (fun ds => ?_)
    refine WS_det hF (by rfl) (y_move (c := .int .i64 _) (by rfl)) ?_
    refine WS_det hF (by rfl) (y_move (c := .slice _ _ _) (by rfl)) ?_
    refine WS_det hF (by rfl) (y_len (by rfl) Try.runUnderlying22) ?_
    refine WS_det hF (by rfl) (y_lss (by rfl) (by rfl)) ?_
    refine WS_nil ?_
    refine Then_normal ?_
    refine W_cond (by rfl) (fun c4 => ?_) (fun c4 => ?_)
    ·
      try simp only [Bool.not_eq_true', Bool.not_eq_false', decide_eq_true_eq, decide_eq_false_iff_not, ne_eq, Classical.not_not, Int.not_lt, Int.not_le] at c4
      obtain ⟨b, o, rfl, h1⟩ := hx.cell k (by omega)
      obtain ⟨b', o', rfl, h2⟩ := hy.cell k (by omega)
      refine W_skip ?_
      refine Then_normal ?_
      refine W_seq ?_
      refine W_block ?_
      refine W_seq ?_
      refine W_draw0 hF Trymixed [] (by decide +kernel) (fun ds => ?_)
      refine P_det (by rfl) (Over_nil (y_move (c := .slice _ _ _) (by rfl))) ?_
      refine P_det (by rfl) (Over_nil (y_move (c := .int .i64 _) (by rfl))) ?_
      refine P_det (by rfl) (Over_nil (y_index (k := k) (by rfl) (by rfl) (by first | rfl | omega) (by first | decide | omega) Try.runUnderlying22 Try.sizeOf3)) ?_
      refine P_det (by rfl) (Over_nil (y_load1 (by rfl) Try.isAgg3 (by first | exact Mem.old1 (by assumption) | exact Mem.oldAt1 (by assumption) (by rfl) | exact Mem.old (by assumption) | exact Mem.oldAtL1 (by assumption) (by rfl) (by rfl)))) ?_
      refine P_det (by rfl) (Over_nil (y_move (c := .slice _ _ _) (by rfl))) ?_
      refine P_det (by rfl) (Over_nil (y_move (c := .int .i64 _) (by rfl))) ?_
      refine P_det (by rfl) (Over_nil (y_index (k := k) (by rfl) (by rfl) (by first | rfl | omega) (by first | decide | omega) Try.runUnderlying22 Try.sizeOf3)) ?_
      refine P_det (by rfl) (Over_nil (y_load1 (by rfl) Try.isAgg3 (by first | exact Mem.old1 (by assumption) | exact Mem.oldAt1 (by assumption) (by rfl) | exact Mem.old (by assumption) | exact Mem.oldAtL1 (by assumption) (by rfl) (by rfl)))) ?_
      refine P_det (by rfl) (Over_nil (y_neq (by rfl) (by rfl))) ?_
      refine PW_end (by rfl) ?_
      refine OverAll_nil ?_
      rintro -
      refine Then_normal ?_
      refine W_cond (by rfl) (fun c6 => ?_) (fun c6 => ?_)
      ·
        try simp only [Bool.not_eq_true', Bool.not_eq_false', decide_eq_true_eq, decide_eq_false_iff_not, ne_eq, Classical.not_not, Int.not_lt, Int.not_le] at c6
        refine W_seq ?_
        refine W_region_lit (fun ds => ?_)
        refine WS_det hF (by rfl) (y_assign (c := .bool _) (by rfl)) ?_
        refine WS_nil ?_
        refine Then_normal ?_
        refine W_ret ?_
        refine InB_ret ?_
        refine Then_ret ?_
        refine Loop_ret ?_
        refine InB_ret ?_
        refine Then_ret ?_
        refine Fin_ret [.bool _] [] Try.results21 ⟨by rfl, trivial⟩ HSub.nil ?_
        show Value.bool _ = _
        rw [decide_eq_false]
        intro h
        exact c6 (by rw [h])
      ·
        try simp only [Bool.not_eq_true', Bool.not_eq_false', decide_eq_true_eq, decide_eq_false_iff_not, ne_eq, Classical.not_not, Int.not_lt, Int.not_le] at c6
        refine W_skip ?_
        refine InB_normal ?_
        refine Then_normal ?_
        refine W_region_lit (fun ds => ?_)
        refine WS_det hF (by rfl) (y_move (c := .int .i64 _) (by rfl)) ?_
        refine WS_det hF (by rfl) (y_add (by rfl) (by rfl) (by unfold I64; omega)) ?_
        refine WS_det hF (by rfl) (y_assign (c := .int .i64 _) (by rfl)) ?_
        refine WS_nil ?_
        exact Loop_next (k + 1) ⟨by omega, fun j h => by by_cases hjk : j = k; (subst hjk; exact c6); exact hj j (by omega)⟩ (by repeat (first | exact trivial | refine ⟨by rfl, ?_⟩)) (by repeat (first | exact List.Sublist.refl _ | exact List.nil_sublist _ | apply List.Sublist.cons_cons | apply List.Sublist.cons)) (by omega)
    ·
      try simp only [Bool.not_eq_true', Bool.not_eq_false', decide_eq_true_eq, decide_eq_false_iff_not, ne_eq, Classical.not_not, Int.not_lt, Int.not_le] at c4
      refine W_exit ?_
      refine Then_exit ?_
      refine Loop_exit ?_
      refine InB_same ?_
      refine Then_normal ?_
      refine W_seq ?_
      refine W_region_lit (fun ds => ?_)
      refine WS_det hF (by rfl) (y_assign (c := .bool _) (by rfl)) ?_
      refine WS_nil ?_
      refine Then_normal ?_
      refine W_ret ?_
      refine Fin_ret [.bool _] [] Try.results21 ⟨by rfl, trivial⟩ HSub.nil ?_
      show Value.bool _ = _
      rw [decide_eq_true]
      have hkn : k = n := by omega
      subst hkn
      refine List.ext_getElem (hx.len.trans hy.len.symm) fun j h1 h2 => ?_
      have := hj j (by rw [← hx.len]; exact h1)
      simpa [List.getD_eq_getElem?_getD, h1, h2] using this
end Go.Proofs.Ythkimgfgpphgnaa.T

/- The walk of the law TankTables. -/
namespace Go.Proofs.Ythkimgfgpphgnaa.T
open Go.RowKit Go.Proofs Go.Eng
set_option maxRecDepth 100000
set_option linter.unusedVariables false
set_option linter.unusedSimpArgs false

theorem a_ep26_0 {x_0 : Int} {x_1 : Int} : ∀ w, (part 3 #[.int .i64 x_0, .int .i64 x_1] 0).run Try.prog w = .ok (.int .i64 x_0) w := fun w => by kernel_rfl
theorem a_ep26_1 {x_0 : Int} {x_1 : Int} : ∀ w, (part 3 #[.int .i64 x_0, .int .i64 x_1] 1).run Try.prog w = .ok (.int .i64 x_1) w := fun w => by kernel_rfl
theorem a_ep30_0 {x_0 : Int} {x_1 : Int} : ∀ w, (part 3 #[.int .i64 x_0, .int .i64 x_1] 0).run Try.prog w = .ok (.int .i64 x_0) w := fun w => by kernel_rfl
theorem a_ep30_1 {x_0 : Int} {x_1 : Int} : ∀ w, (part 3 #[.int .i64 x_0, .int .i64 x_1] 1).run Try.prog w = .ok (.int .i64 x_1) w := fun w => by kernel_rfl
theorem a_geqA26 {x y : Operand} {x_0 : Int} {x_1 : Int} {y_0 : Int} {y_1 : Int} : ∀ w, (eqGuard .eql 26 x y (.agg #[.int .i64 x_0, .int .i64 x_1]) (.agg #[.int .i64 y_0, .int .i64 y_1])).run Try.prog w = .ok () w := fun w => by kernel_rfl
theorem a_st26 : Try.prog.stoodInHeld 26 = false := by kernel_rfl
theorem a_st30 : Try.prog.stoodInHeld 30 = false := by kernel_rfl
theorem eq26 {x_0 : Int} {x_1 : Int} {y_0 : Int} {y_1 : Int} : ∀ w, (Op.equalIn Op.maxDepth 26 (.agg #[.int .i64 x_0, .int .i64 x_1]) (.agg #[.int .i64 y_0, .int .i64 y_1])).run Try.prog w = .ok (ieq x_0 y_0 && ieq x_1 y_1) w := fun w => by
  unfold Op.maxDepth Op.equalIn
  rw [Sem.run_bind, Try.runUnderlying26]
  simp [a_st26, a_ep26_0, eq_int (d := 9998) Try.runUnderlying3, a_ep26_1, eq_int (d := 9998) Try.runUnderlying3]
  generalize ieq x_0 y_0 = b0
  generalize ieq x_1 y_1 = b1
  cases b0 <;> cases b1 <;> simp
theorem eq30 {x_0 : Int} {x_1 : Int} {y_0 : Int} {y_1 : Int} : ∀ w, (Op.equalIn Op.maxDepth 30 (.agg #[.int .i64 x_0, .int .i64 x_1]) (.agg #[.int .i64 y_0, .int .i64 y_1])).run Try.prog w = .ok (ieq x_0 y_0 && ieq x_1 y_1) w := fun w => by
  unfold Op.maxDepth Op.equalIn
  rw [Sem.run_bind, Try.runUnderlying30]
  simp [a_st30, a_ep30_0, eq_int (d := 9998) Try.runUnderlying3, a_ep30_1, eq_int (d := 9998) Try.runUnderlying3]
  generalize ieq x_0 y_0 = b0
  generalize ieq x_1 y_1 = b1
  cases b0 <;> cases b1 <;> simp
theorem eqA26 {x y : Operand} {x_0 : Int} {x_1 : Int} {y_0 : Int} {y_1 : Int} : ∀ w, ((do eqGuard .eql 26 x y (.agg #[.int .i64 x_0, .int .i64 x_1]) (.agg #[.int .i64 y_0, .int .i64 y_1]); binOp .eql 26 (.agg #[.int .i64 x_0, .int .i64 x_1]) (.agg #[.int .i64 y_0, .int .i64 y_1])) : Sem Value).run Try.prog w = .ok (.bool (ieq x_0 y_0 && ieq x_1 y_1)) w := eq_top a_geqA26 eq26
end Go.Proofs.Ythkimgfgpphgnaa.T

/- The arguments of the laws, opened. -/
namespace Go.Proofs.Ythkimgfgpphgnaa.T
open Go.RowKit Go.Proofs Go.Eng Go.ChangeShapes Go.WideShapes Go.ChangeAt Go.Joins
set_option maxRecDepth 100000
set_option linter.unusedVariables false

section
variable {H : Type} {enc : TypeId × Value → H} {w : World} {base : Nat} {spare : Nat → Bool} {held : Bool}
end
theorem own : ownKnob Try.prog.godebug = none := by kernel_rfl
end Go.Proofs.Ythkimgfgpphgnaa.T

/- Spans, entries, logs in memory; the forms of entries. -/
namespace Go.Proofs.Ythkimgfgpphgnaa.T
open Go.RowKit Go.Proofs Go.Eng
set_option maxRecDepth 100000
set_option linter.unusedVariables false
set_option linter.unusedSimpArgs false

theorem bd116_0_1_2 {x0f : Go.Fn} {x0x x0y : Array Value} {x1f : Go.Fn} {x1x x1y : Array Value} {x2f : Go.Fn} {x2x x2y : Array Value} : ∀ w, (Instr.build 116 #[(0, .func x0f x0x x0y), (1, .func x1f x1x x1y), (2, .func x2f x2x x2y)]).run Try.prog w = .ok (.agg #[.func x0f x0x x0y, .func x1f x1x x1y, .func x2f x2x x2y]) w := fun w => by kernel_rfl
theorem bd117_1_2_3 {x1_0 : Value} {x1_1 : Value} {x1_2 : Value} {x2_0 : Value} {x2_1 : Value} {x2_2 : Value} {x3_0 : Value} {x3_1 : Value} {x3_2 : Value} : ∀ w, (Instr.build 117 #[(1, .agg #[x1_0, x1_1, x1_2]), (2, .agg #[x2_0, x2_1, x2_2]), (3, .agg #[x3_0, x3_1, x3_2])]).run Try.prog w = .ok (.agg #[.nilFunc, .nilFunc, .nilFunc, x1_0, x1_1, x1_2, x2_0, x2_1, x2_2, x3_0, x3_1, x3_2]) w := fun w => by kernel_rfl
theorem bd26_1 {x1 : Int} : ∀ w, (Instr.build 26 #[(1, .int .i64 x1)]).run Try.prog w = .ok (.agg #[.int .i64 0, .int .i64 x1]) w := fun w => by kernel_rfl

/-- A slice whose elements read as a list. -/
structure Rws {α : Type} (enc : α → List Value) (sz : Nat) (d : α) (w : World) (a : Option Addr) (n cap : Nat) (xs : List α) : Prop where
  len : xs.length = n
  le : n ≤ cap
  cell : ∀ k, k < n → ∃ b o, a = some ⟨b, o, none⟩ ∧ At w b (o + k * sz) (enc (xs.getD k d))
section
variable {α : Type} {enc : α → List Value} {sz : Nat} {d : α} {w w' : World} {a : Option Addr} {n cap : Nat} {xs : List α}
theorem Rws.below (h : Rws enc sz d w a n cap xs) (hb : Below w.heap.size w w') : Rws enc sz d w' a n cap xs :=
  ⟨h.len, h.le, fun k hk => by obtain ⟨b, o, h1, h2⟩ := h.cell k hk; exact ⟨b, o, h1, At.old hb h2⟩⟩
theorem Rws.st {C : Ctx} {H : List Blk} (h : Rws enc sz d C.w0 a n cap xs) (w : World) (hw : St C H w) : Rws enc sz d w a n cap xs := h.below hw.1
theorem Rws.at {b o : Nat} (h : Rws enc sz d w (some ⟨b, o, none⟩) n cap xs) {k : Nat} (hk : k < n) : At w b (o + k * sz) (enc (xs.getD k d)) := by
  obtain ⟨b', o', h1, h2⟩ := h.cell k hk
  simp only [Option.some.injEq, Addr.mk.injEq] at h1
  obtain ⟨rfl, rfl, _⟩ := h1
  exact h2
theorem Rws.adr (h : Rws enc sz d w a n cap xs) (hn : 0 < n) : ∃ b o, a = some ⟨b, o, none⟩ := by
  obtain ⟨b, o, h1, _⟩ := h.cell 0 hn
  exact ⟨b, o, h1⟩
theorem Rws.nil (w : World) (a : Option Addr) (cap : Nat) : Rws enc sz d w a 0 cap [] := ⟨rfl, Nat.zero_le _, fun k hk => by omega⟩
end

structure Sn where
  lo : Int
  hi : Int
deriving DecidableEq
def Sn.cells (s : Sn) : List Value := [.int .i64 s.lo, .int .i64 s.hi]
def Sn.z : Sn := ⟨0, 0⟩
structure En where
  day : Int
  kind : Int
  size : Sn
deriving DecidableEq
def En.cells (x : En) : List Value := [.int .i64 x.day, .int .i64 x.kind, .int .i64 x.size.lo, .int .i64 x.size.hi]
def En.z : En := ⟨0, 0, Sn.z⟩
abbrev Ens := Rws En.cells 4 En.z
abbrev Sns := Rws Sn.cells 2 Sn.z
structure Lg where
  tk : Tk
  start : Sn
  es : List En
def Sn.met (a b : Sn) : Sn := ⟨max a.lo b.lo, min a.hi b.hi⟩
def Sn.inB (s : Sn) (m : Int) : Bool := T.inB 0 m [s.lo, s.hi] && decide (s.lo ≤ s.hi)
def Tk.dip (t : Tk) (s : Sn) : Sn := ⟨t.up s.lo, t.down s.hi⟩
def Tk.all (t : Tk) : Sn := ⟨0, t.full⟩
def Sn.add (a b : Sn) : Sn := ⟨a.lo + b.lo, a.hi + b.hi⟩
def Sn.sub (a b : Sn) : Sn := ⟨a.lo - b.hi, a.hi - b.lo⟩
/-- Small enough for sums. -/
def Sn.Sm (s : Sn) : Prop := -1000000000 ≤ s.lo ∧ s.lo ≤ 1000000000 ∧ -1000000000 ≤ s.hi ∧ s.hi ≤ 1000000000

def formsV : List Value := [.nilFunc, .nilFunc, .nilFunc, .func (.func 135) #[] #[], .func (.func 136) #[] #[], .func (.func 137) #[] #[],
  .func (.func 135) #[] #[], .func (.func 137) #[] #[], .func (.func 136) #[] #[], .func (.func 138) #[] #[], .func (.func 139) #[] #[], .func (.func 139) #[] #[]]

theorem forms_any (w : World) : Ct Try.prog 124 #[] w fun v _ => v = .agg formsV.toArray := by
  have hF := wide_wide
  refine Ct_start (args := []) Try.func124 (by rfl) Try.ntmps124 (by rfl) ?_
  refine W_seq ?_
  refine W_region_lit (fun ds => ?_)
  refine WS_new hF (by rfl) (y_alloc Try.zeroValue117 (by rfl)) (fun b1 => ?_)
  refine WS_nil ?_
  refine Then_normal ?_
  refine W_seq ?_
  refine W_region_lit (fun ds => ?_)
  refine WS_det hF (by rfl) (y_assign (c := _) (by rfl)) ?_
  refine WS_nil ?_
  refine Then_normal ?_
  refine W_seq ?_
  refine W_region_lit (fun ds => ?_)
  refine WS_det hF (by rfl) (y_move (c := _) (by rfl)) ?_
  refine WS_det hF (by rfl) (y_buildL bd116_0_1_2 (by rfl)) ?_
  refine WS_det hF (by rfl) (y_move (c := _) (by rfl)) ?_
  refine WS_det hF (by rfl) (y_buildL bd116_0_1_2 (by rfl)) ?_
  refine WS_det hF (by rfl) (y_buildL bd116_0_1_2 (by rfl)) ?_
  refine WS_det hF (by rfl) (y_buildL bd117_1_2_3 (by rfl)) ?_
  refine WS_store hF (i := 0) (by rfl) (by rfl) Try.sizeOf117 (by rfl) (by rfl) (by rfl) (by first | decide | exact Nat.le_of_ble_eq_true rfl | simp) ?_
  refine WS_nil ?_
  refine Then_normal ?_
  refine W_ret ?_
  refine Fin_ret [_] [] Try.results124 ⟨lvN (by rfl) Try.isAgg117 Try.sizeOf117 (Mem.own (us := [_, _, _, _, _, _, _, _, _, _, _, _]) 0 (by rfl) (by rfl)) (by rfl), trivial⟩ HSub.nil ?_
  rfl
theorem forms1_any (g og : Nat) (t : Tk) (x y : Int) (w : World) (hG : Gg w g og t) :
    Ct Try.prog 135 #[.pointer (some ⟨g, og, none⟩), .agg #[.int .i64 x, .int .i64 y]] w fun v _ => v = .bool (Sn.inB ⟨x, y⟩ t.full) := by
  obtain ⟨hok, a, cap, hg, hx⟩ := hG
  have hF := wide_wide
  refine Ct_start (args := [_, _]) Try.func135 (by rfl) Try.ntmps135 (by rfl) ?_
  refine W_seq ?_
  refine W_region_lit (fun ds => ?_)
  refine WS_new hF (by rfl) (y_box (by rfl)) (fun b1 => ?_)
  refine WS_det hF (by rfl) (y_assign (c := .bool _) (by rfl)) ?_
  refine WS_nil ?_
  refine Then_normal ?_
  refine W_seq ?_
  refine W_draw0 hF Trymixed [] (by decide +kernel) (fun ds => ?_)
  refine P_det (by rfl) (Over_nil (y_loadN (by rfl) Try.isAgg26 Try.sizeOf26 (Mem.own (us := [.int .i64 _, .int .i64 _]) 0 (by rfl) (by rfl)) (by rfl))) ?_
  refine P_det (by rfl) (Over_nil (y_move (c := .pointer _) (by rfl))) ?_
  refine P_det (by rfl) (Over_nil (by first | exact y_nilCheck (by rfl) | exact y_nilCheckF (by rfl))) ?_
  refine P_det (by rfl) (Over_nil (y_fieldAddr (by rfl) fa98_1)) ?_
  refine P_det (by rfl) (Over_nil (y_load1 (by rfl) Try.isAgg3 (by first | exact Mem.old1 (by assumption) | exact Mem.oldAt1 (by assumption) (by rfl) | exact Mem.old (by assumption) | exact Mem.oldAtL1 (by assumption) (by rfl) (by rfl)))) ?_
  refine P_det (by rfl) (Over_nil (y_callL (by rfl) (by rfl) Try.call72 (fun w hw => span_any _ _ _ w))) ?_
  refine P_det (by rfl) (Over_nil (y_assign (c := .bool _) (by rfl))) ?_
  refine PW_end (by rfl) ?_
  refine OverAll_nil ?_
  rintro -
  refine Then_normal ?_
  refine W_ret ?_
  refine Fin_ret [.bool _] [] Try.results135 ⟨by rfl, trivial⟩ HSub.nil ?_
  rfl
theorem forms2_any (g og : Nat) (t : Tk) (x y : Int) (w : World) (hG : Gg w g og t) :
    Ct Try.prog 138 #[.pointer (some ⟨g, og, none⟩), .agg #[.int .i64 x, .int .i64 y]] w fun v _ => v = .bool (Sn.inB ⟨x, y⟩ t.height) := by
  obtain ⟨hok, a, cap, hg, hx⟩ := hG
  have hF := wide_wide
  refine Ct_start (args := [_, _]) Try.func138 (by rfl) Try.ntmps138 (by rfl) ?_
  refine W_seq ?_
  refine W_region_lit (fun ds => ?_)
  refine WS_new hF (by rfl) (y_box (by rfl)) (fun b1 => ?_)
  refine WS_det hF (by rfl) (y_assign (c := .bool _) (by rfl)) ?_
  refine WS_nil ?_
  refine Then_normal ?_
  refine W_seq ?_
  refine W_draw0 hF Trymixed [] (by decide +kernel) (fun ds => ?_)
  refine P_det (by rfl) (Over_nil (y_loadN (by rfl) Try.isAgg26 Try.sizeOf26 (Mem.own (us := [.int .i64 _, .int .i64 _]) 0 (by rfl) (by rfl)) (by rfl))) ?_
  refine P_det (by rfl) (Over_nil (y_move (c := .pointer _) (by rfl))) ?_
  refine P_det (by rfl) (Over_nil (by first | exact y_nilCheck (by rfl) | exact y_nilCheckF (by rfl))) ?_
  refine P_det (by rfl) (Over_nil (y_fieldAddr (by rfl) fa98_2)) ?_
  refine P_det (by rfl) (Over_nil (y_load1 (by rfl) Try.isAgg3 (by first | exact Mem.old1 (by assumption) | exact Mem.oldAt1 (by assumption) (by rfl) | exact Mem.old (by assumption) | exact Mem.oldAtL1 (by assumption) (by rfl) (by rfl)))) ?_
  refine P_det (by rfl) (Over_nil (y_callL (by rfl) (by rfl) Try.call72 (fun w hw => span_any _ _ _ w))) ?_
  refine P_det (by rfl) (Over_nil (y_assign (c := .bool _) (by rfl))) ?_
  refine PW_end (by rfl) ?_
  refine OverAll_nil ?_
  rintro -
  refine Then_normal ?_
  refine W_ret ?_
  refine Fin_ret [.bool _] [] Try.results138 ⟨by rfl, trivial⟩ HSub.nil ?_
  rfl
theorem more_any (g og : Nat) (t : Tk) (s h : Sn) (w : World) (hG : Gg w g og t) (hs : s.Sm) (hh : h.Sm) :
    Ct Try.prog 136 #[.pointer (some ⟨g, og, none⟩), .agg s.cells.toArray, .agg h.cells.toArray] w fun v _ => v = .agg ((h.add s).met t.all).cells.toArray := by
  obtain ⟨hok, a, cap, hg, hx⟩ := hG
  unfold Sn.Sm at hs hh
  have hF := wide_wide
  refine Ct_start (args := [_, _, _]) Try.func136 (by rfl) Try.ntmps136 (by rfl) ?_
  refine W_seq ?_
  refine W_region_lit (fun ds => ?_)
  refine WS_new hF (by rfl) (y_box (by rfl)) (fun b1 => ?_)
  refine WS_new hF (by rfl) (y_box (by rfl)) (fun b2 => ?_)
  refine WS_new hF (by rfl) (y_alloc Try.zeroValue26 (by rfl)) (fun b3 => ?_)
  refine WS_nil ?_
  refine Then_normal ?_
  refine W_seq ?_
  apply W_draw1 hF Trymixed [1000000] (i := 0) (by rfl) (by decide +kernel)
  intro ds
  refine P_det (by rfl) (Over_out (by rfl) (Over_nil (y_fieldAddr (by rfl) fa26_0))) ?_
  refine P_det (by rfl) (Over_out (by rfl) (Over_nil (y_load1 (by rfl) Try.isAgg3 (Mem.own1 0 (by rfl) (by rfl))))) ?_
  refine P_det (by rfl) (Over_out (by rfl) (Over_nil (y_fieldAddr (by rfl) fa26_0))) ?_
  refine P_det (by rfl) (Over_out (by rfl) (Over_nil (y_load1 (by rfl) Try.isAgg3 (Mem.own1 1 (by rfl) (by rfl))))) ?_
  refine P_det (by rfl) (Over_out (by rfl) (Over_nil (y_add (by rfl) (by rfl) (by unfold I64; omega)))) ?_
  refine P_det (by rfl) (Over_out (by rfl) (Over_nil (y_fieldAddr (by rfl) fa26_1))) ?_
  refine P_det (by rfl) (Over_out (by rfl) (Over_nil (y_load1 (by rfl) Try.isAgg3 (Mem.own1 0 (by rfl) (by rfl))))) ?_
  refine P_det (by rfl) (Over_out (by rfl) (Over_nil (y_fieldAddr (by rfl) fa26_1))) ?_
  refine P_det (by rfl) (Over_out (by rfl) (Over_nil (y_load1 (by rfl) Try.isAgg3 (Mem.own1 1 (by rfl) (by rfl))))) ?_
  refine P_det (by rfl) (Over_out (by rfl) (Over_nil (y_add (by rfl) (by rfl) (by unfold I64; omega)))) ?_
  refine P_det (by rfl) (Over_out (by rfl) (Over_nil (y_buildL bd26_0_1 (by rfl)))) ?_
  refine P_det (by rfl) (Over_out (by rfl) (Over_nil (y_move (c := .pointer _) (by rfl)))) ?_
  refine P_det (by rfl) (Over_out (by rfl) (Over_nil (by first | exact y_nilCheck (by rfl) | exact y_nilCheckF (by rfl)))) ?_
  refine P_det (by rfl) (Over_out (by rfl) (Over_nil (y_fieldAddr (by rfl) fa98_1))) ?_
  refine P_det (by rfl) (Over_out (by rfl) (Over_nil (y_load1 (by rfl) Try.isAgg3 (by first | exact Mem.old1 (by assumption) | exact Mem.oldAt1 (by assumption) (by rfl) | exact Mem.old (by assumption) | exact Mem.oldAtL1 (by assumption) (by rfl) (by rfl))))) ?_
  refine P_det (by rfl) (Over_out (by rfl) (Over_nil (y_buildL bd26_1 (by rfl)))) ?_
  refine P_det (by rfl) (Over_out (by rfl) (Over_nil (y_callL (by rfl) (by rfl) Try.call109 (fun w hw => met_any _ _ _ _ w)))) ?_
  refine P_st 1000000 0 (by rfl) (by rfl) (by rfl) (by rfl) (by rfl) (Over_nil (st_pre (fun _ => by rfl) (fun _ => by rfl) Try.sizeOf26 (by rfl) (by rfl) (by first | decide | exact Nat.le_of_ble_eq_true rfl | simp))) ?_
  refine PW_end (by rfl) ?_
  refine OverAll_cons (fun w1000000 l1000000 => ?_)
  refine OverAll_nil ?_
  rintro ⟨-, h1000000⟩
  obtain rfl := h1000000
  refine Then_normal ?_
  refine W_ret ?_
  refine Fin_ret [_] [] Try.results136 ⟨lvN (by rfl) Try.isAgg26 Try.sizeOf26 (Mem.own (us := [.int .i64 _, .int .i64 _]) 0 (by rfl) (by rfl)) (by rfl), trivial⟩ HSub.nil ?_
  rfl
theorem tless_any (g og : Nat) (t : Tk) (s h : Sn) (w : World) (hG : Gg w g og t) (hs : s.Sm) (hh : h.Sm) :
    Ct Try.prog 137 #[.pointer (some ⟨g, og, none⟩), .agg s.cells.toArray, .agg h.cells.toArray] w fun v _ => v = .agg ((h.sub s).met t.all).cells.toArray := by
  obtain ⟨hok, a, cap, hg, hx⟩ := hG
  unfold Sn.Sm at hs hh
  have hF := wide_wide
  refine Ct_start (args := [_, _, _]) Try.func137 (by rfl) Try.ntmps137 (by rfl) ?_
  refine W_seq ?_
  refine W_region_lit (fun ds => ?_)
  refine WS_new hF (by rfl) (y_box (by rfl)) (fun b1 => ?_)
  refine WS_new hF (by rfl) (y_box (by rfl)) (fun b2 => ?_)
  refine WS_new hF (by rfl) (y_alloc Try.zeroValue26 (by rfl)) (fun b3 => ?_)
  refine WS_nil ?_
  refine Then_normal ?_
  refine W_seq ?_
  apply W_draw1 hF Trymixed [1000000] (i := 0) (by rfl) (by decide +kernel)
  intro ds
  refine P_det (by rfl) (Over_out (by rfl) (Over_nil (y_fieldAddr (by rfl) fa26_0))) ?_
  refine P_det (by rfl) (Over_out (by rfl) (Over_nil (y_load1 (by rfl) Try.isAgg3 (Mem.own1 0 (by rfl) (by rfl))))) ?_
  refine P_det (by rfl) (Over_out (by rfl) (Over_nil (y_fieldAddr (by rfl) fa26_1))) ?_
  refine P_det (by rfl) (Over_out (by rfl) (Over_nil (y_load1 (by rfl) Try.isAgg3 (Mem.own1 1 (by rfl) (by rfl))))) ?_
  refine P_det (by rfl) (Over_out (by rfl) (Over_nil (y_sub (by rfl) (by rfl) (by unfold I64; omega)))) ?_
  refine P_det (by rfl) (Over_out (by rfl) (Over_nil (y_fieldAddr (by rfl) fa26_1))) ?_
  refine P_det (by rfl) (Over_out (by rfl) (Over_nil (y_load1 (by rfl) Try.isAgg3 (Mem.own1 0 (by rfl) (by rfl))))) ?_
  refine P_det (by rfl) (Over_out (by rfl) (Over_nil (y_fieldAddr (by rfl) fa26_0))) ?_
  refine P_det (by rfl) (Over_out (by rfl) (Over_nil (y_load1 (by rfl) Try.isAgg3 (Mem.own1 1 (by rfl) (by rfl))))) ?_
  refine P_det (by rfl) (Over_out (by rfl) (Over_nil (y_sub (by rfl) (by rfl) (by unfold I64; omega)))) ?_
  refine P_det (by rfl) (Over_out (by rfl) (Over_nil (y_buildL bd26_0_1 (by rfl)))) ?_
  refine P_det (by rfl) (Over_out (by rfl) (Over_nil (y_move (c := .pointer _) (by rfl)))) ?_
  refine P_det (by rfl) (Over_out (by rfl) (Over_nil (by first | exact y_nilCheck (by rfl) | exact y_nilCheckF (by rfl)))) ?_
  refine P_det (by rfl) (Over_out (by rfl) (Over_nil (y_fieldAddr (by rfl) fa98_1))) ?_
  refine P_det (by rfl) (Over_out (by rfl) (Over_nil (y_load1 (by rfl) Try.isAgg3 (by first | exact Mem.old1 (by assumption) | exact Mem.oldAt1 (by assumption) (by rfl) | exact Mem.old (by assumption) | exact Mem.oldAtL1 (by assumption) (by rfl) (by rfl))))) ?_
  refine P_det (by rfl) (Over_out (by rfl) (Over_nil (y_buildL bd26_1 (by rfl)))) ?_
  refine P_det (by rfl) (Over_out (by rfl) (Over_nil (y_callL (by rfl) (by rfl) Try.call109 (fun w hw => met_any _ _ _ _ w)))) ?_
  refine P_st 1000000 0 (by rfl) (by rfl) (by rfl) (by rfl) (by rfl) (Over_nil (st_pre (fun _ => by rfl) (fun _ => by rfl) Try.sizeOf26 (by rfl) (by rfl) (by first | decide | exact Nat.le_of_ble_eq_true rfl | simp))) ?_
  refine PW_end (by rfl) ?_
  refine OverAll_cons (fun w1000000 l1000000 => ?_)
  refine OverAll_nil ?_
  rintro ⟨-, h1000000⟩
  obtain rfl := h1000000
  refine Then_normal ?_
  refine W_ret ?_
  refine Fin_ret [_] [] Try.results137 ⟨lvN (by rfl) Try.isAgg26 Try.sizeOf26 (Mem.own (us := [.int .i64 _, .int .i64 _]) 0 (by rfl) (by rfl)) (by rfl), trivial⟩ HSub.nil ?_
  rfl
theorem seen_any (g og : Nat) (t : Tk) (s h : Sn) (w : World) (hG : Gg w g og t) (hs : s.inB t.height = true) :
    Ct Try.prog 139 #[.pointer (some ⟨g, og, none⟩), .agg s.cells.toArray, .agg h.cells.toArray] w fun v _ => v = .agg (h.met (t.dip s)).cells.toArray := by
  obtain ⟨s0, s1⟩ := s
  obtain ⟨h0, h1⟩ := h
  unfold Sn.inB at hs
  rw [Bool.and_eq_true, inB2] at hs
  have hF := wide_wide
  refine Ct_start (args := [_, _, _]) Try.func139 (by rfl) Try.ntmps139 (by rfl) ?_
  refine W_seq ?_
  refine W_region_lit (fun ds => ?_)
  refine WS_new hF (by rfl) (y_box (by rfl)) (fun b1 => ?_)
  refine WS_new hF (by rfl) (y_box (by rfl)) (fun b2 => ?_)
  refine WS_new hF (by rfl) (y_alloc Try.zeroValue26 (by rfl)) (fun b3 => ?_)
  refine WS_nil ?_
  refine Then_normal ?_
  refine W_seq ?_
  apply W_draw1 hF Trymixed [1000000] (i := 0) (by rfl) (by decide +kernel)
  intro ds
  refine P_det (by rfl) (Over_out (by rfl) (Over_nil (y_loadN (by rfl) Try.isAgg26 Try.sizeOf26 (Mem.own (us := [.int .i64 _, .int .i64 _]) 0 (by rfl) (by rfl)) (by rfl)))) ?_
  refine P_det (by rfl) (Over_out (by rfl) (Over_nil (y_move (c := .pointer _) (by rfl)))) ?_
  refine P_det (by rfl) (Over_out (by rfl) (Over_nil (y_loadN (by rfl) Try.isAgg26 Try.sizeOf26 (Mem.own (us := [.int .i64 _, .int .i64 _]) 1 (by rfl) (by rfl)) (by rfl)))) ?_
  refine P_det (by rfl) (Over_out (by rfl) (Over_nil (y_callL (by rfl) (by rfl) Try.call73 (fun w hw => dip_any _ _ t s0 s1 w (hG.st w hw) hs.1.1.1 hs.1.1.2 hs.1.2.1 hs.1.2.2)))) ?_
  refine P_det (by rfl) (Over_out (by rfl) (Over_nil (y_callL (by rfl) (by rfl) Try.call109 (fun w hw => met_any _ _ _ _ w)))) ?_
  refine P_st 1000000 0 (by rfl) (by rfl) (by rfl) (by rfl) (by rfl) (Over_nil (st_pre (fun _ => by rfl) (fun _ => by rfl) Try.sizeOf26 (by rfl) (by rfl) (by first | decide | exact Nat.le_of_ble_eq_true rfl | simp))) ?_
  refine PW_end (by rfl) ?_
  refine OverAll_cons (fun w1000000 l1000000 => ?_)
  refine OverAll_nil ?_
  rintro ⟨-, h1000000⟩
  obtain rfl := h1000000
  refine Then_normal ?_
  refine W_ret ?_
  refine Fin_ret [_] [] Try.results139 ⟨lvN (by rfl) Try.isAgg26 Try.sizeOf26 (Mem.own (us := [.int .i64 _, .int .i64 _]) 0 (by rfl) (by rfl)) (by rfl), trivial⟩ HSub.nil ?_
  rfl
end Go.Proofs.Ythkimgfgpphgnaa.T

/- The arguments of the laws of logs, opened. -/
namespace Go.Proofs.Ythkimgfgpphgnaa.T
open Go.RowKit Go.Proofs Go.Eng Go.ChangeShapes Go.WideShapes Go.ChangeAt Go.Joins Go.Deep
set_option maxRecDepth 100000
set_option linter.unusedVariables false

section
variable {H : Type} {enc : TypeId × Value → H} {w : World} {base : Nat} {spare : Nat → Bool} {held : Bool}
end
end Go.Proofs.Ythkimgfgpphgnaa.T

/- More arguments of the laws, opened. -/
namespace Go.Proofs.Ythkimgfgpphgnaa.T
open Go.RowKit Go.Proofs Go.Eng Go.ChangeShapes Go.WideShapes Go.ChangeAt Go.Joins Go.Deep
set_option maxRecDepth 100000
set_option linter.unusedVariables false
section
variable {H : Type} {enc : TypeId × Value → H} {w : World} {base : Nat} {spare : Nat → Bool} {held : Bool}
end
end Go.Proofs.Ythkimgfgpphgnaa.T

/- Logs that are valid; a book in memory; drip, before, after. -/
namespace Go.Proofs.Ythkimgfgpphgnaa.T
open Go.RowKit Go.Proofs Go.Eng
set_option maxRecDepth 100000
set_option linter.unusedVariables false
set_option linter.unusedSimpArgs false

theorem fa116_1 : ∀ b o w, (Instr.fieldAt 116 (.pointer (some ⟨b, o, none⟩)) 1).run Try.prog w = .ok (.pointer (some ⟨b, o + 1, none⟩)) w := fun b o w => by kernel_rfl
theorem fa119_0 : ∀ b o w, (Instr.fieldAt 119 (.pointer (some ⟨b, o, none⟩)) 0).run Try.prog w = .ok (.pointer (some ⟨b, o + 0, none⟩)) w := fun b o w => by kernel_rfl
theorem fa119_1 : ∀ b o w, (Instr.fieldAt 119 (.pointer (some ⟨b, o, none⟩)) 1).run Try.prog w = .ok (.pointer (some ⟨b, o + 1, none⟩)) w := fun b o w => by kernel_rfl
theorem fa119_2 : ∀ b o w, (Instr.fieldAt 119 (.pointer (some ⟨b, o, none⟩)) 2).run Try.prog w = .ok (.pointer (some ⟨b, o + 7, none⟩)) w := fun b o w => by kernel_rfl
theorem fa46_2 : ∀ b o w, (Instr.fieldAt 46 (.pointer (some ⟨b, o, none⟩)) 2).run Try.prog w = .ok (.pointer (some ⟨b, o + 5, none⟩)) w := fun b o w => by kernel_rfl
theorem fa48_0 : ∀ b o w, (Instr.fieldAt 48 (.pointer (some ⟨b, o, none⟩)) 0).run Try.prog w = .ok (.pointer (some ⟨b, o + 0, none⟩)) w := fun b o w => by kernel_rfl
theorem fa48_1 : ∀ b o w, (Instr.fieldAt 48 (.pointer (some ⟨b, o, none⟩)) 1).run Try.prog w = .ok (.pointer (some ⟨b, o + 1, none⟩)) w := fun b o w => by kernel_rfl
theorem fa48_2 : ∀ b o w, (Instr.fieldAt 48 (.pointer (some ⟨b, o, none⟩)) 2).run Try.prog w = .ok (.pointer (some ⟨b, o + 2, none⟩)) w := fun b o w => by kernel_rfl

def Lg.e (l : Lg) (k : Nat) : En := l.es.getD k En.z
def Tk.most (t : Tk) (kind : Int) : Int := if kind = 3 then t.height else t.full
def Tk.entB (t : Tk) (day : Int) (x : En) : Bool := inB day 3652 [x.day] && inB 1 3 [x.kind] && x.size.inB (t.most x.kind)
def Tk.entsB (t : Tk) : Int → List En → Bool
  | _, [] => true
  | day, x :: l => t.entB day x && t.entsB x.day l
def Lg.okB (l : Lg) : Bool := l.start.inB l.tk.full && decide (l.es.length ≤ 12) && l.tk.entsB 0 l.es
structure Lg.Ok (l : Lg) : Prop where
  tk : l.tk.Ok
  start : l.start.inB l.tk.full = true
  n12 : l.es.length ≤ 12
  day : ∀ k, k < l.es.length → 0 ≤ (l.e k).day ∧ (l.e k).day ≤ 3652
  mono : ∀ k, k + 1 < l.es.length → (l.e k).day ≤ (l.e (k + 1)).day
  kind : ∀ k, k < l.es.length → 1 ≤ (l.e k).kind ∧ (l.e k).kind ≤ 3
  size : ∀ k, k < l.es.length → (l.e k).size.inB (l.tk.most (l.e k).kind) = true
theorem Sn.inB_iff {s : Sn} {m : Int} : s.inB m = true ↔ 0 ≤ s.lo ∧ s.lo ≤ s.hi ∧ s.hi ≤ m := by
  unfold Sn.inB
  rw [Bool.and_eq_true, inB2, decide_eq_true_eq]; omega
theorem Lg.Ok.sm {l : Lg} (h : l.Ok) {k : Nat} (hk : k < l.es.length) : (l.e k).size.Sm := by
  have h1 := Sn.inB_iff.1 (h.size k hk)
  have h2 := h.tk.full_bd
  have h3 := h.tk.n21
  have h4 := h.tk.n2
  unfold Tk.most Tk.height at h1
  unfold Sn.Sm
  split at h1 <;> omega
def Lg.drip (l : Lg) (i : Nat) : Int := if i = 0 then 0 else l.tk.leak * ((l.e i).day - (l.e (i - 1)).day)
def Lg.before (l : Lg) (i : Nat) (s : Sn) : Sn := ⟨max 0 (s.lo - l.drip i), s.hi⟩
/-- Forth, by a kind. -/
def Tk.forth (t : Tk) (x : En) (s : Sn) : Sn := if x.kind = 1 then (s.add x.size).met t.all else if x.kind = 2 then (s.sub x.size).met t.all else s.met (t.dip x.size)
def Tk.back (t : Tk) (x : En) (s : Sn) : Sn := if x.kind = 1 then (s.sub x.size).met t.all else if x.kind = 2 then (s.add x.size).met t.all else s.met (t.dip x.size)
def Lg.after (l : Lg) (i : Nat) (s : Sn) : Sn := l.tk.forth (l.e i) (l.before i s)
theorem Lg.Ok.drip_bd {l : Lg} (h : l.Ok) {i : Nat} (hi : i < l.es.length) : 0 ≤ l.drip i ∧ l.drip i ≤ 182600 := by
  unfold Lg.drip
  split
  · omega
  · have h1 := h.mono (i - 1) (by omega)
    rw [show i - 1 + 1 = i by omega] at h1
    have h2 := h.day i hi
    have h3 := h.day (i - 1) (by omega)
    have := mul_bd h.tk.leak0 h.tk.leak1 (show 0 ≤ (l.e i).day - (l.e (i - 1)).day by omega) (show (l.e i).day - (l.e (i - 1)).day ≤ 3652 by omega)
    omega

def bookCells (g : Nat) (l : Lg) (a : Option Addr) (cap : Nat) (ae : Option Addr) (cape : Nat) : List Value :=
  [.pointer (some ⟨g, 0, none⟩), .slice a l.tk.n cap, .int .i64 l.tk.leak, .int .i64 l.tk.foot, .int .i64 l.start.lo, .int .i64 l.start.hi, .slice ae l.es.length cape] ++ formsV
/-- A book in memory. -/
structure Bk (w : World) (bk : Nat) (l : Lg) : Prop where
  ok : l.Ok
  ex : ∃ g a cap ae cape, At w bk 0 (bookCells g l a cap ae cape) ∧ Gg w g 0 l.tk ∧ Ens w ae l.es.length cape l.es
theorem Bk.below {w w' : World} {bk : Nat} {l : Lg} (h : Bk w bk l) (hb : Below w.heap.size w w') : Bk w' bk l := by
  obtain ⟨hok, g, a, cap, ae, cape, h1, h2, h3⟩ := h
  exact ⟨hok, g, a, cap, ae, cape, At.old hb h1, h2.below hb, h3.below hb⟩
theorem Bk.st {C : Ctx} {H : List Blk} {bk : Nat} {l : Lg} (h : Bk C.w0 bk l) (w : World) (hw : St C H w) : Bk w bk l := h.below hw.1

theorem drip_any (bk : Nat) (l : Lg) (i : Nat) (w : World) (hB : Bk w bk l) (hi : i < l.es.length) :
    Ct Try.prog 111 #[.pointer (some ⟨bk, 0, none⟩), .int .i64 (i : Int)] w fun v _ => v = .int .i64 (l.drip i) := by
  obtain ⟨hok, g, a, cap, ae, cape, h1, ⟨_, a2, cap2, hg, _⟩, h3⟩ := hB
  obtain ⟨b, o, rfl⟩ := h3.adr (by omega)
  have hd := hok.drip_bd hi
  have h12 := hok.n12
  have hF := wide_wide
  refine Ct_start (args := [_, _]) Try.func111 (by rfl) Try.ntmps111 (by rfl) ?_
  refine W_seq ?_
  refine W_region_lit (fun ds => ?_)
  refine WS_det hF (by rfl) (y_assign (c := .int .i64 _) (by rfl)) ?_
  refine WS_nil ?_
  refine Then_normal ?_
  refine W_seq ?_
  refine W_seq ?_
  refine W_region_lit (fun ds => ?_)
  refine WS_det hF (by rfl) (y_move (c := .int .i64 _) (by rfl)) ?_
  refine WS_det hF (by rfl) (y_eql (by rfl) (by rfl)) ?_
  refine WS_nil ?_
  refine Then_normal ?_
  refine W_cond (by rfl) (fun c1 => ?_) (fun c1 => ?_)
  ·
    try simp only [Bool.not_eq_true', Bool.not_eq_false', decide_eq_true_eq, decide_eq_false_iff_not, ne_eq, Classical.not_not, Int.not_lt, Int.not_le] at c1
    refine W_seq ?_
    refine W_region_lit (fun ds => ?_)
    refine WS_det hF (by rfl) (y_assign (c := .int .i64 _) (by rfl)) ?_
    refine WS_nil ?_
    refine Then_normal ?_
    refine W_ret ?_
    refine Then_ret ?_
    refine Fin_ret [.int .i64 _] [] Try.results111 ⟨by rfl, trivial⟩ HSub.nil ?_
    have hi0 : i = 0 := by omega
    subst hi0
    show Value.int _ _ = _
    rfl
  ·
    try simp only [Bool.not_eq_true', Bool.not_eq_false', decide_eq_true_eq, decide_eq_false_iff_not, ne_eq, Classical.not_not, Int.not_lt, Int.not_le] at c1
    have hi0 : ¬ i = 0 := by omega
    have e1 : At w b (o + i * 4) (l.e i).cells := h3.at hi
    have e0 : At w b (o + (i - 1) * 4) (l.e (i - 1)).cells := h3.at (k := i - 1) (by omega)
    have d1 := hok.day i hi
    have d0 := hok.day (i - 1) (by omega)
    rw [Lg.drip, if_neg hi0] at hd ⊢
    refine W_skip ?_
    refine Then_normal ?_
    refine W_seq ?_
    refine W_draw0 hF Trymixed [] (by decide +kernel) (fun ds => ?_)
    refine P_det (by rfl) (Over_nil (y_move (c := .pointer _) (by rfl))) ?_
    refine P_det (by rfl) (Over_nil (by first | exact y_nilCheck (by rfl) | exact y_nilCheckF (by rfl))) ?_
    refine P_det (by rfl) (Over_nil (y_fieldAddr (by rfl) fa119_0)) ?_
    refine P_det (by rfl) (Over_nil (y_load1 (by rfl) Try.isAgg93 (by first | exact Mem.old1 (by assumption) | exact Mem.oldAt1 (by assumption) (by rfl) | exact Mem.old (by assumption) | exact Mem.oldAtL1 (by assumption) (by rfl) (by rfl)))) ?_
    refine P_det (by rfl) (Over_nil (by first | exact y_nilCheck (by rfl) | exact y_nilCheckF (by rfl))) ?_
    refine P_det (by rfl) (Over_nil (y_fieldAddr (by rfl) fa98_0)) ?_
    refine P_det (by rfl) (Over_nil (y_fieldAddr (by rfl) fa24_1)) ?_
    refine P_det (by rfl) (Over_nil (y_load1 (by rfl) Try.isAgg3 (by first | exact Mem.old1 (by assumption) | exact Mem.oldAt1 (by assumption) (by rfl) | exact Mem.old (by assumption) | exact Mem.oldAtL1 (by assumption) (by rfl) (by rfl)))) ?_
    refine P_det (by rfl) (Over_nil (y_move (c := .pointer _) (by rfl))) ?_
    refine P_det (by rfl) (Over_nil (by first | exact y_nilCheck (by rfl) | exact y_nilCheckF (by rfl))) ?_
    refine P_det (by rfl) (Over_nil (y_fieldAddr (by rfl) fa119_1)) ?_
    refine P_det (by rfl) (Over_nil (y_fieldAddr (by rfl) fa46_2)) ?_
    refine P_det (by rfl) (Over_nil (y_load1 (by rfl) Try.isAgg44 (by first | exact Mem.old1 (by assumption) | exact Mem.oldAt1 (by assumption) (by rfl) | exact Mem.old (by assumption) | exact Mem.oldAtL1 (by assumption) (by rfl) (by rfl)))) ?_
    refine P_det (by rfl) (Over_nil (y_move (c := .int .i64 _) (by rfl))) ?_
    refine P_det (by rfl) (Over_nil (y_index (k := i) (by rfl) (by rfl) (by first | rfl | omega) (by first | decide | omega) Try.runUnderlying44 Try.sizeOf48)) ?_
    refine P_det (by rfl) (Over_nil (y_fieldAddr (by rfl) fa48_0)) ?_
    refine P_det (by rfl) (Over_nil (y_load1 (by rfl) Try.isAgg3 (by first | exact Mem.old1 (by assumption) | exact Mem.oldAt1 (by assumption) (by rfl) | exact Mem.old (by assumption) | exact Mem.oldAtL1 (by assumption) (by rfl) (by rfl)))) ?_
    refine P_det (by rfl) (Over_nil (y_move (c := .pointer _) (by rfl))) ?_
    refine P_det (by rfl) (Over_nil (by first | exact y_nilCheck (by rfl) | exact y_nilCheckF (by rfl))) ?_
    refine P_det (by rfl) (Over_nil (y_fieldAddr (by rfl) fa119_1)) ?_
    refine P_det (by rfl) (Over_nil (y_fieldAddr (by rfl) fa46_2)) ?_
    refine P_det (by rfl) (Over_nil (y_load1 (by rfl) Try.isAgg44 (by first | exact Mem.old1 (by assumption) | exact Mem.oldAt1 (by assumption) (by rfl) | exact Mem.old (by assumption) | exact Mem.oldAtL1 (by assumption) (by rfl) (by rfl)))) ?_
    refine P_det (by rfl) (Over_nil (y_move (c := .int .i64 _) (by rfl))) ?_
    refine P_det (by rfl) (Over_nil (y_sub (by rfl) (by rfl) (by unfold I64; omega))) ?_
    refine P_det (by rfl) (Over_nil (y_index (k := i - 1) (by rfl) (by rfl) (by first | rfl | omega) (by first | decide | omega) Try.runUnderlying44 Try.sizeOf48)) ?_
    refine P_det (by rfl) (Over_nil (y_fieldAddr (by rfl) fa48_0)) ?_
    refine P_det (by rfl) (Over_nil (y_load1 (by rfl) Try.isAgg3 (by first | exact Mem.old1 (by assumption) | exact Mem.oldAt1 (by assumption) (by rfl) | exact Mem.old (by assumption) | exact Mem.oldAtL1 (by assumption) (by rfl) (by rfl)))) ?_
    refine P_det (by rfl) (Over_nil (y_sub (by rfl) (by rfl) (by unfold I64; omega))) ?_
    refine P_det (by rfl) (Over_nil (y_mul (by rfl) (by rfl) (by unfold I64; omega))) ?_
    refine P_det (by rfl) (Over_nil (y_assign (c := .int .i64 _) (by rfl))) ?_
    refine PW_end (by rfl) ?_
    refine OverAll_nil ?_
    rintro -
    refine Then_normal ?_
    refine W_ret ?_
    refine Fin_ret [.int .i64 _] [] Try.results111 ⟨by rfl, trivial⟩ HSub.nil ?_
    rfl
theorem before_any (bk : Nat) (l : Lg) (i : Nat) (s : Sn) (w : World) (hB : Bk w bk l) (hi : i < l.es.length) (hs : s.Sm) :
    Ct Try.prog 108 #[.pointer (some ⟨bk, 0, none⟩), .int .i64 (i : Int), .agg s.cells.toArray] w fun v _ => v = .agg (l.before i s).cells.toArray := by
  have hd := hB.ok.drip_bd hi
  unfold Sn.Sm at hs
  have hF := wide_wide
  refine Ct_start (args := [_, _, _]) Try.func108 (by rfl) Try.ntmps108 (by rfl) ?_
  refine W_seq ?_
  refine W_region_lit (fun ds => ?_)
  refine WS_new hF (by rfl) (y_box (by rfl)) (fun b1 => ?_)
  refine WS_new hF (by rfl) (y_alloc Try.zeroValue26 (by rfl)) (fun b2 => ?_)
  refine WS_nil ?_
  refine Then_normal ?_
  refine W_seq ?_
  apply W_draw1 hF Trymixed [1000000] (i := 0) (by rfl) (by decide +kernel)
  intro ds
  refine P_det (by rfl) (Over_out (by rfl) (Over_nil (y_fieldAddr (by rfl) fa26_0))) ?_
  refine P_det (by rfl) (Over_out (by rfl) (Over_nil (y_load1 (by rfl) Try.isAgg3 (Mem.own1 0 (by rfl) (by rfl))))) ?_
  refine P_det (by rfl) (Over_out (by rfl) (Over_nil (y_move (c := .pointer _) (by rfl)))) ?_
  refine P_det (by rfl) (Over_out (by rfl) (Over_nil (y_move (c := .int .i64 _) (by rfl)))) ?_
  refine P_det (by rfl) (Over_out (by rfl) (Over_nil (y_callL (by rfl) (by rfl) Try.call111 (fun w hw => drip_any bk l i w (hB.st w hw) hi)))) ?_
  refine P_det (by rfl) (Over_out (by rfl) (Over_nil (y_sub (by rfl) (by rfl) (by unfold I64; omega)))) ?_
  refine P_det (by rfl) (Over_out (by rfl) (Over_nil (y_max (by rfl) (by rfl)))) ?_
  refine P_det (by rfl) (Over_out (by rfl) (Over_nil (y_fieldAddr (by rfl) fa26_1))) ?_
  refine P_det (by rfl) (Over_out (by rfl) (Over_nil (y_load1 (by rfl) Try.isAgg3 (Mem.own1 0 (by rfl) (by rfl))))) ?_
  refine P_det (by rfl) (Over_out (by rfl) (Over_nil (y_buildL bd26_0_1 (by rfl)))) ?_
  refine P_st 1000000 0 (by rfl) (by rfl) (by rfl) (by rfl) (by rfl) (Over_nil (st_pre (fun _ => by rfl) (fun _ => by rfl) Try.sizeOf26 (by rfl) (by rfl) (by first | decide | exact Nat.le_of_ble_eq_true rfl | simp))) ?_
  refine PW_end (by rfl) ?_
  refine OverAll_cons (fun w1000000 l1000000 => ?_)
  refine OverAll_nil ?_
  rintro ⟨-, h1000000⟩
  obtain rfl := h1000000
  refine Then_normal ?_
  refine W_ret ?_
  refine Fin_ret [_] [] Try.results108 ⟨lvN (by rfl) Try.isAgg26 Try.sizeOf26 (Mem.own (us := [.int .i64 _, .int .i64 _]) 0 (by rfl) (by rfl)) (by rfl), trivial⟩ HSub.nil ?_
  rfl
theorem after_any (bk : Nat) (l : Lg) (i : Nat) (s : Sn) (w : World) (hB : Bk w bk l) (hi : i < l.es.length) (hs : s.Sm) :
    Ct Try.prog 103 #[.pointer (some ⟨bk, 0, none⟩), .int .i64 (i : Int), .agg s.cells.toArray] w fun v _ => v = .agg (l.after i s).cells.toArray := by
  have hb : (l.before i s).Sm := by
    have hd := hB.ok.drip_bd hi
    unfold Sn.Sm at hs ⊢
    unfold Lg.before
    simp only
    omega
  have hk := hB.ok.kind i hi
  have hz := hB.ok.sm hi
  have hq := hB.ok.size i hi
  have hL0 : l.after i s = l.tk.forth (l.e i) (l.before i s) := rfl
  obtain ⟨g, a, cap, ae, cape, h1, hG, h3⟩ := hB.ex
  obtain ⟨b, o, rfl⟩ := h3.adr (by omega)
  have e1 : At w b (o + i * 4) (l.e i).cells := h3.at hi
  generalize l.e i = x at *
  obtain ⟨d0, k0, z⟩ := x
  simp only at hk hz hq
  obtain rfl | rfl | rfl : k0 = 1 ∨ k0 = 2 ∨ k0 = 3 := by omega
  ·
    have hF := wide_wide
    refine Ct_start (args := [_, _, _]) Try.func103 (by rfl) Try.ntmps103 (by rfl) ?_
    refine W_seq ?_
    refine W_region_lit (fun ds => ?_)
    refine WS_new hF (by rfl) (y_box (by rfl)) (fun b1 => ?_)
    refine WS_new hF (by rfl) (y_alloc Try.zeroValue26 (by rfl)) (fun b2 => ?_)
    refine WS_nil ?_
    refine Then_normal ?_
    refine W_seq ?_
    refine W_region_lit (fun ds => ?_)
    refine WS_det hF (by rfl) (y_move (c := .pointer _) (by rfl)) ?_
    refine WS_det hF (by rfl) (by first | exact y_nilCheck (by rfl) | exact y_nilCheckF (by rfl)) ?_
    refine WS_det hF (by rfl) (y_fieldAddr (by rfl) fa119_1) ?_
    refine WS_det hF (by rfl) (y_fieldAddr (by rfl) fa46_2) ?_
    refine WS_det hF (by rfl) (y_load1 (by rfl) Try.isAgg44 (by first | exact Mem.old1 (by assumption) | exact Mem.oldAt1 (by assumption) (by rfl) | exact Mem.old (by assumption) | exact Mem.oldAtL1 (by assumption) (by rfl) (by rfl))) ?_
    refine WS_det hF (by rfl) (y_move (c := .int .i64 _) (by rfl)) ?_
    refine WS_det hF (by rfl) (y_index (k := i) (by rfl) (by rfl) (by first | rfl | omega) (by first | decide | omega) Try.runUnderlying44 Try.sizeOf48) ?_
    refine WS_det hF (by rfl) (y_loadN (by rfl) Try.isAgg48 Try.sizeOf48 (by first | exact Mem.old (by assumption) | exact Mem.oldAt (us := [.int .i64 _, .int .i64 _, .int .i64 _, .int .i64 _]) (by assumption) (by rfl) | exact Mem.oldAtL (us := [.int .i64 _, .int .i64 _, .int .i64 _, .int .i64 _]) (by assumption) (by rfl) (by rfl)) (by rfl)) ?_
    refine WS_new hF (by rfl) (y_alloc Try.zeroValue48 (by rfl)) (fun b3 => ?_)
    refine WS_store hF (i := 0) (by rfl) (by rfl) Try.sizeOf48 (by rfl) (by rfl) (by rfl) (by first | decide | exact Nat.le_of_ble_eq_true rfl | simp) ?_
    refine WS_nil ?_
    refine Then_normal ?_
    refine W_seq ?_
    apply W_draw1 hF Trymixed [1000000] (i := 1) (by rfl) (by decide +kernel)
    intro ds
    refine P_det (by rfl) (Over_out (by rfl) (Over_nil (y_move (c := .pointer _) (by rfl)))) ?_
    refine P_det (by rfl) (Over_out (by rfl) (Over_nil (y_fieldAddr (by rfl) fa48_1))) ?_
    refine P_det (by rfl) (Over_out (by rfl) (Over_nil (y_load1 (by rfl) Try.isAgg3 (Mem.own1 0 (by rfl) (by rfl))))) ?_
    refine P_det (by rfl) (Over_out (by rfl) (Over_nil (by first | exact y_nilCheck (by rfl) | exact y_nilCheckF (by rfl)))) ?_
    refine P_det (by rfl) (Over_out (by rfl) (Over_nil (y_fieldAddr (by rfl) fa119_2))) ?_
    refine P_det (by rfl) (Over_out (by rfl) (Over_nil (y_indexA (k := 1) (by rfl) (by rfl) (by first | rfl | omega) (by first | decide | omega) Try.runUnderlying117 Try.sizeOf116))) ?_
    refine P_det (by rfl) (Over_out (by rfl) (Over_nil (y_fieldAddr (by rfl) fa116_1))) ?_
    refine P_det (by rfl) (Over_out (by rfl) (Over_nil (y_load1 (by rfl) Try.isAgg114 (by first | exact Mem.old1 (by assumption) | exact Mem.oldAt1 (by assumption) (by rfl) | exact Mem.old (by assumption) | exact Mem.oldAtL1 (by assumption) (by rfl) (by rfl))))) ?_
    refine P_det (by rfl) (Over_out (by rfl) (Over_nil (y_move (c := .pointer _) (by rfl)))) ?_
    refine P_det (by rfl) (Over_out (by rfl) (Over_nil (by first | exact y_nilCheck (by rfl) | exact y_nilCheckF (by rfl)))) ?_
    refine P_det (by rfl) (Over_out (by rfl) (Over_nil (y_fieldAddr (by rfl) fa119_0))) ?_
    refine P_det (by rfl) (Over_out (by rfl) (Over_nil (y_load1 (by rfl) Try.isAgg93 (by first | exact Mem.old1 (by assumption) | exact Mem.oldAt1 (by assumption) (by rfl) | exact Mem.old (by assumption) | exact Mem.oldAtL1 (by assumption) (by rfl) (by rfl))))) ?_
    refine P_det (by rfl) (Over_out (by rfl) (Over_nil (y_fieldAddr (by rfl) fa48_2))) ?_
    refine P_det (by rfl) (Over_out (by rfl) (Over_nil (y_loadN (by rfl) Try.isAgg26 Try.sizeOf26 (Mem.own (us := [.int .i64 _, .int .i64 _]) 0 (by rfl) (by rfl)) (by rfl)))) ?_
    refine P_det (by rfl) (Over_out (by rfl) (Over_nil (y_move (c := .pointer _) (by rfl)))) ?_
    refine P_det (by rfl) (Over_out (by rfl) (Over_nil (y_move (c := .int .i64 _) (by rfl)))) ?_
    refine P_det (by rfl) (Over_out (by rfl) (Over_nil (y_loadN (by rfl) Try.isAgg26 Try.sizeOf26 (Mem.own (us := [.int .i64 _, .int .i64 _]) 1 (by rfl) (by rfl)) (by rfl)))) ?_
    refine P_det (by rfl) (Over_out (by rfl) (Over_nil (y_callL (by rfl) (by rfl) Try.call108 (fun w hw => before_any bk l i s w (hB.st w hw) hi hs)))) ?_
    refine P_det (by rfl) (Over_out (by rfl) (Over_nil (y_callL (by rfl) (by rfl) Try.call136 (fun w hw => more_any g 0 l.tk z (l.before i s) w (hG.st w hw) hz hb)))) ?_
    refine P_st 1000000 0 (by rfl) (by rfl) (by rfl) (by rfl) (by rfl) (Over_nil (st_pre (fun _ => by rfl) (fun _ => by rfl) Try.sizeOf26 (by rfl) (by rfl) (by first | decide | exact Nat.le_of_ble_eq_true rfl | simp))) ?_
    refine PW_end (by rfl) ?_
    refine OverAll_cons (fun w1000000 l1000000 => ?_)
    refine OverAll_nil ?_
    rintro ⟨-, h1000000⟩
    obtain rfl := h1000000
    refine Then_normal ?_
    refine W_ret ?_
    refine Fin_ret [_] [] Try.results103 ⟨lvN (by rfl) Try.isAgg26 Try.sizeOf26 (Mem.own (us := [.int .i64 _, .int .i64 _]) 0 (by rfl) (by rfl)) (by rfl), trivial⟩ HSub.nil ?_
    show Value.agg _ = _
    rw [hL0]; rfl
  ·
    have hF := wide_wide
    refine Ct_start (args := [_, _, _]) Try.func103 (by rfl) Try.ntmps103 (by rfl) ?_
    refine W_seq ?_
    refine W_region_lit (fun ds => ?_)
    refine WS_new hF (by rfl) (y_box (by rfl)) (fun b1 => ?_)
    refine WS_new hF (by rfl) (y_alloc Try.zeroValue26 (by rfl)) (fun b2 => ?_)
    refine WS_nil ?_
    refine Then_normal ?_
    refine W_seq ?_
    refine W_region_lit (fun ds => ?_)
    refine WS_det hF (by rfl) (y_move (c := .pointer _) (by rfl)) ?_
    refine WS_det hF (by rfl) (by first | exact y_nilCheck (by rfl) | exact y_nilCheckF (by rfl)) ?_
    refine WS_det hF (by rfl) (y_fieldAddr (by rfl) fa119_1) ?_
    refine WS_det hF (by rfl) (y_fieldAddr (by rfl) fa46_2) ?_
    refine WS_det hF (by rfl) (y_load1 (by rfl) Try.isAgg44 (by first | exact Mem.old1 (by assumption) | exact Mem.oldAt1 (by assumption) (by rfl) | exact Mem.old (by assumption) | exact Mem.oldAtL1 (by assumption) (by rfl) (by rfl))) ?_
    refine WS_det hF (by rfl) (y_move (c := .int .i64 _) (by rfl)) ?_
    refine WS_det hF (by rfl) (y_index (k := i) (by rfl) (by rfl) (by first | rfl | omega) (by first | decide | omega) Try.runUnderlying44 Try.sizeOf48) ?_
    refine WS_det hF (by rfl) (y_loadN (by rfl) Try.isAgg48 Try.sizeOf48 (by first | exact Mem.old (by assumption) | exact Mem.oldAt (us := [.int .i64 _, .int .i64 _, .int .i64 _, .int .i64 _]) (by assumption) (by rfl) | exact Mem.oldAtL (us := [.int .i64 _, .int .i64 _, .int .i64 _, .int .i64 _]) (by assumption) (by rfl) (by rfl)) (by rfl)) ?_
    refine WS_new hF (by rfl) (y_alloc Try.zeroValue48 (by rfl)) (fun b3 => ?_)
    refine WS_store hF (i := 0) (by rfl) (by rfl) Try.sizeOf48 (by rfl) (by rfl) (by rfl) (by first | decide | exact Nat.le_of_ble_eq_true rfl | simp) ?_
    refine WS_nil ?_
    refine Then_normal ?_
    refine W_seq ?_
    apply W_draw1 hF Trymixed [1000000] (i := 1) (by rfl) (by decide +kernel)
    intro ds
    refine P_det (by rfl) (Over_out (by rfl) (Over_nil (y_move (c := .pointer _) (by rfl)))) ?_
    refine P_det (by rfl) (Over_out (by rfl) (Over_nil (y_fieldAddr (by rfl) fa48_1))) ?_
    refine P_det (by rfl) (Over_out (by rfl) (Over_nil (y_load1 (by rfl) Try.isAgg3 (Mem.own1 0 (by rfl) (by rfl))))) ?_
    refine P_det (by rfl) (Over_out (by rfl) (Over_nil (by first | exact y_nilCheck (by rfl) | exact y_nilCheckF (by rfl)))) ?_
    refine P_det (by rfl) (Over_out (by rfl) (Over_nil (y_fieldAddr (by rfl) fa119_2))) ?_
    refine P_det (by rfl) (Over_out (by rfl) (Over_nil (y_indexA (k := 2) (by rfl) (by rfl) (by first | rfl | omega) (by first | decide | omega) Try.runUnderlying117 Try.sizeOf116))) ?_
    refine P_det (by rfl) (Over_out (by rfl) (Over_nil (y_fieldAddr (by rfl) fa116_1))) ?_
    refine P_det (by rfl) (Over_out (by rfl) (Over_nil (y_load1 (by rfl) Try.isAgg114 (by first | exact Mem.old1 (by assumption) | exact Mem.oldAt1 (by assumption) (by rfl) | exact Mem.old (by assumption) | exact Mem.oldAtL1 (by assumption) (by rfl) (by rfl))))) ?_
    refine P_det (by rfl) (Over_out (by rfl) (Over_nil (y_move (c := .pointer _) (by rfl)))) ?_
    refine P_det (by rfl) (Over_out (by rfl) (Over_nil (by first | exact y_nilCheck (by rfl) | exact y_nilCheckF (by rfl)))) ?_
    refine P_det (by rfl) (Over_out (by rfl) (Over_nil (y_fieldAddr (by rfl) fa119_0))) ?_
    refine P_det (by rfl) (Over_out (by rfl) (Over_nil (y_load1 (by rfl) Try.isAgg93 (by first | exact Mem.old1 (by assumption) | exact Mem.oldAt1 (by assumption) (by rfl) | exact Mem.old (by assumption) | exact Mem.oldAtL1 (by assumption) (by rfl) (by rfl))))) ?_
    refine P_det (by rfl) (Over_out (by rfl) (Over_nil (y_fieldAddr (by rfl) fa48_2))) ?_
    refine P_det (by rfl) (Over_out (by rfl) (Over_nil (y_loadN (by rfl) Try.isAgg26 Try.sizeOf26 (Mem.own (us := [.int .i64 _, .int .i64 _]) 0 (by rfl) (by rfl)) (by rfl)))) ?_
    refine P_det (by rfl) (Over_out (by rfl) (Over_nil (y_move (c := .pointer _) (by rfl)))) ?_
    refine P_det (by rfl) (Over_out (by rfl) (Over_nil (y_move (c := .int .i64 _) (by rfl)))) ?_
    refine P_det (by rfl) (Over_out (by rfl) (Over_nil (y_loadN (by rfl) Try.isAgg26 Try.sizeOf26 (Mem.own (us := [.int .i64 _, .int .i64 _]) 1 (by rfl) (by rfl)) (by rfl)))) ?_
    refine P_det (by rfl) (Over_out (by rfl) (Over_nil (y_callL (by rfl) (by rfl) Try.call108 (fun w hw => before_any bk l i s w (hB.st w hw) hi hs)))) ?_
    refine P_det (by rfl) (Over_out (by rfl) (Over_nil (y_callL (by rfl) (by rfl) Try.call137 (fun w hw => tless_any g 0 l.tk z (l.before i s) w (hG.st w hw) hz hb)))) ?_
    refine P_st 1000000 0 (by rfl) (by rfl) (by rfl) (by rfl) (by rfl) (Over_nil (st_pre (fun _ => by rfl) (fun _ => by rfl) Try.sizeOf26 (by rfl) (by rfl) (by first | decide | exact Nat.le_of_ble_eq_true rfl | simp))) ?_
    refine PW_end (by rfl) ?_
    refine OverAll_cons (fun w1000000 l1000000 => ?_)
    refine OverAll_nil ?_
    rintro ⟨-, h1000000⟩
    obtain rfl := h1000000
    refine Then_normal ?_
    refine W_ret ?_
    refine Fin_ret [_] [] Try.results103 ⟨lvN (by rfl) Try.isAgg26 Try.sizeOf26 (Mem.own (us := [.int .i64 _, .int .i64 _]) 0 (by rfl) (by rfl)) (by rfl), trivial⟩ HSub.nil ?_
    show Value.agg _ = _
    rw [hL0]; rfl
  ·
    have hF := wide_wide
    refine Ct_start (args := [_, _, _]) Try.func103 (by rfl) Try.ntmps103 (by rfl) ?_
    refine W_seq ?_
    refine W_region_lit (fun ds => ?_)
    refine WS_new hF (by rfl) (y_box (by rfl)) (fun b1 => ?_)
    refine WS_new hF (by rfl) (y_alloc Try.zeroValue26 (by rfl)) (fun b2 => ?_)
    refine WS_nil ?_
    refine Then_normal ?_
    refine W_seq ?_
    refine W_region_lit (fun ds => ?_)
    refine WS_det hF (by rfl) (y_move (c := .pointer _) (by rfl)) ?_
    refine WS_det hF (by rfl) (by first | exact y_nilCheck (by rfl) | exact y_nilCheckF (by rfl)) ?_
    refine WS_det hF (by rfl) (y_fieldAddr (by rfl) fa119_1) ?_
    refine WS_det hF (by rfl) (y_fieldAddr (by rfl) fa46_2) ?_
    refine WS_det hF (by rfl) (y_load1 (by rfl) Try.isAgg44 (by first | exact Mem.old1 (by assumption) | exact Mem.oldAt1 (by assumption) (by rfl) | exact Mem.old (by assumption) | exact Mem.oldAtL1 (by assumption) (by rfl) (by rfl))) ?_
    refine WS_det hF (by rfl) (y_move (c := .int .i64 _) (by rfl)) ?_
    refine WS_det hF (by rfl) (y_index (k := i) (by rfl) (by rfl) (by first | rfl | omega) (by first | decide | omega) Try.runUnderlying44 Try.sizeOf48) ?_
    refine WS_det hF (by rfl) (y_loadN (by rfl) Try.isAgg48 Try.sizeOf48 (by first | exact Mem.old (by assumption) | exact Mem.oldAt (us := [.int .i64 _, .int .i64 _, .int .i64 _, .int .i64 _]) (by assumption) (by rfl) | exact Mem.oldAtL (us := [.int .i64 _, .int .i64 _, .int .i64 _, .int .i64 _]) (by assumption) (by rfl) (by rfl)) (by rfl)) ?_
    refine WS_new hF (by rfl) (y_alloc Try.zeroValue48 (by rfl)) (fun b3 => ?_)
    refine WS_store hF (i := 0) (by rfl) (by rfl) Try.sizeOf48 (by rfl) (by rfl) (by rfl) (by first | decide | exact Nat.le_of_ble_eq_true rfl | simp) ?_
    refine WS_nil ?_
    refine Then_normal ?_
    refine W_seq ?_
    apply W_draw1 hF Trymixed [1000000] (i := 1) (by rfl) (by decide +kernel)
    intro ds
    refine P_det (by rfl) (Over_out (by rfl) (Over_nil (y_move (c := .pointer _) (by rfl)))) ?_
    refine P_det (by rfl) (Over_out (by rfl) (Over_nil (y_fieldAddr (by rfl) fa48_1))) ?_
    refine P_det (by rfl) (Over_out (by rfl) (Over_nil (y_load1 (by rfl) Try.isAgg3 (Mem.own1 0 (by rfl) (by rfl))))) ?_
    refine P_det (by rfl) (Over_out (by rfl) (Over_nil (by first | exact y_nilCheck (by rfl) | exact y_nilCheckF (by rfl)))) ?_
    refine P_det (by rfl) (Over_out (by rfl) (Over_nil (y_fieldAddr (by rfl) fa119_2))) ?_
    refine P_det (by rfl) (Over_out (by rfl) (Over_nil (y_indexA (k := 3) (by rfl) (by rfl) (by first | rfl | omega) (by first | decide | omega) Try.runUnderlying117 Try.sizeOf116))) ?_
    refine P_det (by rfl) (Over_out (by rfl) (Over_nil (y_fieldAddr (by rfl) fa116_1))) ?_
    refine P_det (by rfl) (Over_out (by rfl) (Over_nil (y_load1 (by rfl) Try.isAgg114 (by first | exact Mem.old1 (by assumption) | exact Mem.oldAt1 (by assumption) (by rfl) | exact Mem.old (by assumption) | exact Mem.oldAtL1 (by assumption) (by rfl) (by rfl))))) ?_
    refine P_det (by rfl) (Over_out (by rfl) (Over_nil (y_move (c := .pointer _) (by rfl)))) ?_
    refine P_det (by rfl) (Over_out (by rfl) (Over_nil (by first | exact y_nilCheck (by rfl) | exact y_nilCheckF (by rfl)))) ?_
    refine P_det (by rfl) (Over_out (by rfl) (Over_nil (y_fieldAddr (by rfl) fa119_0))) ?_
    refine P_det (by rfl) (Over_out (by rfl) (Over_nil (y_load1 (by rfl) Try.isAgg93 (by first | exact Mem.old1 (by assumption) | exact Mem.oldAt1 (by assumption) (by rfl) | exact Mem.old (by assumption) | exact Mem.oldAtL1 (by assumption) (by rfl) (by rfl))))) ?_
    refine P_det (by rfl) (Over_out (by rfl) (Over_nil (y_fieldAddr (by rfl) fa48_2))) ?_
    refine P_det (by rfl) (Over_out (by rfl) (Over_nil (y_loadN (by rfl) Try.isAgg26 Try.sizeOf26 (Mem.own (us := [.int .i64 _, .int .i64 _]) 0 (by rfl) (by rfl)) (by rfl)))) ?_
    refine P_det (by rfl) (Over_out (by rfl) (Over_nil (y_move (c := .pointer _) (by rfl)))) ?_
    refine P_det (by rfl) (Over_out (by rfl) (Over_nil (y_move (c := .int .i64 _) (by rfl)))) ?_
    refine P_det (by rfl) (Over_out (by rfl) (Over_nil (y_loadN (by rfl) Try.isAgg26 Try.sizeOf26 (Mem.own (us := [.int .i64 _, .int .i64 _]) 1 (by rfl) (by rfl)) (by rfl)))) ?_
    refine P_det (by rfl) (Over_out (by rfl) (Over_nil (y_callL (by rfl) (by rfl) Try.call108 (fun w hw => before_any bk l i s w (hB.st w hw) hi hs)))) ?_
    refine P_det (by rfl) (Over_out (by rfl) (Over_nil (y_callL (by rfl) (by rfl) Try.call139 (fun w hw => seen_any g 0 l.tk z (l.before i s) w (hG.st w hw) hq)))) ?_
    refine P_st 1000000 0 (by rfl) (by rfl) (by rfl) (by rfl) (by rfl) (Over_nil (st_pre (fun _ => by rfl) (fun _ => by rfl) Try.sizeOf26 (by rfl) (by rfl) (by first | decide | exact Nat.le_of_ble_eq_true rfl | simp))) ?_
    refine PW_end (by rfl) ?_
    refine OverAll_cons (fun w1000000 l1000000 => ?_)
    refine OverAll_nil ?_
    rintro ⟨-, h1000000⟩
    obtain rfl := h1000000
    refine Then_normal ?_
    refine W_ret ?_
    refine Fin_ret [_] [] Try.results103 ⟨lvN (by rfl) Try.isAgg26 Try.sizeOf26 (Mem.own (us := [.int .i64 _, .int .i64 _]) 0 (by rfl) (by rfl)) (by rfl), trivial⟩ HSub.nil ?_
    show Value.agg _ = _
    rw [hL0]; rfl
end Go.Proofs.Ythkimgfgpphgnaa.T

/- opened: a log at work. -/
namespace Go.Proofs.Ythkimgfgpphgnaa.T
open Go.RowKit Go.Proofs Go.Eng
set_option maxRecDepth 100000
set_option linter.unusedVariables false
set_option linter.unusedSimpArgs false

theorem bd119_0_1_2 {x0 : Option Addr} {x1_0a : Option Addr} {x1_0l x1_0c : Nat} {x1_1 : Int} {x1_2 : Int} {x1_3 : Int} {x1_4 : Int} {x1_5a : Option Addr} {x1_5l x1_5c : Nat} {x2_0 : Value} {x2_1 : Value} {x2_2 : Value} {x2_3 : Value} {x2_4 : Value} {x2_5 : Value} {x2_6 : Value} {x2_7 : Value} {x2_8 : Value} {x2_9 : Value} {x2_10 : Value} {x2_11 : Value} : ∀ w, (Instr.build 119 #[(0, .pointer x0), (1, .agg #[.slice x1_0a x1_0l x1_0c, .int .i64 x1_1, .int .i64 x1_2, .int .i64 x1_3, .int .i64 x1_4, .slice x1_5a x1_5l x1_5c]), (2, .agg #[x2_0, x2_1, x2_2, x2_3, x2_4, x2_5, x2_6, x2_7, x2_8, x2_9, x2_10, x2_11])]).run Try.prog w = .ok (.agg #[.pointer x0, .slice x1_0a x1_0l x1_0c, .int .i64 x1_1, .int .i64 x1_2, .int .i64 x1_3, .int .i64 x1_4, .slice x1_5a x1_5l x1_5c, x2_0, x2_1, x2_2, x2_3, x2_4, x2_5, x2_6, x2_7, x2_8, x2_9, x2_10, x2_11]) w := fun w => by kernel_rfl
theorem fa116_0 : ∀ b o w, (Instr.fieldAt 116 (.pointer (some ⟨b, o, none⟩)) 0).run Try.prog w = .ok (.pointer (some ⟨b, o + 0, none⟩)) w := fun b o w => by kernel_rfl
theorem fa46_0 : ∀ b o w, (Instr.fieldAt 46 (.pointer (some ⟨b, o, none⟩)) 0).run Try.prog w = .ok (.pointer (some ⟨b, o + 0, none⟩)) w := fun b o w => by kernel_rfl
theorem fa46_1 : ∀ b o w, (Instr.fieldAt 46 (.pointer (some ⟨b, o, none⟩)) 1).run Try.prog w = .ok (.pointer (some ⟨b, o + 3, none⟩)) w := fun b o w => by kernel_rfl

def gaugeCells (t : Tk) (a : Option Addr) (cap : Nat) : List Value := [.slice a t.n cap, .int .i64 t.leak, .int .i64 t.foot, .int .i64 t.full, .int .i64 t.height]
def Lg.err (l : Lg) : Int := if l.tk.okB then if l.okB then 0 else 31 else 30
/-- What comes of a log: a book in two new blocks, or none. -/
def BookV (l : Lg) (a : Option Addr) (cap : Nat) (ae : Option Addr) (cape : Nat) (v : Value) (Hn : List Blk) : Prop :=
  ∃ p, v = .tuple #[.pointer p, .int .i64 l.err] ∧ (l.err = 0 → ∃ g b, p = some ⟨b, 0, none⟩ ∧ Hn = [(b, CB (bookCells g l a cap ae cape) 119), (g, CB (gaugeCells l.tk a cap) 98)]) ∧ (l.err ≠ 0 → Hn = [])
theorem Tk.entsB_take (t : Tk) : ∀ (es : List En) (day : Int) (k : Nat) (h : k < es.length), t.entsB day es = (t.entsB day (es.take k) && t.entsB (if k = 0 then day else (es.getD (k - 1) En.z).day) (es.drop k))
  | [], _, k, h => by simp at h
  | x :: es, day, 0, _ => by simp [Tk.entsB]
  | x :: es, day, k + 1, h => by
    rw [List.take_succ_cons, List.drop_succ_cons, Tk.entsB, Tk.entsB]
    cases k with
    | zero => simp [Tk.entsB]
    | succ k =>
      rw [Tk.entsB_take t es x.day (k + 1) (by simpa using h), Bool.and_assoc]
      simp
theorem Tk.entsB_succ (t : Tk) : ∀ (es : List En) (day : Int) (k : Nat) (h : k < es.length), t.entsB day (es.take (k + 1)) = (t.entsB day (es.take k) && t.entB (if k = 0 then day else (es.getD (k - 1) En.z).day) (es.getD k En.z))
  | [], _, k, h => by simp at h
  | x :: es, day, 0, _ => by simp [Tk.entsB]
  | x :: es, day, k + 1, h => by
    have hk : k < es.length := by simpa using h
    rw [List.take_succ_cons, List.take_succ_cons, Tk.entsB, Tk.entsB, Tk.entsB_succ t es x.day k hk, Bool.and_assoc]
    congr 2
    cases k with
    | zero => simp
    | succ k => simp
theorem Tk.entsB_bad (t : Tk) {es : List En} {day : Int} {k : Nat} (h : k < es.length) (hb : t.entB (if k = 0 then day else (es.getD (k - 1) En.z).day) (es.getD k En.z) = false) : t.entsB day es = false := by
  rw [t.entsB_take es day k h]
  have : es.drop k = es.getD k En.z :: es.drop (k + 1) := by
    rw [List.drop_eq_getElem_cons h]; simp [List.getD_eq_getElem?_getD, h]
  rw [this, Tk.entsB, hb]; simp
def Lg.dayAt (l : Lg) (k : Nat) : Int := if k = 0 then 0 else (l.e (k - 1)).day
def rightF (kind : Int) : FuncId := if kind = 3 then 138 else 135
theorem right_call (kind : Int) : ∀ args w, (callFunc (rightF kind) args).run Try.prog w = .ok (.enter (rightF kind) args) w := by
  unfold rightF
  split
  · exact Try.call138
  · exact Try.call135
theorem right_any (kind : Int) (g og : Nat) (t : Tk) (s : Sn) (w : World) (hG : Gg w g og t) :
    Ct Try.prog (rightF kind) #[.pointer (some ⟨g, og, none⟩), .agg s.cells.toArray] w fun v _ => v = .bool (s.inB (t.most kind)) := by
  unfold rightF Tk.most
  split
  · exact forms2_any g og t s.lo s.hi w hG
  · exact forms1_any g og t s.lo s.hi w hG
theorem right_cell (g : Nat) (l : Lg) (a : Option Addr) (cap : Nat) (ae : Option Addr) (cape : Nat) (k : Nat) (h : 1 ≤ k ∧ k ≤ 3) : (bookCells g l a cap ae cape)[7 + k * 3]? = some (.func (.func (rightF (k : Int))) #[] #[]) := by
  obtain rfl | rfl | rfl : k = 1 ∨ k = 2 ∨ k = 3 := by omega
  · rfl
  · rfl
  · rfl

theorem opened_any (l : Lg) (a : Option Addr) (cap : Nat) (ae : Option Addr) (cape : Nat) (w : World) (hn : l.tk.n ≤ 1000000) (hx : Ints w a l.tk.n cap l.tk.pints) (he : Ens w ae l.es.length cape l.es) :
    Ct Try.prog 77 #[.agg #[.slice a l.tk.n cap, .int .i64 l.tk.leak, .int .i64 l.tk.foot, .int .i64 l.start.lo, .int .i64 l.start.hi, .slice ae l.es.length cape]] w (BookV l a cap ae cape) := by
  have hF := wide_wide
  refine Ct_start (args := [_]) Try.func77 (by rfl) Try.ntmps77 (by rfl) ?_
  refine W_seq ?_
  refine W_region_lit (fun ds => ?_)
  refine WS_new hF (by rfl) (y_box (by rfl)) (fun b1 => ?_)
  refine WS_det hF (by rfl) (y_assign (c := .pointer _) (by rfl)) ?_
  refine WS_det hF (by rfl) (y_assign (c := .int .i64 _) (by rfl)) ?_
  refine WS_nil ?_
  refine Then_normal ?_
  refine W_seq ?_
  refine W_region_lit (fun ds => ?_)
  refine WS_det hF (by rfl) (y_fieldAddr (by rfl) fa46_0) ?_
  refine WS_det hF (by rfl) (y_loadN (by rfl) Try.isAgg24 Try.sizeOf24 (Mem.own (us := [.slice _ _ _, .int .i64 _, .int .i64 _]) 0 (by rfl) (by rfl)) (by rfl)) ?_
  refine WS_gen hF (by rfl) (y_callL (by rfl) (by rfl) Try.call64 (fun w hw => gauged_any l.tk a cap w hn (hx.st w hw))) ?_
  rintro _ Hg ⟨p, rfl, hg1, hg2⟩
  refine WS_det hF (by rfl) (y_move (c := .tuple _) (by rfl)) ?_
  refine WS_det hF (by rfl) (y_extract (c := .pointer _) (by rfl) (by rfl)) ?_
  refine WS_det hF (by rfl) (y_extract (c := .bool _) (by rfl) (by rfl)) ?_
  refine WS_det hF (by rfl) (y_assign (c := .pointer _) (by rfl)) ?_
  refine WS_det hF (by rfl) (y_assign (c := .bool _) (by rfl)) ?_
  refine WS_nil ?_
  refine Then_normal ?_
  refine W_seq ?_
  refine W_seq ?_
  refine W_region_lit (fun ds => ?_)
  refine WS_det hF (by rfl) (y_move (c := .bool _) (by rfl)) ?_
  refine WS_det hF (by rfl) (y_not (by rfl)) ?_
  refine WS_nil ?_
  refine Then_normal ?_
  refine W_cond (by rfl) (fun c2 => ?_) (fun c2 => ?_)
  ·
    try simp only [Bool.not_eq_true', Bool.not_eq_false', decide_eq_true_eq, decide_eq_false_iff_not, ne_eq, Classical.not_not, Int.not_lt, Int.not_le] at c2
    obtain rfl := hg2 c2
    refine W_seq ?_
    refine W_region_lit (fun ds => ?_)
    refine WS_det hF (by rfl) (y_assign (c := .pointer _) (by rfl)) ?_
    refine WS_det hF (by rfl) (y_assign (c := .int .i64 _) (by rfl)) ?_
    refine WS_nil ?_
    refine Then_normal ?_
    refine W_ret ?_
    refine Then_ret ?_
    refine Fin_ret [.pointer _, .int .i64 _] [] Try.results77 ⟨by rfl, by rfl, trivial⟩ HSub.nil ?_
    have h30 : l.err = 30 := by simp [Lg.err, c2]
    refine ⟨none, ?_, fun h => by omega, fun _ => rfl⟩
    rw [h30]; rfl
  ·
    try simp only [Bool.not_eq_true', Bool.not_eq_false', decide_eq_true_eq, decide_eq_false_iff_not, ne_eq, Classical.not_not, Int.not_lt, Int.not_le] at c2
    obtain ⟨g, rfl, rfl⟩ := hg1 c2
    refine W_skip ?_
    refine Then_normal ?_
    refine W_seq ?_
    refine W_draw0 hF Trymixed [] (by decide +kernel) (fun ds => ?_)
    refine P_det (by rfl) (Over_nil (y_move (c := .pointer _) (by rfl))) ?_
    refine P_det (by rfl) (Over_nil (y_loadN (by rfl) Try.isAgg46 Try.sizeOf46 (Mem.own (us := [.slice _ _ _, .int .i64 _, .int .i64 _, .int .i64 _, .int .i64 _, .slice _ _ _]) 1 (by rfl) (by rfl)) (by rfl))) ?_
    refine P_det (by rfl) (Over_nil (y_callL (by rfl) (by rfl) Try.call124 (fun w hw => forms_any w))) ?_
    refine P_det (by rfl) (Over_nil (y_buildL bd119_0_1_2 (by rfl))) ?_
    refine P_new (by rfl) (by rfl) (Over_nil (y_box (by rfl))) ?_
    refine P_ali [22] (fun e => e 22) (by rfl) (by rfl) (by rfl) (fun _ _ h => h 22 (List.mem_singleton.2 rfl)) (Over_in (by rfl) (Over_nil (by rintro _ _ ⟨b2, rfl, rfl⟩; exact (YD0_of (y_assign (c := .pointer _) (by rfl)))))) ?_
    refine PW_end (by rfl) ?_
    refine OverAll_cons (fun w6 l6 => ?_)
    refine OverAll_cons (fun w22 l22 => ?_)
    refine OverAll_nil ?_
    rintro ⟨⟨-, h6⟩, h22⟩
    obtain ⟨bk, rfl, rfl⟩ := h22
    obtain ⟨h6, rfl⟩ := h6
    replace h6 : w6 = .pointer _ := h6
    subst h6
    refine Then_normal ?_
    refine W_seq ?_
    refine W_seq ?_
    refine W_draw0 hF Trymixed [] (by decide +kernel) (fun ds => ?_)
    refine P_det (by rfl) (Over_nil (y_fieldAddr (by rfl) fa46_1)) ?_
    refine P_det (by rfl) (Over_nil (y_loadN (by rfl) Try.isAgg26 Try.sizeOf26 (Mem.own (us := [.int .i64 _, .int .i64 _]) 2 (by rfl) (by rfl)) (by rfl))) ?_
    refine P_det (by rfl) (Over_nil (y_move (c := .pointer _) (by rfl))) ?_
    refine P_det (by rfl) (Over_nil (by first | exact y_nilCheck (by rfl) | exact y_nilCheckF (by rfl))) ?_
    refine P_det (by rfl) (Over_nil (y_fieldAddr (by rfl) fa98_1)) ?_
    refine P_det (by rfl) (Over_nil (y_load1 (by rfl) Try.isAgg3 (Mem.own1 1 (by rfl) (by rfl)))) ?_
    refine P_det (by rfl) (Over_nil (y_callL (by rfl) (by rfl) Try.call72 (fun w hw => span_any _ _ _ w))) ?_
    refine P_det (by rfl) (Over_nil (y_not (by rfl))) ?_
    refine P_det (by rfl) (Over_nil (y_move (c := .bool _) (by rfl))) ?_
    refine P_split 31 (by rfl) (fun g5_8 => ?_) (fun g5_8 => ?_)
    ·
      try simp only [Bool.not_eq_true', Bool.not_eq_false', decide_eq_true_eq, decide_eq_false_iff_not, ne_eq, Classical.not_not, Int.not_lt, Int.not_le] at g5_8
      refine P_no (by rfl) ?_
      refine P_no (by rfl) ?_
      refine P_no (by rfl) ?_
      refine P_no (by rfl) ?_
      refine P_det (by rfl) (Over_nil (by first | exact y_pick_t (c := .bool _) (by rfl) (by rfl) | exact y_pick_f (c := .bool _) (by rfl) (by rfl))) ?_
      refine PW_end (by rfl) ?_
      refine OverAll_nil ?_
      rintro -
      refine Then_normal ?_
      refine W_cond (by rfl) (fun c5 => ?_) (fun c5 => ?_)
      ·
        try simp only [Bool.not_eq_true', Bool.not_eq_false', decide_eq_true_eq, decide_eq_false_iff_not, ne_eq, Classical.not_not, Int.not_lt, Int.not_le] at c5
        refine W_seq ?_
        refine W_region_lit (fun ds => ?_)
        refine WS_det hF (by rfl) (y_assign (c := .pointer _) (by rfl)) ?_
        refine WS_det hF (by rfl) (y_assign (c := .int .i64 _) (by rfl)) ?_
        refine WS_nil ?_
        refine Then_normal ?_
        refine W_ret ?_
        refine Then_ret ?_
        refine Fin_ret [.pointer _, .int .i64 _] [] Try.results77 ⟨by rfl, by rfl, trivial⟩ HSub.nil ?_
        have hs : l.start.inB l.tk.full = false := g5_8
        have h31 : l.err = 31 := by simp [Lg.err, Lg.okB, c2, hs]
        refine ⟨none, ?_, fun h => by omega, fun _ => rfl⟩
        rw [h31]; rfl
      · cases c5
    ·
      try simp only [Bool.not_eq_true', Bool.not_eq_false', decide_eq_true_eq, decide_eq_false_iff_not, ne_eq, Classical.not_not, Int.not_lt, Int.not_le] at g5_8
      refine P_det (by rfl) (Over_nil (y_fieldAddr (by rfl) fa46_2)) ?_
      refine P_det (by rfl) (Over_nil (y_load1 (by rfl) Try.isAgg44 (Mem.own1 2 (by rfl) (by rfl)))) ?_
      refine P_det (by rfl) (Over_nil (y_len (by rfl) Try.runUnderlying44)) ?_
      refine P_det (by rfl) (Over_nil (y_gtr (by rfl) (by rfl))) ?_
      refine P_det (by rfl) (Over_nil (by first | exact y_pick_t (c := .bool _) (by rfl) (by rfl) | exact y_pick_f (c := .bool _) (by rfl) (by rfl))) ?_
      refine PW_end (by rfl) ?_
      refine OverAll_nil ?_
      rintro -
      refine Then_normal ?_
      refine W_cond (by rfl) (fun c5 => ?_) (fun c5 => ?_)
      ·
        try simp only [Bool.not_eq_true', Bool.not_eq_false', decide_eq_true_eq, decide_eq_false_iff_not, ne_eq, Classical.not_not, Int.not_lt, Int.not_le] at c5
        refine W_seq ?_
        refine W_region_lit (fun ds => ?_)
        refine WS_det hF (by rfl) (y_assign (c := .pointer _) (by rfl)) ?_
        refine WS_det hF (by rfl) (y_assign (c := .int .i64 _) (by rfl)) ?_
        refine WS_nil ?_
        refine Then_normal ?_
        refine W_ret ?_
        refine Then_ret ?_
        refine Fin_ret [.pointer _, .int .i64 _] [] Try.results77 ⟨by rfl, by rfl, trivial⟩ HSub.nil ?_
        have h31 : l.err = 31 := by
          have : decide (l.es.length ≤ 12) = false := by simp; omega
          simp [Lg.err, Lg.okB, c2, this]
        refine ⟨none, ?_, fun h => by omega, fun _ => rfl⟩
        rw [h31]; rfl
      ·
        try simp only [Bool.not_eq_true', Bool.not_eq_false', decide_eq_true_eq, decide_eq_false_iff_not, ne_eq, Classical.not_not, Int.not_lt, Int.not_le] at c5
        refine W_skip ?_
        refine Then_normal ?_
        refine W_seq ?_
        refine W_region_lit (fun ds => ?_)
        refine WS_det hF (by rfl) (y_assign (c := .int .i64 _) (by rfl)) ?_
        refine WS_nil ?_
        refine Then_normal ?_
        refine W_seq ?_
        refine W_seq ?_
        refine W_region_lit (fun ds => ?_)
        refine WS_det hF (by rfl) (y_fieldAddr (by rfl) fa46_2) ?_
        refine WS_det hF (by rfl) (y_load1 (by rfl) Try.isAgg44 (Mem.own1 2 (by rfl) (by rfl))) ?_
        refine WS_det hF (by rfl) (y_len (by rfl) Try.runUnderlying44) ?_
        refine WS_det hF (by rfl) (y_move (c := .int .i64 _) (by rfl)) ?_
        refine WS_nil ?_
        refine Then_normal ?_
        refine W_block ?_
        refine W_loop (γ := Nat) (fun k => k ≤ l.es.length ∧ l.tk.entsB 0 (l.es.take k) = true) (fun k => [(40, .int .i64 (k : Int)), (39, .int .i64 (l.es.length : Int)), (38, .slice ae l.es.length cape), (7, .int .i64 (l.dayAt k)), (1, .pointer (some ⟨b1, 0, none⟩)), (4, .pointer (some ⟨g, 0, none⟩)), (6, .pointer (some ⟨bk, 0, none⟩))]) (fun _ => _) (fun k => l.es.length - k) (0) ⟨Nat.zero_le _, rfl⟩ (by repeat (first | exact trivial | refine ⟨by rfl, ?_⟩)) (List.Sublist.refl _) ?_
        rintro k e ⟨hk, hent⟩
        refine W_seq ?_
        refine W_region_lit (fun ds => ?_)
        refine WS_det hF (by rfl) (y_lss (by rfl) (by rfl)) ?_
        refine WS_nil ?_
        refine Then_normal ?_
        refine W_seq ?_
        refine W_cond (by rfl) (fun c9 => ?_) (fun c9 => ?_)
        ·
          try simp only [Bool.not_eq_true', Bool.not_eq_false', decide_eq_true_eq, decide_eq_false_iff_not, ne_eq, Classical.not_not, Int.not_lt, Int.not_le] at c9
          obtain ⟨b, o, rfl, hc⟩ := he.cell k (by omega)
          change At w b _ (l.e k).cells at hc
          refine W_skip ?_
          refine Then_normal ?_
          refine W_seq ?_
          refine W_block ?_
          refine W_seq ?_
          refine W_region_lit (fun ds => ?_)
          refine WS_det hF (by rfl) (y_index (k := k) (by rfl) (by rfl) (by first | rfl | omega) (by first | decide | omega) Try.runUnderlying44 Try.sizeOf48) ?_
          refine WS_det hF (by rfl) (y_loadN (by rfl) Try.isAgg48 Try.sizeOf48 (by first | exact Mem.old (by assumption) | exact Mem.oldAt (us := [.int .i64 _, .int .i64 _, .int .i64 _, .int .i64 _]) (by assumption) (by rfl) | exact Mem.oldAtL (us := [.int .i64 _, .int .i64 _, .int .i64 _, .int .i64 _]) (by assumption) (by rfl) (by rfl)) (by rfl)) ?_
          refine WS_new hF (by rfl) (y_alloc Try.zeroValue48 (by rfl)) (fun b4 => ?_)
          refine WS_store hF (i := 0) (by rfl) (by rfl) Try.sizeOf48 (by rfl) (by rfl) (by rfl) (by first | decide | exact Nat.le_of_ble_eq_true rfl | simp) ?_
          refine WS_nil ?_
          refine Then_normal ?_
          refine W_seq ?_
          refine W_seq ?_
          refine W_draw0 hF Trymixed [] (by decide +kernel) (fun ds => ?_)
          refine P_det (by rfl) (Over_nil (y_move (c := .int .i64 _) (by rfl))) ?_
          refine P_det (by rfl) (Over_nil (y_fieldAddr (by rfl) fa48_0)) ?_
          refine P_det (by rfl) (Over_nil (y_load1 (by rfl) Try.isAgg3 (Mem.own1 0 (by rfl) (by rfl)))) ?_
          refine P_new (by rfl) (by rfl) (Over_nil (y_buildSliceL bs22_1_0 (by rfl))) ?_
          refine P_det (by rfl) (Over_in (by rfl) (Over_nil (by rintro _ _ ⟨b6, rfl, rfl⟩; exact (y_callL (by rfl) (by rfl) Try.call65 (fun w hw => in_any _ _ _ _ _ _ w (by decide) (by first | exact Ints.one 0 rfl w hw | exact Ints.two 0 rfl w hw)))))) ?_
          refine P_det (by rfl) (Over_out (by rfl) (Over_nil (y_not (by rfl)))) ?_
          refine P_det (by rfl) (Over_out (by rfl) (Over_nil (y_move (c := .bool _) (by rfl)))) ?_
          refine P_split 50 (by rfl) (fun g11_6 => ?_) (fun g11_6 => ?_)
          ·
            try simp only [Bool.not_eq_true', Bool.not_eq_false', decide_eq_true_eq, decide_eq_false_iff_not, ne_eq, Classical.not_not, Int.not_lt, Int.not_le] at g11_6
            refine P_no (by rfl) ?_
            refine P_no (by rfl) ?_
            refine P_no (by rfl) ?_
            refine P_no (by rfl) ?_
            refine P_no (by rfl) ?_
            refine P_det (by rfl) (Over_out (by rfl) (Over_nil (by first | exact y_pick_t (c := .bool _) (by rfl) (by rfl) | exact y_pick_f (c := .bool _) (by rfl) (by rfl)))) ?_
            refine P_det (by rfl) (Over_out (by rfl) (Over_nil (y_move (c := .bool _) (by rfl)))) ?_
            refine P_no (by rfl) ?_
            refine P_no (by rfl) ?_
            refine P_no (by rfl) ?_
            refine P_no (by rfl) ?_
            refine P_no (by rfl) ?_
            refine P_no (by rfl) ?_
            refine P_no (by rfl) ?_
            refine P_no (by rfl) ?_
            refine P_no (by rfl) ?_
            refine P_no (by rfl) ?_
            refine P_no (by rfl) ?_
            refine P_no (by rfl) ?_
            refine P_no (by rfl) ?_
            refine P_det (by rfl) (Over_out (by rfl) (Over_nil (by first | exact y_pick_t (c := .bool _) (by rfl) (by rfl) | exact y_pick_f (c := .bool _) (by rfl) (by rfl)))) ?_
            refine PW_end (by rfl) ?_
            refine OverAll_cons (fun w47 l47 => ?_)
            refine OverAll_nil ?_
            rintro ⟨-, h47⟩
            obtain ⟨b5, rfl, rfl⟩ := h47
            refine Then_normal ?_
            refine W_cond (by rfl) (fun c11 => ?_) (fun c11 => ?_)
            ·
              try simp only [Bool.not_eq_true', Bool.not_eq_false', decide_eq_true_eq, decide_eq_false_iff_not, ne_eq, Classical.not_not, Int.not_lt, Int.not_le] at c11
              refine W_seq ?_
              refine W_region_lit (fun ds => ?_)
              refine WS_det hF (by rfl) (y_assign (c := .pointer _) (by rfl)) ?_
              refine WS_det hF (by rfl) (y_assign (c := .int .i64 _) (by rfl)) ?_
              refine WS_nil ?_
              refine Then_normal ?_
              refine W_ret ?_
              refine Then_ret ?_
              refine InB_ret ?_
              refine Then_ret ?_
              refine Loop_ret ?_
              refine InB_ret ?_
              refine Then_ret ?_
              refine Fin_ret [.pointer _, .int .i64 _] [] Try.results77 ⟨by rfl, by rfl, trivial⟩ HSub.nil ?_
              have hbad : l.tk.entB (if k = 0 then 0 else (l.es.getD (k - 1) En.z).day) (l.es.getD k En.z) = false := by
                show l.tk.entB (l.dayAt k) (l.e k) = false
                unfold Tk.entB
                rw [show inB (l.dayAt k) 3652 [(l.e k).day] = false from g11_6]; rfl
              have h31 : l.err = 31 := by simp [Lg.err, Lg.okB, c2, l.tk.entsB_bad (by omega) hbad]
              refine ⟨none, ?_, fun h => by omega, fun _ => rfl⟩
              rw [h31]; rfl
            · cases c11
          ·
            try simp only [Bool.not_eq_true', Bool.not_eq_false', decide_eq_true_eq, decide_eq_false_iff_not, ne_eq, Classical.not_not, Int.not_lt, Int.not_le] at g11_6
            refine P_det (by rfl) (Over_out (by rfl) (Over_nil (y_fieldAddr (by rfl) fa48_1))) ?_
            refine P_det (by rfl) (Over_out (by rfl) (Over_nil (y_load1 (by rfl) Try.isAgg3 (Mem.own1 0 (by rfl) (by rfl))))) ?_
            refine P_new (by rfl) (by rfl) (Over_out (by rfl) (Over_nil (y_buildSliceL bs22_1_0 (by rfl)))) ?_
            refine P_det (by rfl) (Over_in (by rfl) (Over_out (by rfl) (Over_nil (by rintro _ _ ⟨b8, rfl, rfl⟩; exact (y_callL (by rfl) (by rfl) Try.call65 (fun w hw => in_any _ _ _ _ _ _ w (by decide) (by first | exact Ints.one 0 rfl w hw | exact Ints.two 0 rfl w hw))))))) ?_
            refine P_det (by rfl) (Over_out (by rfl) (Over_out (by rfl) (Over_nil (y_not (by rfl))))) ?_
            refine P_det (by rfl) (Over_out (by rfl) (Over_out (by rfl) (Over_nil (by first | exact y_pick_t (c := .bool _) (by rfl) (by rfl) | exact y_pick_f (c := .bool _) (by rfl) (by rfl))))) ?_
            refine P_det (by rfl) (Over_out (by rfl) (Over_out (by rfl) (Over_nil (y_move (c := .bool _) (by rfl))))) ?_
            refine P_split 57 (by rfl) (fun g11_13 => ?_) (fun g11_13 => ?_)
            ·
              try simp only [Bool.not_eq_true', Bool.not_eq_false', decide_eq_true_eq, decide_eq_false_iff_not, ne_eq, Classical.not_not, Int.not_lt, Int.not_le] at g11_13
              refine P_no (by rfl) ?_
              refine P_no (by rfl) ?_
              refine P_no (by rfl) ?_
              refine P_no (by rfl) ?_
              refine P_no (by rfl) ?_
              refine P_no (by rfl) ?_
              refine P_no (by rfl) ?_
              refine P_no (by rfl) ?_
              refine P_no (by rfl) ?_
              refine P_no (by rfl) ?_
              refine P_no (by rfl) ?_
              refine P_no (by rfl) ?_
              refine P_no (by rfl) ?_
              refine P_det (by rfl) (Over_out (by rfl) (Over_out (by rfl) (Over_nil (by first | exact y_pick_t (c := .bool _) (by rfl) (by rfl) | exact y_pick_f (c := .bool _) (by rfl) (by rfl))))) ?_
              refine PW_end (by rfl) ?_
              refine OverAll_cons (fun w53 l53 => ?_)
              refine OverAll_cons (fun w47 l47 => ?_)
              refine OverAll_nil ?_
              rintro ⟨⟨-, h53⟩, h47⟩
              obtain ⟨b5, rfl, rfl⟩ := h47
              obtain ⟨b7, rfl, rfl⟩ := h53
              refine Then_normal ?_
              refine W_cond (by rfl) (fun c11 => ?_) (fun c11 => ?_)
              ·
                try simp only [Bool.not_eq_true', Bool.not_eq_false', decide_eq_true_eq, decide_eq_false_iff_not, ne_eq, Classical.not_not, Int.not_lt, Int.not_le] at c11
                refine W_seq ?_
                refine W_region_lit (fun ds => ?_)
                refine WS_det hF (by rfl) (y_assign (c := .pointer _) (by rfl)) ?_
                refine WS_det hF (by rfl) (y_assign (c := .int .i64 _) (by rfl)) ?_
                refine WS_nil ?_
                refine Then_normal ?_
                refine W_ret ?_
                refine Then_ret ?_
                refine InB_ret ?_
                refine Then_ret ?_
                refine Loop_ret ?_
                refine InB_ret ?_
                refine Then_ret ?_
                refine Fin_ret [.pointer _, .int .i64 _] [] Try.results77 ⟨by rfl, by rfl, trivial⟩ HSub.nil ?_
                have hbad : l.tk.entB (if k = 0 then 0 else (l.es.getD (k - 1) En.z).day) (l.es.getD k En.z) = false := by
                  show l.tk.entB (l.dayAt k) (l.e k) = false
                  unfold Tk.entB
                  rw [show inB 1 3 [(l.e k).kind] = false from g11_13, Bool.and_false]; rfl
                have h31 : l.err = 31 := by simp [Lg.err, Lg.okB, c2, l.tk.entsB_bad (by omega) hbad]
                refine ⟨none, ?_, fun h => by omega, fun _ => rfl⟩
                rw [h31]; rfl
              · cases c11
            ·
              try simp only [Bool.not_eq_true', Bool.not_eq_false', decide_eq_true_eq, decide_eq_false_iff_not, ne_eq, Classical.not_not, Int.not_lt, Int.not_le] at g11_13
              have hkd := inB1.1 g11_13
              obtain ⟨kk, hkk⟩ : ∃ kk : Nat, (l.e k).kind = (kk : Int) := Int.eq_ofNat_of_zero_le (by omega)
              refine P_det (by rfl) (Over_out (by rfl) (Over_out (by rfl) (Over_nil (y_move (c := .pointer _) (by rfl))))) ?_
              refine P_det (by rfl) (Over_out (by rfl) (Over_out (by rfl) (Over_nil (y_fieldAddr (by rfl) fa48_1)))) ?_
              refine P_det (by rfl) (Over_out (by rfl) (Over_out (by rfl) (Over_nil (y_load1 (by rfl) Try.isAgg3 (Mem.own1 0 (by rfl) (by rfl)))))) ?_
              refine P_det (by rfl) (Over_out (by rfl) (Over_out (by rfl) (Over_nil (by first | exact y_nilCheck (by rfl) | exact y_nilCheckF (by rfl))))) ?_
              refine P_det (by rfl) (Over_out (by rfl) (Over_out (by rfl) (Over_nil (y_fieldAddr (by rfl) fa119_2)))) ?_
              refine P_det (by rfl) (Over_out (by rfl) (Over_out (by rfl) (Over_nil (y_indexA (k := kk) (by rfl) (by rfl) (by first | rfl | omega) (by first | decide | omega) Try.runUnderlying117 Try.sizeOf116)))) ?_
              refine P_det (by rfl) (Over_out (by rfl) (Over_out (by rfl) (Over_nil (y_fieldAddr (by rfl) fa116_0)))) ?_
              refine P_det (by rfl) (Over_out (by rfl) (Over_out (by rfl) (Over_nil (y_load1 (by rfl) Try.isAgg113 (by first | exact Mem.own1 0 (by rfl) (right_cell _ l _ cap _ cape kk (by omega)) | exact Mem.own1 1 (by rfl) (right_cell _ l _ cap _ cape kk (by omega)) | exact Mem.own1 2 (by rfl) (right_cell _ l _ cap _ cape kk (by omega))))))) ?_
              refine P_det (by rfl) (Over_out (by rfl) (Over_out (by rfl) (Over_nil (y_move (c := .pointer _) (by rfl))))) ?_
              refine P_det (by rfl) (Over_out (by rfl) (Over_out (by rfl) (Over_nil (y_fieldAddr (by rfl) fa48_2)))) ?_
              refine P_det (by rfl) (Over_out (by rfl) (Over_out (by rfl) (Over_nil (y_loadN (by rfl) Try.isAgg26 Try.sizeOf26 (Mem.own (us := [.int .i64 _, .int .i64 _]) 0 (by rfl) (by rfl)) (by rfl))))) ?_
              refine P_det (by rfl) (Over_out (by rfl) (Over_out (by rfl) (Over_nil (y_callL (by rfl) (by rfl) (right_call _) (fun w hw => right_any _ g 0 l.tk (l.e k).size w (Gg.own (by repeat (first | exact List.mem_cons_self | apply List.mem_cons_of_mem)) c2 hx w hw)))))) ?_
              refine P_det (by rfl) (Over_out (by rfl) (Over_out (by rfl) (Over_nil (y_not (by rfl))))) ?_
              refine P_det (by rfl) (Over_out (by rfl) (Over_out (by rfl) (Over_nil (by first | exact y_pick_t (c := .bool _) (by rfl) (by rfl) | exact y_pick_f (c := .bool _) (by rfl) (by rfl))))) ?_
              refine PW_end (by rfl) ?_
              refine OverAll_cons (fun w53 l53 => ?_)
              refine OverAll_cons (fun w47 l47 => ?_)
              refine OverAll_nil ?_
              rintro ⟨⟨-, h53⟩, h47⟩
              obtain ⟨b5, rfl, rfl⟩ := h47
              obtain ⟨b7, rfl, rfl⟩ := h53
              refine Then_normal ?_
              refine W_cond (by rfl) (fun c11 => ?_) (fun c11 => ?_)
              ·
                try simp only [Bool.not_eq_true', Bool.not_eq_false', decide_eq_true_eq, decide_eq_false_iff_not, ne_eq, Classical.not_not, Int.not_lt, Int.not_le] at c11
                refine W_seq ?_
                refine W_region_lit (fun ds => ?_)
                refine WS_det hF (by rfl) (y_assign (c := .pointer _) (by rfl)) ?_
                refine WS_det hF (by rfl) (y_assign (c := .int .i64 _) (by rfl)) ?_
                refine WS_nil ?_
                refine Then_normal ?_
                refine W_ret ?_
                refine Then_ret ?_
                refine InB_ret ?_
                refine Then_ret ?_
                refine Loop_ret ?_
                refine InB_ret ?_
                refine Then_ret ?_
                refine Fin_ret [.pointer _, .int .i64 _] [] Try.results77 ⟨by rfl, by rfl, trivial⟩ HSub.nil ?_
                have hbad : l.tk.entB (if k = 0 then 0 else (l.es.getD (k - 1) En.z).day) (l.es.getD k En.z) = false := by
                  show l.tk.entB (l.dayAt k) (l.e k) = false
                  unfold Tk.entB
                  rw [show (l.e k).size.inB (l.tk.most (l.e k).kind) = false by rw [hkk]; exact c11, Bool.and_false]
                have h31 : l.err = 31 := by simp [Lg.err, Lg.okB, c2, l.tk.entsB_bad (by omega) hbad]
                refine ⟨none, ?_, fun h => by omega, fun _ => rfl⟩
                rw [h31]; rfl
              ·
                try simp only [Bool.not_eq_true', Bool.not_eq_false', decide_eq_true_eq, decide_eq_false_iff_not, ne_eq, Classical.not_not, Int.not_lt, Int.not_le] at c11
                have hgood : (true && l.tk.entB (if k = 0 then 0 else (l.es.getD (k - 1) En.z).day) (l.es.getD k En.z)) = true := by
                  rw [Bool.true_and]
                  show l.tk.entB (l.dayAt k) (l.e k) = true
                  unfold Tk.entB
                  rw [show inB (l.dayAt k) 3652 [(l.e k).day] = true from g11_6, show inB 1 3 [(l.e k).kind] = true from g11_13, show (l.e k).size.inB (l.tk.most (l.e k).kind) = true by rw [hkk]; exact c11]; rfl
                refine W_skip ?_
                refine Then_normal ?_
                refine W_region_lit (fun ds => ?_)
                refine WS_det hF (by rfl) (y_fieldAddr (by rfl) fa48_0) ?_
                refine WS_det hF (by rfl) (y_load1 (by rfl) Try.isAgg3 (Mem.own1 2 (by rfl) (by rfl))) ?_
                refine WS_det hF (by rfl) (y_assign (c := .int .i64 _) (by rfl)) ?_
                refine WS_nil ?_
                refine InB_normal ?_
                refine Then_normal ?_
                refine W_region_lit (fun ds => ?_)
                refine WS_det hF (by rfl) (y_add (by rfl) (by rfl) (by unfold I64; omega)) ?_
                refine WS_det hF (by rfl) (y_move (c := .int .i64 _) (by rfl)) ?_
                refine WS_nil ?_
                exact Loop_next (k + 1) ⟨by omega, by rw [l.tk.entsB_succ l.es 0 k (by omega), hent]; exact hgood⟩ (by repeat (first | exact trivial | refine ⟨by rfl, ?_⟩)) (by repeat (first | exact List.Sublist.refl _ | exact List.nil_sublist _ | apply List.Sublist.cons_cons | apply List.Sublist.cons)) (by omega)
        ·
          try simp only [Bool.not_eq_true', Bool.not_eq_false', decide_eq_true_eq, decide_eq_false_iff_not, ne_eq, Classical.not_not, Int.not_lt, Int.not_le] at c9
          refine W_exit ?_
          refine Then_exit ?_
          refine Loop_exit ?_
          refine InB_same ?_
          refine Then_normal ?_
          refine W_seq ?_
          refine W_region_lit (fun ds => ?_)
          refine WS_det hF (by rfl) (y_move (c := .pointer _) (by rfl)) ?_
          refine WS_det hF (by rfl) (y_assign (c := .pointer _) (by rfl)) ?_
          refine WS_det hF (by rfl) (y_assign (c := .int .i64 _) (by rfl)) ?_
          refine WS_nil ?_
          refine Then_normal ?_
          refine W_ret ?_
          have h0 : l.err = 0 := by
            have hkn : k = l.es.length := by omega
            rw [hkn, List.take_length] at hent
            have hs : l.start.inB l.tk.full = true := g5_8
            have h12 : decide (l.es.length ≤ 12) = true := by simp; omega
            simp [Lg.err, Lg.okB, c2, hs, hent, h12]
          refine Fin_ret [.pointer _, .int .i64 _] [(bk, _), (g, _)] Try.results77 ⟨by rfl, by rfl, trivial⟩ (HSub.sub (by repeat (first | exact List.nil_sublist _ | apply List.Sublist.cons_cons | apply List.Sublist.cons))) ?_
          refine ⟨_, by rw [h0]; rfl, fun _ => ⟨g, bk, rfl, rfl⟩, fun h => absurd h0 h⟩
end Go.Proofs.Ythkimgfgpphgnaa.T

/- What a tank can hold at all times: the iterator. -/
namespace Go.Proofs.Ythkimgfgpphgnaa.T
open Go.RowKit Go.Proofs Go.Eng
set_option maxRecDepth 100000
set_option linter.unusedVariables false
set_option linter.unusedSimpArgs false



theorem holding_any (bk : Nat) (w : World) : Ct Try.prog 125 #[.pointer (some ⟨bk, 0, none⟩)] w fun v Hn => ∃ bx, v = .func (.func 140) #[] #[.pointer (some ⟨bx, 0, none⟩)] ∧ Hn = [(bx, CB [.pointer (some ⟨bk, 0, none⟩)] 108)] := by
  have hF := wide_wide
  refine Ct_start (args := [_]) Try.func125 (by rfl) Try.ntmps125 (by rfl) ?_
  refine W_seq ?_
  refine W_region_lit (fun ds => ?_)
  refine WS_new hF (by rfl) (y_box (by rfl)) (fun b1 => ?_)
  refine WS_det hF (by rfl) (y_assign (c := _) (by rfl)) ?_
  refine WS_nil ?_
  refine Then_normal ?_
  refine W_seq ?_
  refine W_region_lit (fun ds => ?_)
  refine WS_det hF (by rfl) (y_makeFuncL (by rfl) (by rfl)) ?_
  refine WS_det hF (by rfl) (y_assign (c := _) (by rfl)) ?_
  refine WS_nil ?_
  refine Then_normal ?_
  refine W_ret ?_
  refine Fin_ret [_] [(b1, _)] Try.results125 ⟨by rfl, trivial⟩ (HSub.sub (by repeat (first | exact List.nil_sublist _ | apply List.Sublist.cons_cons | apply List.Sublist.cons))) ?_
  exact ⟨_, rfl, rfl⟩
theorem Bk.own {C : Ctx} {H : List Blk} {bk g : Nat} {l : Lg} {a : Option Addr} {cap : Nat} {ae : Option Addr} {cape : Nat} (hb : (bk, CB (bookCells g l a cap ae cape) 119) ∈ H) (hg : (g, CB (gaugeCells l.tk a cap) 98) ∈ H) (hok : l.Ok) (hx : Ints C.w0 a l.tk.n cap l.tk.pints) (he : Ens C.w0 ae l.es.length cape l.es)
    (w : World) (hw : St C H w) : Bk w bk l := by
  obtain ⟨i, hi, hii⟩ := List.mem_iff_getElem.1 hb
  exact ⟨hok, g, a, cap, ae, cape, Mem.own (rest := []) i ((List.getElem?_eq_getElem hi).trans (congrArg some hii)) (by rw [List.append_nil]; rfl) w hw, Gg.own hg (Tk.ok_iff.2 hok.tk) hx w hw, he.st w hw⟩
end Go.Proofs.Ythkimgfgpphgnaa.T

/- What a tank can hold: pure. -/
namespace Go.Proofs.Ythkimgfgpphgnaa.T
open Go.RowKit Go.Proofs Go.Eng
set_option maxRecDepth 100000
set_option linter.unusedVariables false

def Lg.hold (l : Lg) : Nat → Sn
  | 0 => l.start
  | k + 1 => l.after k (l.hold k)
def Sn.empty (s : Sn) : Bool := decide (s.hi < s.lo)
/-- How many times are told, from one on: till there is nothing, or no entry more. -/
def Lg.steps (l : Lg) (k : Nat) : Nat → Nat
  | 0 => 1
  | m + 1 => if (l.hold k).empty then 1 else 1 + l.steps (k + 1) m
theorem Lg.Ok.hold_bd {l : Lg} (h : l.Ok) : ∀ k, k ≤ l.es.length → (∀ j, j < k → (l.hold j).empty = false) → 0 ≤ (l.hold k).lo ∧ (l.hold k).hi ≤ l.tk.full ∧ (l.hold k).lo ≤ 700000 ∧ -700000 ≤ (l.hold k).hi
  | 0, _, _ => by
    have := Sn.inB_iff.1 h.start
    have := h.tk.full_bd
    show 0 ≤ l.start.lo ∧ l.start.hi ≤ _ ∧ _ ∧ _
    refine ⟨by omega, by omega, ?_, ?_⟩
    · show l.start.lo ≤ _; omega
    · show _ ≤ l.start.hi; omega
  | k + 1, hk, hj => by
    have ih := Lg.Ok.hold_bd h k (by omega) fun j hjk => hj j (by omega)
    have he := hj k (by omega)
    unfold Sn.empty at he
    simp only [decide_eq_false_iff_not, Int.not_lt] at he
    have hd := h.drip_bd (i := k) (by omega)
    have hf := h.tk.full_bd
    have hz := Sn.inB_iff.1 (h.size k (by omega))
    have hhb : l.tk.height ≤ 160 := by have := h.tk.n21; unfold Tk.height; omega
    have hup := h.tk.eight_bd (x := (l.e k).size.lo)
    have hdn := h.tk.eight_bd (x := (l.e k).size.hi)
    show 0 ≤ (l.after k (l.hold k)).lo ∧ (l.after k (l.hold k)).hi ≤ _ ∧ (l.after k (l.hold k)).lo ≤ 700000 ∧ -700000 ≤ (l.after k (l.hold k)).hi
    generalize l.hold k = s at *
    unfold Lg.after Tk.forth Lg.before
    unfold Tk.most at hz
    split
    · rename_i h1
      rw [if_neg (by omega)] at hz
      simp only [Sn.met, Sn.add, Tk.all]
      omega
    · split
      · rename_i h1 h2
        rw [if_neg (by omega)] at hz
        simp only [Sn.met, Sn.sub, Tk.all]
        omega
      · rename_i h1 h2
        have hk := h.kind k (by omega)
        rw [if_pos (by omega)] at hz
        have hup := hup (by omega) (by omega)
        have hdn := hdn (by omega) (by omega)
        simp only [Sn.met, Tk.dip, Tk.up, Tk.down]
        omega
end Go.Proofs.Ythkimgfgpphgnaa.T

/- The iterator of what a tank can hold. -/
namespace Go.Proofs.Ythkimgfgpphgnaa.T
open Go.RowKit Go.Proofs Go.Eng
set_option maxRecDepth 100000
set_option linter.unusedVariables false
set_option linter.unusedSimpArgs false



theorem Lg.Ok.hold_sm {l : Lg} (h : l.Ok) {k : Nat} (hk : k ≤ l.es.length) (hj : ∀ j, j < k → (l.hold j).empty = false) (he : (l.hold k).empty = false) : (l.hold k).Sm := by
  have h1 := h.hold_bd k hk hj
  have hf := h.tk.full_bd
  unfold Sn.empty at he
  simp only [decide_eq_false_iff_not, Int.not_lt] at he
  unfold Sn.Sm
  omega
def Lg.times (l : Lg) : Nat := l.steps 0 l.es.length
theorem Lg.steps_pos (l : Lg) (k m : Nat) : 1 ≤ l.steps k m := by
  cases m with
  | zero => exact Nat.le_refl _
  | succ m => unfold Lg.steps; split <;> omega

theorem Lg.steps_more (l : Lg) {k m : Nat} (he : (l.hold k).empty = false) : l.steps k (m + 1) = 1 + l.steps (k + 1) m := by
  rw [Lg.steps, he]; rfl
theorem Lg.steps_end (l : Lg) {k m : Nat} (he : (l.hold k).empty = true) : l.steps k m = 1 := by
  cases m with
  | zero => rfl
  | succ m => rw [Lg.steps, he]; rfl
theorem holding_it (l : Lg) (w0 : World) (ds0 out0 : List Deferred) (bx bk g : Nat) (a : Option Addr) (cap : Nat) (ae : Option Addr) (cape : Nat) (hok : l.Ok) (hx : Ints w0 a l.tk.n cap l.tk.pints) (he : Ens w0 ae l.es.length cape l.es) :
    It ⟨Try.prog, w0, ds0, out0⟩ 140 [.pointer (some ⟨bx, 0, none⟩)] (fun k => [.int .i64 (k : Int), .agg (l.hold k).cells.toArray]) l.times
      [(bx, CB [.pointer (some ⟨bk, 0, none⟩)] 108), (bk, CB (bookCells g l a cap ae cape) 119), (g, CB (gaugeCells l.tk a cap) 98)] := by
  intro lp J Jx hY G hJ
  have h0 : 0 < l.times := l.steps_pos 0 _
  have hn := hok.n12
  have he0 : (l.hold 0).empty = false := by
    have := Sn.inB_iff.1 hok.start
    show decide (l.start.hi < l.start.lo) = false
    simp only [decide_eq_false_iff_not]; omega
  have hF := wide_wide
  refine Cs_start (args := [_, _]) Try.func140 (by rfl) Try.ntmps140 (by rfl) ?_
  refine W_seq ?_
  refine W_region_lit (fun ds => ?_)
  refine WS_det hF (by rfl) (y_load1 (by rfl) Try.isAgg108 (Mem.own1 0 (by rfl) (by rfl))) ?_
  refine WS_det hF (by rfl) (by first | exact y_nilCheck (by rfl) | exact y_nilCheckF (by rfl)) ?_
  refine WS_det hF (by rfl) (y_fieldAddr (by rfl) fa119_1) ?_
  refine WS_det hF (by rfl) (y_fieldAddr (by rfl) fa46_1) ?_
  refine WS_det hF (by rfl) (y_loadN (by rfl) Try.isAgg26 Try.sizeOf26 (Mem.own (us := [.int .i64 _, .int .i64 _]) 1 (by rfl) (by rfl)) (by rfl)) ?_
  refine WS_new hF (by rfl) (y_alloc Try.zeroValue26 (by rfl)) (fun b1 => ?_)
  refine WS_store hF (i := 0) (by rfl) (by rfl) Try.sizeOf26 (by rfl) (by rfl) (by rfl) (by first | decide | exact Nat.le_of_ble_eq_true rfl | simp) ?_
  refine WS_nil ?_
  refine Then_normal ?_
  refine W_seq ?_
  refine W_seq ?_
  refine W_region_lit (fun ds => ?_)
  refine WS_det hF (by rfl) (y_move (c := _) (by rfl)) ?_
  refine WS_det hF (by rfl) (y_loadN (by rfl) Try.isAgg26 Try.sizeOf26 (Mem.own (us := [.int .i64 _, .int .i64 _]) 0 (by rfl) (by rfl)) (by rfl)) ?_
  refine WS_yield (by rfl) (by rfl) (by rfl) (hY 0 h0 ds [_, _, _, _] G hJ) ?_
  rintro yb _ ⟨G1, rfl, hb⟩
  refine WS_det hF (by rfl) (y_not (by rfl)) ?_
  refine WS_nil ?_
  refine Then_normal ?_
  refine W_cond (by rfl) (fun c1 => ?_) (fun c1 => ?_)
  ·
    try simp only [Bool.not_eq_true', Bool.not_eq_false', decide_eq_true_eq, decide_eq_false_iff_not, ne_eq, Classical.not_not, Int.not_lt, Int.not_le] at c1
    obtain ⟨rfl, hj⟩ | ⟨_, hj⟩ := hb
    · cases c1
    refine W_ret ?_
    refine Then_ret ?_
    refine Fin_ret [] ((bx, _) :: (bk, _) :: (g, _) :: G1) Try.results140 trivial (HSub.sub (by repeat (first | exact List.Sublist.refl _ | exact List.nil_sublist _ | apply List.Sublist.cons_cons | apply List.Sublist.cons))) ?_
    exact ⟨G1, rfl, .inr ⟨0, h0, hj⟩⟩
  ·
    try simp only [Bool.not_eq_true', Bool.not_eq_false', decide_eq_true_eq, decide_eq_false_iff_not, ne_eq, Classical.not_not, Int.not_lt, Int.not_le] at c1
    obtain ⟨_, hj⟩ | ⟨rfl, hj⟩ := hb
    case inr => cases c1
    refine W_skip ?_
    refine Then_normal ?_
    refine W_seq ?_
    refine W_region_lit (fun ds => ?_)
    refine WS_det hF (by rfl) (y_load1 (by rfl) Try.isAgg108 (Mem.own1 1 (by rfl) (by rfl))) ?_
    refine WS_det hF (by rfl) (by first | exact y_nilCheck (by rfl) | exact y_nilCheckF (by rfl)) ?_
    refine WS_det hF (by rfl) (y_fieldAddr (by rfl) fa119_1) ?_
    refine WS_det hF (by rfl) (y_fieldAddr (by rfl) fa46_2) ?_
    refine WS_det hF (by rfl) (y_load1 (by rfl) Try.isAgg44 (Mem.own1 2 (by rfl) (by rfl))) ?_
    refine WS_det hF (by rfl) (y_len (by rfl) Try.runUnderlying44) ?_
    refine WS_det hF (by rfl) (y_move (c := .int .i64 _) (by rfl)) ?_
    refine WS_nil ?_
    refine Then_normal ?_
    refine W_block ?_
    refine W_loop (γ := Nat × List Blk) (fun p => p.1 ≤ l.es.length ∧ (∀ j, j ≤ p.1 → (l.hold j).empty = false) ∧ l.times = p.1 + l.steps p.1 (l.es.length - p.1) ∧ J (p.1 + 1) p.2) (fun p => [(0, .func (.yield lp) #[] #[]), (1, .pointer (some ⟨bx, 0, none⟩)), (3, .pointer (some ⟨b1, 0, none⟩)), (19, .int .i64 (l.es.length : Int)), (20, .int .i64 (p.1 : Int))]) (fun p => (b1, CB (l.hold p.1).cells 26) :: (bx, CB [.pointer (some ⟨bk, 0, none⟩)] 108) :: (bk, CB (bookCells g l a cap ae cape) 119) :: (g, CB (gaugeCells l.tk a cap) 98) :: p.2) (fun p => l.es.length - p.1) ((0, G1)) ⟨Nat.zero_le _, fun j hj => by obtain rfl : j = 0 := (by omega); exact he0, by show l.times = 0 + l.times; omega, hj⟩ (by repeat (first | exact trivial | refine ⟨by rfl, ?_⟩)) (List.Sublist.refl _) ?_
    rintro ⟨k, G2⟩ e ⟨hk, hne, htm, hj2⟩
    refine W_seq ?_
    refine W_region_lit (fun ds => ?_)
    refine WS_det hF (by rfl) (y_lss (by rfl) (by rfl)) ?_
    refine WS_nil ?_
    refine Then_normal ?_
    refine W_seq ?_
    refine W_cond (by rfl) (fun c3 => ?_) (fun c3 => ?_)
    ·
      try simp only [Bool.not_eq_true', Bool.not_eq_false', decide_eq_true_eq, decide_eq_false_iff_not, ne_eq, Classical.not_not, Int.not_lt, Int.not_le] at c3
      have hk1 : k + 1 < l.times := by
        rw [htm, show l.es.length - k = (l.es.length - (k + 1)) + 1 by omega, l.steps_more (hne k (Nat.le_refl _))]
        have := l.steps_pos (k + 1) (l.es.length - (k + 1))
        omega
      refine W_skip ?_
      refine Then_normal ?_
      refine W_seq ?_
      refine W_block ?_
      refine W_seq ?_
      refine W_region_lit (fun ds => ?_)
      refine WS_det hF (by rfl) (y_move (c := .int .i64 _) (by rfl)) ?_
      refine WS_det hF (by rfl) (y_assign (c := .int .i64 _) (by rfl)) ?_
      refine WS_nil ?_
      refine Then_normal ?_
      refine W_seq ?_
      refine W_region_lit (fun ds => ?_)
      refine WS_det hF (by rfl) (y_load1 (by rfl) Try.isAgg108 (Mem.own1 1 (by rfl) (by rfl))) ?_
      refine WS_det hF (by rfl) (y_move (c := .int .i64 _) (by rfl)) ?_
      refine WS_det hF (by rfl) (y_loadN (by rfl) Try.isAgg26 Try.sizeOf26 (Mem.own (us := [.int .i64 _, .int .i64 _]) 0 (by rfl) (by rfl)) (by rfl)) ?_
      refine WS_det hF (by rfl) (y_callL (by rfl) (by rfl) Try.call103 (fun w hw => after_any bk l k (l.hold k) w (Bk.own (by repeat (first | exact List.mem_cons_self | apply List.mem_cons_of_mem)) (by repeat (first | exact List.mem_cons_self | apply List.mem_cons_of_mem)) hok hx he w hw) (by omega) (hok.hold_sm (by omega) (fun j hj => hne j (by omega)) (hne k (Nat.le_refl _))))) ?_
      refine WS_store hF (i := 0) (by rfl) (by rfl) Try.sizeOf26 (by rfl) (by rfl) (by rfl) (by first | decide | exact Nat.le_of_ble_eq_true rfl | simp) ?_
      refine WS_nil ?_
      refine Then_normal ?_
      refine W_seq ?_
      refine W_region_lit (fun ds => ?_)
      refine WS_det hF (by rfl) (y_move (c := _) (by rfl)) ?_
      refine WS_det hF (by rfl) (y_move (c := .int .i64 _) (by rfl)) ?_
      refine WS_det hF (by rfl) (y_add (by rfl) (by rfl) (by unfold I64; omega)) ?_
      refine WS_det hF (by rfl) (y_loadN (by rfl) Try.isAgg26 Try.sizeOf26 (Mem.own (us := [.int .i64 _, .int .i64 _]) 0 (by rfl) (by rfl)) (by rfl)) ?_
      refine WS_yield (by rfl) (by rfl) (by rfl) (hY (k + 1) hk1 ds [_, _, _, _] G2 hj2) ?_
      rintro yb _ ⟨G3, rfl, hb⟩
      refine WS_det hF (by rfl) (y_not (by rfl)) ?_
      refine WS_det hF (by rfl) (y_move (c := .bool _) (by rfl)) ?_
      refine WS_split 33 (by rfl) (fun g6_6 => ?_) (fun g6_6 => ?_)
      ·
        try simp only [Bool.not_eq_true', Bool.not_eq_false', decide_eq_true_eq, decide_eq_false_iff_not, ne_eq, Classical.not_not, Int.not_lt, Int.not_le] at g6_6
        obtain ⟨rfl, hj3⟩ | ⟨_, hj3⟩ := hb
        · cases g6_6
        refine WS_no hF (by rfl) ?_
        refine WS_no hF (by rfl) ?_
        refine WS_det hF (by rfl) (by first | exact y_pick_t (c := .bool _) (by rfl) (by rfl) | exact y_pick_f (c := .bool _) (by rfl) (by rfl)) ?_
        refine WS_nil ?_
        refine Then_normal ?_
        refine W_cond (by rfl) (fun c6 => ?_) (fun c6 => ?_)
        ·
          try simp only [Bool.not_eq_true', Bool.not_eq_false', decide_eq_true_eq, decide_eq_false_iff_not, ne_eq, Classical.not_not, Int.not_lt, Int.not_le] at c6
          refine W_ret ?_
          refine InB_ret ?_
          refine Then_ret ?_
          refine Loop_ret ?_
          refine InB_ret ?_
          refine Fin_ret [] ((bx, _) :: (bk, _) :: (g, _) :: G3) Try.results140 trivial (HSub.sub (by repeat (first | exact List.Sublist.refl _ | exact List.nil_sublist _ | apply List.Sublist.cons_cons | apply List.Sublist.cons))) ?_
          exact ⟨G3, rfl, .inr ⟨k + 1, hk1, hj3⟩⟩
        · cases c6
      ·
        try simp only [Bool.not_eq_true', Bool.not_eq_false', decide_eq_true_eq, decide_eq_false_iff_not, ne_eq, Classical.not_not, Int.not_lt, Int.not_le] at g6_6
        obtain ⟨_, hj3⟩ | ⟨rfl, hj3⟩ := hb
        case inr => cases g6_6
        refine WS_det hF (by rfl) (y_loadN (by rfl) Try.isAgg26 Try.sizeOf26 (Mem.own (us := [.int .i64 _, .int .i64 _]) 0 (by rfl) (by rfl)) (by rfl)) ?_
        refine WS_det hF (by rfl) (y_callL (by rfl) (by rfl) Try.call74 (fun w hw => empty_any (l.hold (k + 1)).lo (l.hold (k + 1)).hi w)) ?_
        refine WS_det hF (by rfl) (by first | exact y_pick_t (c := .bool _) (by rfl) (by rfl) | exact y_pick_f (c := .bool _) (by rfl) (by rfl)) ?_
        refine WS_nil ?_
        refine Then_normal ?_
        refine W_cond (by rfl) (fun c6 => ?_) (fun c6 => ?_)
        ·
          try simp only [Bool.not_eq_true', Bool.not_eq_false', decide_eq_true_eq, decide_eq_false_iff_not, ne_eq, Classical.not_not, Int.not_lt, Int.not_le] at c6
          refine W_ret ?_
          refine InB_ret ?_
          refine Then_ret ?_
          refine Loop_ret ?_
          refine InB_ret ?_
          refine Fin_ret [] ((bx, _) :: (bk, _) :: (g, _) :: G3) Try.results140 trivial (HSub.sub (by repeat (first | exact List.Sublist.refl _ | exact List.nil_sublist _ | apply List.Sublist.cons_cons | apply List.Sublist.cons))) ?_
          refine ⟨G3, rfl, .inl ?_⟩
          rw [htm, show l.es.length - k = (l.es.length - (k + 1)) + 1 by omega, l.steps_more (hne k (Nat.le_refl _)), l.steps_end (by unfold Sn.empty; simp only [decide_eq_true_eq]; omega)]
          rw [show k + (1 + 1) = k + 1 + 1 by omega]
          exact hj3
        ·
          try simp only [Bool.not_eq_true', Bool.not_eq_false', decide_eq_true_eq, decide_eq_false_iff_not, ne_eq, Classical.not_not, Int.not_lt, Int.not_le] at c6
          have hne1 : ∀ j, j ≤ k + 1 → (l.hold j).empty = false := fun j hj => by
            obtain hj | rfl : j ≤ k ∨ j = k + 1 := by omega
            · exact hne j hj
            · unfold Sn.empty; simp only [decide_eq_false_iff_not]; omega
          have htm1 : l.times = (k + 1) + l.steps (k + 1) (l.es.length - (k + 1)) := by
            rw [htm, show l.es.length - k = (l.es.length - (k + 1)) + 1 by omega, l.steps_more (hne k (Nat.le_refl _))]; omega
          refine W_skip ?_
          refine InB_normal ?_
          refine Then_normal ?_
          refine W_region_lit (fun ds => ?_)
          refine WS_det hF (by rfl) (y_add (by rfl) (by rfl) (by unfold I64; omega)) ?_
          refine WS_det hF (by rfl) (y_move (c := .int .i64 _) (by rfl)) ?_
          refine WS_nil ?_
          exact Loop_next (k + 1, G3) ⟨by omega, hne1, htm1, hj3⟩ (by repeat (first | exact trivial | refine ⟨by rfl, ?_⟩)) (by repeat (first | exact List.Sublist.refl _ | exact List.nil_sublist _ | apply List.Sublist.cons_cons | apply List.Sublist.cons)) (by simp only; omega)
    ·
      try simp only [Bool.not_eq_true', Bool.not_eq_false', decide_eq_true_eq, decide_eq_false_iff_not, ne_eq, Classical.not_not, Int.not_lt, Int.not_le] at c3
      refine W_exit ?_
      refine Then_exit ?_
      refine Loop_exit ?_
      refine InB_same ?_
      refine Fin_norm [] ((bx, _) :: (bk, _) :: (g, _) :: G2) Try.results140 trivial (HSub.sub (by repeat (first | exact List.Sublist.refl _ | exact List.nil_sublist _ | apply List.Sublist.cons_cons | apply List.Sublist.cons))) ?_
      refine ⟨G2, rfl, .inl ?_⟩
      obtain rfl : k = l.es.length := by omega
      rw [htm, Nat.sub_self]; exact hj2
end Go.Proofs.Ythkimgfgpphgnaa.T

/- make of slices; rows of several cells each. No project text. -/
namespace Go.Eng
open Go.RowKit
def rowOf {α : Type} (enc : α → List Value) (f : Nat → α) (n : Nat) : List Value := (List.range n).flatMap fun k => enc (f k)
section
variable {α : Type} {enc : α → List Value} {sz : Nat}
theorem rowOf_succ (f : Nat → α) (n : Nat) : rowOf enc f (n + 1) = rowOf enc f n ++ enc (f n) := by
  unfold rowOf; rw [List.range_succ, List.flatMap_append]; simp
theorem rowOf_len (hz : ∀ x, (enc x).length = sz) (f : Nat → α) : ∀ n, (rowOf enc f n).length = n * sz
  | 0 => by simp [rowOf]
  | n + 1 => by rw [rowOf_succ, List.length_append, rowOf_len hz f n, hz, Nat.add_mul, Nat.one_mul]
theorem rowOf_congr {f g : Nat → α} : ∀ n, (∀ k, k < n → f k = g k) → rowOf enc f n = rowOf enc g n
  | 0, _ => rfl
  | n + 1, h => by rw [rowOf_succ, rowOf_succ, rowOf_congr n fun k hk => h k (by omega), h n (by omega)]
theorem rowOf_split (hz : ∀ x, (enc x).length = sz) (f : Nat → α) (k : Nat) : ∀ n, k < n → ∃ t, rowOf enc f n = rowOf enc f k ++ (enc (f k) ++ t) ∧ t = rowOf enc (fun j => f (k + 1 + j)) (n - (k + 1))
  | n + 1, h => by
    by_cases hk : k = n
    · subst hk
      exact ⟨[], by rw [rowOf_succ, List.append_nil], by rw [Nat.sub_self]; rfl⟩
    · obtain ⟨t, h1, h2⟩ := rowOf_split hz f k n (by omega)
      refine ⟨t ++ enc (f n), by rw [rowOf_succ, h1]; simp, ?_⟩
      rw [show n + 1 - (k + 1) = (n - (k + 1)) + 1 by omega, rowOf_succ, ← h2, show k + 1 + (n - (k + 1)) = n by omega]
/-- What lies at an element. -/
theorem rowOf_drop (hz : ∀ x, (enc x).length = sz) (f : Nat → α) {k n : Nat} (h : k < n) : ∃ t, (rowOf enc f n).drop (k * sz) = enc (f k) ++ t := by
  obtain ⟨t, h1, _⟩ := rowOf_split hz f k n h
  exact ⟨t, by rw [h1, ← rowOf_len hz f k, List.drop_left]⟩
theorem rowOf_get (hz : ∀ x, (enc x).length = sz) (f : Nat → α) {k n j : Nat} (h : k < n) {v : Value} (hv : (enc (f k))[j]? = some v) : (rowOf enc f n)[k * sz + j]? = some v := by
  obtain ⟨t, ht⟩ := rowOf_drop hz f h
  have h2 := congrArg (fun l => l[j]?) ht
  simp only [List.getElem?_drop] at h2
  rw [h2, List.getElem?_append_left (by have := List.getElem?_eq_some_iff.1 hv; exact this.1)]; exact hv
/-- One element more is written. -/
theorem rowOf_splice (hz : ∀ x, (enc x).length = sz) {f g : Nat → α} {k n : Nat} (h : k < n) {us : List Value} (hk : us = enc (g k)) (ho : ∀ j, j < n → j ≠ k → g j = f j) : splice (rowOf enc f n) (k * sz) us = rowOf enc g n := by
  obtain ⟨t, h1, h2⟩ := rowOf_split hz f k n h
  obtain ⟨t', h1', h2'⟩ := rowOf_split hz g k n h
  have ht : t = t' := by
    rw [h2, h2']
    exact rowOf_congr _ fun j hj => (ho _ (by omega) (by omega)).symm
  have hp : rowOf enc f k = rowOf enc g k := rowOf_congr k fun j hj => (ho j (by omega) (by omega)).symm
  subst hk
  unfold splice
  rw [h1', ← ht, ← hp, h1, hz, ← rowOf_len hz f k, List.take_left, List.append_assoc]
  congr 2
  rw [List.drop_append, List.drop_of_length_le (by omega), List.nil_append, Nat.add_sub_cancel_left, ← hz (f k), List.drop_left]
end
theorem range_mod (zs : List Value) : ∀ n, (List.range (n * zs.length)).map (fun i => zs[i % zs.length]!) = (List.range n).flatMap fun _ => zs
  | 0 => by simp
  | n + 1 => by
    rw [Nat.add_mul, Nat.one_mul, List.range_add, List.map_append, range_mod zs n, List.range_succ, List.flatMap_append]
    congr 1
    simp only [List.flatMap_cons, List.flatMap_nil, List.append_nil, List.map_map]
    refine List.ext_getElem (by simp) fun i h1 h2 => ?_
    simp only [List.getElem_map, List.getElem_range, Function.comp]
    rw [Nat.add_comm, Nat.add_mul_mod_self_right, Nat.mod_eq_of_lt h2]
    simp [h2]
section
variable {C : Ctx} {e : Env} {H : List Blk} {d : Option Tmp} {ty : TypeId} {pos : String} {af : Array Edge} {g : Option (Nat × Bool)}
theorem run_makeSlice {P : Program} {w : World} {T E : TypeId} {i : TypeInfo} {z : Value} {zs : List Value} {kl kc : IntKind} {n : Nat} (hT : P.underlying T = some (.slice E)) (hi : P.info? E = some i) (hz : i.zero = some z) (hzs : z.cells = zs.toArray) (hsz : zs.length = i.size)
    (hb : n * i.bytes ≤ 140737488355328) (hn : n ≤ 140737488355328) :
    (Instr.makeSlice T (.int kl n) (.int kc n)).run P w = .ok (.slice (some ⟨w.heap.size, 0, none⟩) n n) (w.alloc (CB ((List.range n).flatMap fun _ => zs) E)) := by
  have wl : IntKind.i64.wrap (n : Int) = n := by rw [IntKind.wrap_i64]; omega
  have hb' : (i.bytes : Int) * (n : Int) ≤ 281474976710656 := by
    have h : ((n * i.bytes : Nat) : Int) ≤ 281474976710656 := by omega
    rw [Int.natCast_mul] at h
    rwa [Int.mul_comm]
  have n1 : ¬ (n : Int) < 0 := by omega
  have n2 : ¬ (281474976710656 < (i.bytes : Int) * (n : Int)) := by omega
  have hcells : (Array.map (fun x => zs[x % i.size]!) (Array.range (n * i.size))) = ((List.range n).flatMap fun _ => zs).toArray := by
    have h := range_mod zs n
    rw [hsz] at h
    rw [← h, ← List.map_toArray, ← Array.toList_range]
  by_cases h0 : n * i.size = 0
  · have hz0 : (List.range n).flatMap (fun _ => zs) = [] := by
      rw [← range_mod zs n, hsz, h0]; rfl
    simp [go_sem, Instr.makeSlice, run_underlying hT, typeInfo, sizeOf, hi, asInt, asIntOf, wl, n1, n2, askRoom, h0, newRow, newObj, CB, hz0]
    rfl
  · unfold CB
    rw [← hcells]
    have hz2 := hzs
    unfold Value.cells at hz2
    have hg : ∀ x : Nat, zs.toArray[x]! = zs[x]! := fun x => by simp
    simp [-List.getElem!_eq_getElem?_getD, go_sem, Instr.makeSlice, run_underlying hT, typeInfo, sizeOf, hi, asInt, asIntOf, wl, n1, n2, askRoom, h0, newRow, newObj, zeroValue, hz]
    simp only [hz2, List.size_toArray, hsz, hg]
    rfl
theorem y_makeSlice {x y : Operand} {T E : TypeId} {z : Value} {zs : List Value} {kl kc : IntKind} {n sz by_ : Nat} {l c : Int} (hx : ev e x = .int kl l) (hy : ev e y = .int kc c) (hl : l = (n : Int)) (hc : c = (n : Int))
    (hT : C.P.underlying T = some (.slice E)) (hinf : (C.P.info? E).map (fun i => (i.zero, i.size, i.bytes)) = some (some z, sz, by_)) (hzs : z.cells = zs.toArray) (hsz : zs.length = sz) (hb : n * by_ ≤ 140737488355328) (hn : n ≤ 140737488355328) :
    YR C ⟨d, .makeSlice T x y, ty, pos, af, g⟩ e H (NewSlice (CB ((List.range n).flatMap fun _ => zs) E) n) := fun w _ => by
  obtain ⟨i, hi, hz, hsz', hby⟩ := info_parts hinf
  subst hl hc hsz' hby
  have : (execOp (ev e) ⟨d, .makeSlice T x y, ty, pos, af, g⟩).run C.P w = .ok (.value (.slice (some ⟨w.heap.size, 0, none⟩) n n)) (w.alloc (CB ((List.range n).flatMap fun _ => zs) E)) := by
    simp [execOp, hx, hy, run_makeSlice (w := w) (kl := kl) (kc := kc) hT hi hz hzs hsz hb hn]
  rw [this]; exact out_new (fun h => by cases h) ⟨_, rfl, rfl⟩
end
end Go.Eng

/- What may come before and after, by the entries behind: pure. -/
namespace Go.Proofs.Ythkimgfgpphgnaa.T
open Go.RowKit Go.Proofs Go.Eng
set_option maxRecDepth 100000
set_option linter.unusedVariables false

def Lg.aftR (l : Lg) : Nat → Sn
  | 0 => l.tk.all
  | m + 1 => ⟨(l.tk.back (l.e (l.es.length - (m + 1))) (l.aftR m)).lo, min l.tk.full ((l.tk.back (l.e (l.es.length - (m + 1))) (l.aftR m)).hi + l.drip (l.es.length - (m + 1)))⟩
def Lg.aft (l : Lg) (i : Nat) : Sn := l.aftR (l.es.length - i)
def Lg.ahd (l : Lg) (i : Nat) : Sn := l.tk.back (l.e i) (l.aft (i + 1))
theorem Lg.aft_n (l : Lg) : l.aft l.es.length = l.tk.all := by unfold Lg.aft; rw [Nat.sub_self]; rfl
theorem Lg.aft_lt (l : Lg) {i : Nat} (h : i < l.es.length) : l.aft i = ⟨(l.ahd i).lo, min l.tk.full ((l.ahd i).hi + l.drip i)⟩ := by
  unfold Lg.ahd Lg.aft
  obtain ⟨m, hm⟩ : ∃ m, l.es.length - i = m + 1 := ⟨l.es.length - i - 1, by omega⟩
  rw [hm, Lg.aftR, show l.es.length - (m + 1) = i by omega, show l.es.length - (i + 1) = m by omega]
def Sn.BB (s : Sn) (f k : Int) : Prop := 0 ≤ s.lo ∧ s.hi ≤ f ∧ s.lo ≤ 700000 * k ∧ -(700000 * k) ≤ s.hi
theorem Lg.Ok.back_bd {l : Lg} (h : l.Ok) {i : Nat} (hi : i < l.es.length) {s : Sn} {k : Int} (hk : 1 ≤ k) (hs : s.BB l.tk.full k) : (l.tk.back (l.e i) s).BB l.tk.full (k + 1) := by
  have hf := h.tk.full_bd
  have hz := Sn.inB_iff.1 (h.size i hi)
  have hhb : l.tk.height ≤ 160 := by have := h.tk.n21; unfold Tk.height; omega
  have hup := h.tk.eight_bd (x := (l.e i).size.lo)
  have hdn := h.tk.eight_bd (x := (l.e i).size.hi)
  have hkd := h.kind i hi
  unfold Sn.BB at hs ⊢
  unfold Tk.back
  unfold Tk.most at hz
  split
  · rename_i h1
    rw [if_neg (by omega)] at hz
    simp only [Sn.met, Sn.sub, Tk.all]
    omega
  · split
    · rename_i h1 h2
      rw [if_neg (by omega)] at hz
      simp only [Sn.met, Sn.add, Tk.all]
      omega
    · rename_i h1 h2
      rw [if_pos (by omega)] at hz
      have hup := hup (by omega) (by omega)
      have hdn := hdn (by omega) (by omega)
      simp only [Sn.met, Tk.dip, Tk.up, Tk.down]
      omega
theorem Lg.Ok.aftR_bd {l : Lg} (h : l.Ok) : ∀ m, m ≤ l.es.length → (l.aftR m).BB l.tk.full (m + 1)
  | 0, _ => by
    have hf := h.tk.full_bd
    unfold Lg.aftR Sn.BB Tk.all
    simp only
    omega
  | m + 1, hm => by
    have hb := h.back_bd (i := l.es.length - (m + 1)) (by omega) (k := m + 1) (by omega) (Lg.Ok.aftR_bd h m (by omega))
    have hd := h.drip_bd (i := l.es.length - (m + 1)) (by omega)
    have hf := h.tk.full_bd
    unfold Lg.aftR
    unfold Sn.BB at hb ⊢
    push_cast
    omega
theorem Lg.Ok.aft_bd {l : Lg} (h : l.Ok) {i : Nat} (hi : i ≤ l.es.length) : 0 ≤ (l.aft i).lo ∧ (l.aft i).hi ≤ l.tk.full ∧ (l.aft i).lo ≤ 10000000 ∧ -10000000 ≤ (l.aft i).hi := by
  have := h.aftR_bd (l.es.length - i) (by omega)
  have h12 := h.n12
  unfold Sn.BB at this
  unfold Lg.aft
  omega
theorem Lg.Ok.ahd_bd {l : Lg} (h : l.Ok) {i : Nat} (hi : i < l.es.length) : 0 ≤ (l.ahd i).lo ∧ (l.ahd i).hi ≤ l.tk.full ∧ (l.ahd i).lo ≤ 10000000 ∧ -10000000 ≤ (l.ahd i).hi := by
  have := h.back_bd hi (k := (l.es.length - (i + 1) : Nat) + 1) (by omega) (h.aftR_bd (l.es.length - (i + 1)) (by omega))
  have h12 := h.n12
  unfold Sn.BB at this
  unfold Lg.ahd Lg.aft
  omega
end Go.Proofs.Ythkimgfgpphgnaa.T

/- slices.Backward over entries, and what the tank can hold by what is behind: the walks. -/
namespace Go.Proofs.Ythkimgfgpphgnaa.T
open Go.RowKit Go.Proofs Go.Eng
set_option maxRecDepth 100000
set_option linter.unusedVariables false
set_option linter.unusedSimpArgs false



theorem backward_any (ae : Option Addr) (n cape : Nat) (w : World) : Ct Try.prog 141 #[.slice ae n cape] w fun v Hn => ∃ bx, v = .func (.func 143) #[] #[.pointer (some ⟨bx, 0, none⟩)] ∧ Hn = [(bx, CB [.slice ae n cape] 44)] := by
  have hF := wide_wide
  refine Ct_start (args := [_]) Try.func141 (by rfl) Try.ntmps141 (by rfl) ?_
  refine W_seq ?_
  refine W_region_lit (fun ds => ?_)
  refine WS_new hF (by rfl) (y_box (by rfl)) (fun b1 => ?_)
  refine WS_det hF (by rfl) (y_assign (c := _) (by rfl)) ?_
  refine WS_nil ?_
  refine Then_normal ?_
  refine W_seq ?_
  refine W_region_lit (fun ds => ?_)
  refine WS_det hF (by rfl) (y_makeFuncL (by rfl) (by rfl)) ?_
  refine WS_det hF (by rfl) (y_assign (c := _) (by rfl)) ?_
  refine WS_nil ?_
  refine Then_normal ?_
  refine W_ret ?_
  refine Fin_ret [_] [(b1, _)] Try.results141 ⟨by rfl, trivial⟩ (HSub.sub (by repeat (first | exact List.nil_sublist _ | apply List.Sublist.cons_cons | apply List.Sublist.cons))) ?_
  exact ⟨_, rfl, rfl⟩
theorem backward_it (w0 : World) (ds0 out0 : List Deferred) (bx : Nat) (n : Nat) (ae : Option Addr) (cape : Nat) (es : List En) (hn : n ≤ 1000000) (he : Ens w0 ae n cape es) :
    It ⟨Try.prog, w0, ds0, out0⟩ 143 [.pointer (some ⟨bx, 0, none⟩)] (fun k => [.int .i64 ((n : Int) - 1 - (k : Int)), .agg (es.getD (n - 1 - k) En.z).cells.toArray]) n [(bx, CB [.slice ae n cape] 44)] := by
  intro lp J Jx hY G hJ
  have hF := wide_wide
  refine Cs_start (args := [_, _]) Try.func143 (by rfl) Try.ntmps143 (by rfl) ?_
  refine W_seq ?_
  refine W_region_lit (fun ds => ?_)
  refine WS_det hF (by rfl) (y_load1 (by rfl) Try.isAgg44 (Mem.own1 0 (by rfl) (by rfl))) ?_
  refine WS_det hF (by rfl) (y_len (by rfl) Try.runUnderlying44) ?_
  refine WS_det hF (by rfl) (y_sub (by rfl) (by rfl) (by unfold I64; omega)) ?_
  refine WS_det hF (by rfl) (y_assign (c := .int .i64 _) (by rfl)) ?_
  refine WS_nil ?_
  refine Then_normal ?_
  refine W_block ?_
  refine W_loop (γ := Nat × List Blk) (fun p => p.1 ≤ n ∧ J p.1 p.2) (fun p => [(0, .func (.yield lp) #[] #[]), (1, .pointer (some ⟨bx, 0, none⟩)), (3, .int .i64 ((n : Int) - 1 - (p.1 : Int)))]) (fun p => (bx, CB [.slice ae n cape] 44) :: p.2) (fun p => n - p.1) ((0, G)) ⟨Nat.zero_le _, hJ⟩ ((by repeat (first | exact trivial | refine ⟨by rfl, ?_⟩ | refine ⟨congrArg (Value.int _) (by first | omega | (simp only; omega) | (push_cast; omega)), ?_⟩))) (List.Sublist.refl _) ?_
  rintro ⟨k, G2⟩ e ⟨hk, hj2⟩
  refine W_seq ?_
  refine W_seq ?_
  refine W_region_lit (fun ds => ?_)
  refine WS_det hF (by rfl) (y_move (c := .int .i64 _) (by rfl)) ?_
  refine WS_det hF (by rfl) (y_geq (by rfl) (by rfl)) ?_
  refine WS_nil ?_
  refine Then_normal ?_
  refine W_cond (by rfl) (fun c1 => ?_) (fun c1 => ?_)
  ·
    try simp only [Bool.not_eq_true', Bool.not_eq_false', decide_eq_true_eq, decide_eq_false_iff_not, ne_eq, Classical.not_not, Int.not_lt, Int.not_le] at c1
    obtain ⟨b, o, rfl, hc⟩ := he.cell (n - 1 - k) (by omega)
    refine W_skip ?_
    refine Then_normal ?_
    refine W_seq ?_
    refine W_block ?_
    refine W_seq ?_
    refine W_region_lit (fun ds => ?_)
    refine WS_det hF (by rfl) (y_move (c := _) (by rfl)) ?_
    refine WS_det hF (by rfl) (y_move (c := .int .i64 _) (by rfl)) ?_
    refine WS_det hF (by rfl) (y_load1 (by rfl) Try.isAgg44 (Mem.own1 0 (by rfl) (by rfl))) ?_
    refine WS_det hF (by rfl) (y_move (c := .int .i64 _) (by rfl)) ?_
    refine WS_det hF (by rfl) (y_index (k := n - 1 - k) (by rfl) (by rfl) (by first | rfl | omega) (by first | decide | omega) Try.runUnderlying44 Try.sizeOf48) ?_
    refine WS_det hF (by rfl) (y_loadN (by rfl) Try.isAgg48 Try.sizeOf48 (by first | exact Mem.old (by assumption) | exact Mem.oldAt (us := [.int .i64 _, .int .i64 _, .int .i64 _, .int .i64 _]) (by assumption) (by rfl) | exact Mem.oldAtL (us := [.int .i64 _, .int .i64 _, .int .i64 _, .int .i64 _]) (by assumption) (by rfl) (by rfl)) (by rfl)) ?_
    refine WS_yield (by rfl) (by rfl) (by rfl) (hY k (by omega) ds [_] G2 hj2) ?_
    rintro yb _ ⟨G3, rfl, hb⟩
    refine WS_det hF (by rfl) (y_not (by rfl)) ?_
    refine WS_nil ?_
    refine Then_normal ?_
    refine W_cond (by rfl) (fun c3 => ?_) (fun c3 => ?_)
    ·
      try simp only [Bool.not_eq_true', Bool.not_eq_false', decide_eq_true_eq, decide_eq_false_iff_not, ne_eq, Classical.not_not, Int.not_lt, Int.not_le] at c3
      obtain ⟨rfl, hj3⟩ | ⟨_, hj3⟩ := hb
      · cases c3
      refine W_ret ?_
      refine InB_ret ?_
      refine Then_ret ?_
      refine Loop_ret ?_
      refine InB_ret ?_
      refine Fin_ret [] ((bx, _) :: G3) Try.results143 trivial (HSub.sub (by repeat (first | exact List.Sublist.refl _ | exact List.nil_sublist _ | apply List.Sublist.cons_cons | apply List.Sublist.cons))) ?_
      exact ⟨G3, rfl, .inr ⟨k, by omega, hj3⟩⟩
    ·
      try simp only [Bool.not_eq_true', Bool.not_eq_false', decide_eq_true_eq, decide_eq_false_iff_not, ne_eq, Classical.not_not, Int.not_lt, Int.not_le] at c3
      obtain ⟨_, hj3⟩ | ⟨rfl, hj3⟩ := hb
      case inr => cases c3
      refine W_skip ?_
      refine InB_normal ?_
      refine Then_normal ?_
      refine W_region_lit (fun ds => ?_)
      refine WS_det hF (by rfl) (y_move (c := .int .i64 _) (by rfl)) ?_
      refine WS_det hF (by rfl) (y_sub (by rfl) (by rfl) (by unfold I64; omega)) ?_
      refine WS_det hF (by rfl) (y_assign (c := .int .i64 _) (by rfl)) ?_
      refine WS_nil ?_
      exact Loop_next (k + 1, G3) ⟨by omega, hj3⟩ (by repeat (first | exact trivial | refine ⟨by rfl, ?_⟩ | refine ⟨congrArg (Value.int _) (by first | omega | (simp only; omega) | (push_cast; omega)), ?_⟩)) (by repeat (first | exact List.Sublist.refl _ | exact List.nil_sublist _ | apply List.Sublist.cons_cons | apply List.Sublist.cons)) (by simp only; omega)
  ·
    try simp only [Bool.not_eq_true', Bool.not_eq_false', decide_eq_true_eq, decide_eq_false_iff_not, ne_eq, Classical.not_not, Int.not_lt, Int.not_le] at c1
    refine W_exit ?_
    refine Then_exit ?_
    refine Loop_exit ?_
    refine InB_same ?_
    refine Fin_norm [] ((bx, _) :: G2) Try.results143 trivial (HSub.sub (by repeat (first | exact List.Sublist.refl _ | exact List.nil_sublist _ | apply List.Sublist.cons_cons | apply List.Sublist.cons))) ?_
    obtain rfl : k = n := by omega
    exact ⟨G2, rfl, .inl hj2⟩
end Go.Proofs.Ythkimgfgpphgnaa.T

/- A region whose order is open but for a tail, and one reading among it that may go late. No project text. -/
namespace Go.Eng
open Go.RowKit
section
variable {P : Program} {F : Fence}
structure TailZ (ops : Array Oper) (m z : Nat) : Prop where
  down : ∀ i k, edge ops i k = true → k < i
  chain : ∀ i, m < i → i < ops.size → edge ops i (i - 1) = true
  all : ∀ j, j < m → j ≠ z → ∃ k, j < k ∧ k ≤ m ∧ k ≠ z ∧ edge ops k j = true
  last : m + 1 < ops.size → edge ops (m + 1) z = true
  zlt : z < m
  guard : ∀ (i : Nat) (o : Oper), i < m → ops[i]? = some o → ∀ j b, o.guard = some (j, b) → j < m
def tailZB (ops : Array Oper) (m z : Nat) : Bool :=
  ((List.range ops.size).all fun i => (ops[i]?.map fun o => o.after.all fun e => !Region.binds .any e || Nat.blt e.on i).getD true) &&
  ((List.range ops.size).all fun i => !Nat.blt m i || edge ops i (i - 1)) &&
  ((List.range m).all fun j => Nat.beq j z || (List.range (m + 1)).any fun k => Nat.blt j k && !Nat.beq k z && edge ops k j) &&
  (!Nat.blt (m + 1) ops.size || edge ops (m + 1) z) && Nat.blt z m &&
  ((List.range m).all fun i => (ops[i]?.map fun o => match o.guard with | some (j, _) => Nat.blt j m | none => true).getD true)
theorem tailZ_of {ops : Array Oper} {m z : Nat} (h : tailZB ops m z = true) : TailZ ops m z := by
  unfold tailZB at h
  simp only [Bool.and_eq_true, List.all_eq_true, List.mem_range] at h
  obtain ⟨⟨⟨⟨⟨h1, h2⟩, h3⟩, h5⟩, h6⟩, h4⟩ := h
  refine ⟨fun i k hk => ?_, fun i hi hs => ?_, fun j hj hz => ?_, fun hs => ?_, by rwa [Nat.blt_eq] at h6, fun i o hi ho j b hg => ?_⟩
  · have hi := edge_lt hk
    have := h1 i hi
    unfold edge at hk
    rw [Array.getElem?_eq_getElem hi] at hk this
    simp only [Option.map_some, Option.getD_some, Array.any_eq_true, Array.all_eq_true, Bool.and_eq_true, beq_iff_eq] at hk this
    obtain ⟨x, hx, he, hb⟩ := hk
    have := this x hx
    rw [he, hb] at this
    simpa using this
  · have := h2 i hs
    have hb : Nat.blt m i = true := by rw [Nat.blt_eq]; exact hi
    simpa [hb] using this
  · have := h3 j hj
    have hb : Nat.beq j z = false := by
      cases hb : Nat.beq j z with
      | false => rfl
      | true => exact absurd (Nat.eq_of_beq_eq_true hb) hz
    simp only [hb, Bool.false_or, List.any_eq_true, List.mem_range, Bool.and_eq_true, Nat.blt_eq, Bool.not_eq_true'] at this
    obtain ⟨k, hk, ⟨hjk, hkz⟩, he⟩ := this
    exact ⟨k, hjk, by omega, Nat.ne_of_beq_eq_false hkz, he⟩
  · have hb : Nat.blt (m + 1) ops.size = true := by rw [Nat.blt_eq]; exact hs
    simpa [hb] using h5
  · have := h4 i hi
    rw [ho] at this
    simp only [Option.map_some, Option.getD_some, hg, Nat.blt_eq] at this
    exact this
/-- The operations at the end, in their order. -/
theorem tail_run2 {ops : Array Oper} {m : Nat} {Q : Exit → Act → World → Prop} (hdown : ∀ i k, edge ops i k = true → k < i) (hchain : ∀ i, m < i → i < ops.size → edge ops i (i - 1) = true) : ∀ (rest : List Oper) (i fuel : Nat) (listed : Array Bool) (a : Act) (w : World),
    (∀ j, rest[j]? = ops[i + j]?) → m ≤ i → i + rest.length = ops.size → listed.size = ops.size → (∀ j, Lst listed j ↔ j < i) → rest.length ≤ fuel → wpListIn F 0 P ops Q rest a w →
    wpAnyIn F 0 P .any ops Q fuel listed a w := by
  intro rest
  induction rest with
  | nil =>
    intro i fuel listed a w _ _ hsz hls hl _ h
    have hr : Region.ready .any ops listed = [] := by
      refine List.eq_nil_iff_forall_not_mem.2 fun j hj => ?_
      obtain ⟨h1, h2, _⟩ := ready_mem.1 hj
      have : Lst listed j := (hl j).2 (by simp at hsz; omega)
      unfold Lst at this
      rw [Array.getD_eq_getD_getElem?, Array.getElem?_eq_getElem (by rw [hls]; exact h1)] at this h2
      simp only [Option.getD_some] at this h2
      rw [this] at h2; cases h2
    cases fuel with
    | zero => exact ⟨hr, h⟩
    | succ f => exact ⟨fun _ => h, fun j hj => (by rw [hr] at hj; cases hj)⟩
  | cons o rest ih =>
    intro i fuel listed a w hget hm hsz hls hl hf h
    obtain ⟨f, rfl⟩ : ∃ f, fuel = f + 1 := ⟨fuel - 1, by simp at hf; omega⟩
    have hi : i < ops.size := by simp at hsz; omega
    have ho : ops[i]? = some o := by have := hget 0; simpa using this.symm
    have hni : listed.getD i true = false := by
      cases hb : listed.getD i true with
      | false => rfl
      | true =>
        have : Lst listed i := by
          unfold Lst
          rw [Array.getD_eq_getD_getElem?, Array.getElem?_eq_getElem (by rw [hls]; exact hi)] at hb ⊢
          exact hb
        have := (hl i).1 this
        omega
    have hin : i ∈ Region.ready .any ops listed := ready_mem.2 ⟨hi, hni, o, ho, fun e he hb => by
      have hed : edge ops i e.on = true := by
        unfold edge
        rw [ho]
        simp only [Option.map_some, Option.getD_some, Array.any_eq_true]
        obtain ⟨k, hk, rfl⟩ := Array.mem_iff_getElem.1 he
        exact ⟨k, hk, by simp [hb]⟩
      exact (hl e.on).2 (hdown i e.on hed)⟩
    refine ⟨fun hr => (by rw [hr] at hin; cases hin), fun j hj => ?_⟩
    have hji : j = i := by
      obtain ⟨h1, h2, _⟩ := ready_mem.1 hj
      have hnl : ¬ Lst listed j := fun hlj => by
        unfold Lst at hlj
        rw [Array.getD_eq_getD_getElem?, Array.getElem?_eq_getElem (by rw [hls]; exact h1)] at hlj h2
        simp only [Option.getD_some] at hlj h2
        rw [hlj] at h2; cases h2
      rw [hl] at hnl
      refine Classical.byContradiction fun hne => ?_
      have := edge_of_ready hj (j - 1) (hchain j (by omega) h1)
      rw [hl] at this
      omega
    subst hji
    unfold wpOpIn
    rw [ho]
    simp only []
    have hrec : ∀ a w, wpListIn F 0 P ops Q rest a w → wpAnyIn F 0 P .any ops Q f (listed.setIfInBounds j true) a w := fun a w h => by
      refine ih (j + 1) f _ a w (fun t => ?_) (by omega) (by simp at hsz ⊢; omega) (by simp [hls]) (fun t => ?_) (by simp at hf; omega) h
      · have := hget (t + 1)
        rw [List.getElem?_cons_succ] at this
        rw [this]; congr 1; omega
      · rw [lst_set (by rw [hls]; exact hi), hl]; omega
    unfold wpListIn at h
    split at h
    · rename_i hw
      rw [if_pos hw]
      exact wpIn_to hrec (fun _ _ _ _ h => h) h
    · rename_i hw
      rw [if_neg hw]
      exact ⟨h.1, hrec _ _ h.2⟩

/-- The operations ahead of these, in whatever order; then these. -/
theorem tail_anyZ {pre post' : List Oper} {om oz : Oper} {z : Nat} {Q Q' : Exit → Act → World → Prop} (ht : TailZ (pre ++ om :: post').toArray pre.length z) (hoz : pre[z]? = some oz) (hd : ∀ i k, edge pre.toArray i k = true → k < i)
    (hq : ∀ x, x ≠ .normal → ∀ a w, Q' x a w → Q x a w) (hn : ∀ a w, Q' .normal a w → wpListIn F 0 P (pre ++ om :: post').toArray Q (om :: post') a w)
    (hx : ∀ a w, wpOpIn F 0 P pre.toArray Q' z (fun a w => Q' .normal a w) a w → wpListIn F 0 P (pre ++ om :: post').toArray Q (om :: oz :: post') a w) :
    ∀ (fuel fuel2 : Nat) (listed : Array Bool) (a : Act) (w : World), listed.size = pre.length → (∀ j k, Lst listed j → edge pre.toArray j k = true → Lst listed k) → fuel + (om :: post').length ≤ fuel2 →
      wpAnyIn F 0 P .any pre.toArray Q' fuel listed a w → wpAnyIn F 0 P .any (pre ++ om :: post').toArray Q fuel2 (listed ++ Array.replicate (om :: post').length false) a w := by
  have hgetl : ∀ (listed : Array Bool) (j : Nat) (b : Bool), listed.size = pre.length → j < pre.length → (listed ++ Array.replicate (om :: post').length false).getD j b = listed.getD j b := fun listed j b hs hj => by
    rw [Array.getD_eq_getD_getElem?, Array.getD_eq_getD_getElem?, Array.getElem?_append_left (by omega)]
  have hgetr : ∀ (listed : Array Bool) (j : Nat), listed.size = pre.length → pre.length ≤ j → (listed ++ Array.replicate (om :: post').length false).getD j false = false := fun listed j hs hj => by
    rw [Array.getD_eq_getD_getElem?, Array.getElem?_append_right (by omega), Array.getElem?_replicate]
    split <;> rfl
  have hop : ∀ j, j < pre.length → (pre ++ om :: post').toArray[j]? = pre.toArray[j]? := fun j hj => by simp [List.getElem?_append_left hj]
  have hedge : ∀ j k, j < pre.length → edge (pre ++ om :: post').toArray j k = edge pre.toArray j k := fun j k hj => by unfold edge; rw [hop j hj]
  -- all that is ahead is done
  have full : ∀ (fuel2 : Nat) (listed : Array Bool) (a : Act) (w : World), listed.size = pre.length → (∀ j, j < pre.length → Lst listed j) → (om :: post').length ≤ fuel2 → Q' .normal a w →
      wpAnyIn F 0 P .any (pre ++ om :: post').toArray Q fuel2 (listed ++ Array.replicate (om :: post').length false) a w := fun fuel2 listed a w hs hl hf h => by
    refine tail_run2 ht.down ht.chain (om :: post') pre.length fuel2 _ a w (fun j => by simp [List.getElem?_append_right]) (Nat.le_refl _) (by simp) (by simp [hs]) (fun j => ?_) hf (hn a w h)
    unfold Lst
    by_cases hj : j < pre.length
    · rw [hgetl listed j false hs hj]; exact ⟨fun _ => hj, fun _ => hl j hj⟩
    · rw [hgetr listed j hs (by omega)]; exact ⟨fun h => (by cases h), fun h => absurd h hj⟩
  intro fuel
  induction fuel with
  | zero =>
    intro fuel2 listed a w hs _ hf h
    exact full fuel2 listed a w hs (fun j hj => all_of_ready_nil hd (by simp [hs]) h.1 j (by simpa using hj)) (by omega) h.2
  | succ fuel ih =>
    intro fuel2 listed a w hs hdc hf h
    by_cases hr : Region.ready .any pre.toArray listed = []
    · exact full fuel2 listed a w hs (fun j hj => all_of_ready_nil hd (by simp [hs]) hr j (by simpa using hj)) (by omega) (h.1 hr)
    · obtain ⟨f2, rfl⟩ : ∃ f2, fuel2 = f2 + 1 := ⟨fuel2 - 1, by omega⟩
      have hz1 : z < pre.length := ht.zlt
      have hiff0 : ∀ i, i ∈ Region.ready .any (pre ++ om :: post').toArray (listed ++ Array.replicate (om :: post').length false) → pre.length ≤ i → i = pre.length ∧ ∀ j, j < pre.length → j ≠ z → Lst listed j := fun i hi hge => by
        have hed := edge_of_ready hi
        obtain ⟨h1, h2, o, ho, h3⟩ := ready_mem.1 hi
        by_cases hm : i = pre.length
        · subst hm
          refine ⟨rfl, ?_⟩
          have hall : ∀ t, ∀ j, pre.length - t ≤ j → j < pre.length → j ≠ z → Lst listed j := by
            intro t
            induction t with
            | zero => intro j h1 h2; omega
            | succ t iht =>
              intro j hj1 hj2 hjz
              by_cases hlt : pre.length - t ≤ j
              · exact iht j hlt hj2 hjz
              · obtain ⟨k, hk1, hk2, hkz, hk3⟩ := ht.all j hj2 hjz
                by_cases hkm : k = pre.length
                · subst hkm
                  have := hed j hk3
                  unfold Lst at this ⊢
                  rwa [hgetl listed j false hs hj2] at this
                · have hk := iht k (by omega) (by omega) hkz
                  rw [hedge k j (by omega)] at hk3
                  exact hdc k j hk hk3
          intro j hj hjz
          exact hall pre.length j (by omega) hj hjz
        · have := hed (i - 1) (ht.chain i (by omega) h1)
          unfold Lst at this
          rw [hgetr listed (i - 1) hs (by omega)] at this
          cases this
      have hiff : ∀ i, i ∈ Region.ready .any (pre ++ om :: post').toArray (listed ++ Array.replicate (om :: post').length false) → i < pre.length → i ∈ Region.ready .any pre.toArray listed := fun i hi him => by
        obtain ⟨h1, h2, o, ho, h3⟩ := ready_mem.1 hi
        rw [hop i him] at ho
        refine ready_mem.2 ⟨by simpa using him, by rwa [hgetl listed i true hs him] at h2, o, ho, fun e he hb => ?_⟩
        have hek := h3 e he hb
        have hlt : e.on < i := hd i e.on (by
          unfold edge
          rw [ho]
          simp only [Option.map_some, Option.getD_some, Array.any_eq_true]
          obtain ⟨k, hk, rfl⟩ := Array.mem_iff_getElem.1 he
          exact ⟨k, hk, by simp [hb]⟩)
        rwa [hgetl listed e.on false hs (by omega)] at hek
      refine ⟨fun hr2 => ?_, fun i hi => ?_⟩
      · -- some operation is ready
        exfalso
        obtain ⟨i, hi⟩ := List.exists_mem_of_ne_nil _ hr
        obtain ⟨h1, h2, o, ho, h3⟩ := ready_mem.1 hi
        have him : i < pre.length := by simpa using h1
        have : i ∈ Region.ready .any (pre ++ om :: post').toArray (listed ++ Array.replicate (om :: post').length false) := ready_mem.2 ⟨by simp; omega, by rw [hgetl listed i true hs him]; exact h2, o, by rw [hop i him]; exact ho, fun e he hb => by
          have hlt : e.on < i := hd i e.on (by
            unfold edge
            rw [ho]
            simp only [Option.map_some, Option.getD_some, Array.any_eq_true]
            obtain ⟨k, hk, rfl⟩ := Array.mem_iff_getElem.1 he
            exact ⟨k, hk, by simp [hb]⟩)
          rw [hgetl listed e.on false hs (by omega)]
          exact h3 e he hb⟩
        rw [hr2] at this; cases this
      · by_cases him : i < pre.length
        case neg =>
          obtain ⟨rfl, hall⟩ := hiff0 i hi (by omega)
          -- only z is not done yet
          have hzr : z ∈ Region.ready .any pre.toArray listed := by
            obtain ⟨i, hi⟩ := List.exists_mem_of_ne_nil _ hr
            have hiz : i = z := Classical.byContradiction fun hne => by
              obtain ⟨g1, g2, _⟩ := ready_mem.1 hi
              have := hall i (by simpa using g1) hne
              unfold Lst at this
              rw [Array.getD_eq_getD_getElem?, Array.getElem?_eq_getElem (by rw [hs]; simpa using g1)] at this g2
              simp only [Option.getD_some] at this g2
              rw [this] at g2; cases g2
            rwa [hiz] at hi
          have hznl : listed.getD z true = false := (ready_mem.1 hzr).2.1
          have hh := h.2 z hzr
          have hh2 : wpOpIn F 0 P pre.toArray Q' z (fun a w => Q' .normal a w) a w := wpOpIn_mono (fun a w hk => by
            have hr0 : Region.ready .any pre.toArray (listed.setIfInBounds z true) = [] := by
              refine List.eq_nil_iff_forall_not_mem.2 fun j hj => ?_
              obtain ⟨g1, g2, _⟩ := ready_mem.1 hj
              have hjl : j < pre.length := by simpa using g1
              have : Lst (listed.setIfInBounds z true) j := by
                rw [lst_set (by rw [hs]; exact hz1)]
                by_cases hjz : j = z
                · exact .inl hjz
                · exact .inr (hall j hjl hjz)
              unfold Lst at this
              rw [Array.getD_eq_getD_getElem?, Array.getElem?_eq_getElem (by simp [hs, hjl])] at this g2
              simp only [Option.getD_some] at this g2
              rw [this] at g2; cases g2
            cases fuel with
            | zero => exact hk.2
            | succ f => exact hk.1 hr0) hh
          have hw2 := hx a w hh2
          have hom : (pre ++ om :: post').toArray[pre.length]? = some om := by simp
          have hozf : (pre ++ om :: post').toArray[z]? = some oz := by rw [hop z hz1]; simpa using hoz
          have hsz2 : ((listed ++ Array.replicate (om :: post').length false).setIfInBounds pre.length true).size = (pre ++ om :: post').toArray.size := by simp [hs]
          have hl2 : ∀ j, Lst ((listed ++ Array.replicate (om :: post').length false).setIfInBounds pre.length true) j ↔ j ≤ pre.length ∧ j ≠ z := fun j => by
            rw [lst_set (by simp [hs])]
            unfold Lst
            constructor
            · rintro (rfl | hj)
              · exact ⟨Nat.le_refl _, by omega⟩
              · by_cases hjl : j < pre.length
                · refine ⟨by omega, fun hjz => ?_⟩
                  subst hjz
                  rw [hgetl listed j false hs hjl] at hj
                  rw [Array.getD_eq_getD_getElem?, Array.getElem?_eq_getElem (by omega)] at hj hznl
                  simp only [Option.getD_some] at hj hznl
                  rw [hj] at hznl; cases hznl
                · rw [hgetr listed j hs (by omega)] at hj; cases hj
            · rintro ⟨h1, h2⟩
              by_cases hjm : j = pre.length
              · exact .inl hjm
              · refine .inr ?_
                rw [hgetl listed j false hs (by omega)]; exact hall j (by omega) h2
          -- behind om: oz, then the others
          have hrest : ∀ a w, wpListIn F 0 P (pre ++ om :: post').toArray Q (oz :: post') a w → wpAnyIn F 0 P .any (pre ++ om :: post').toArray Q f2 ((listed ++ Array.replicate (om :: post').length false).setIfInBounds pre.length true) a w := fun a w hw => by
            obtain ⟨f3, rfl⟩ : ∃ f3, f2 = f3 + 1 := ⟨f2 - 1, by simp at hf; omega⟩
            have hzin : z ∈ Region.ready .any (pre ++ om :: post').toArray ((listed ++ Array.replicate (om :: post').length false).setIfInBounds pre.length true) := ready_mem.2 ⟨by simp; omega, by
              cases hb : ((listed ++ Array.replicate (om :: post').length false).setIfInBounds pre.length true).getD z true with
              | false => rfl
              | true =>
                have : Lst ((listed ++ Array.replicate (om :: post').length false).setIfInBounds pre.length true) z := by
                  unfold Lst
                  rw [Array.getD_eq_getD_getElem?, Array.getElem?_eq_getElem (by rw [hsz2]; simp; omega)] at hb ⊢
                  exact hb
                exact absurd rfl ((hl2 z).1 this).2, oz, hozf, fun e he hb => by
              have hed : edge (pre ++ om :: post').toArray z e.on = true := by
                unfold edge
                rw [hozf]
                simp only [Option.map_some, Option.getD_some, Array.any_eq_true]
                obtain ⟨k, hk, rfl⟩ := Array.mem_iff_getElem.1 he
                exact ⟨k, hk, by simp [hb]⟩
              have hlt := ht.down z e.on hed
              exact (hl2 e.on).2 ⟨by omega, by omega⟩⟩
            refine ⟨fun hr2 => (by rw [hr2] at hzin; cases hzin), fun j hj => ?_⟩
            have hjz : j = z := by
              obtain ⟨g1, g2, _⟩ := ready_mem.1 hj
              have hnl : ¬ Lst ((listed ++ Array.replicate (om :: post').length false).setIfInBounds pre.length true) j := fun hlj => by
                unfold Lst at hlj
                rw [Array.getD_eq_getD_getElem?, Array.getElem?_eq_getElem (by rw [hsz2]; exact g1)] at hlj g2
                simp only [Option.getD_some] at hlj g2
                rw [hlj] at g2; cases g2
              rw [hl2] at hnl
              refine Classical.byContradiction fun hne => ?_
              have hgt : pre.length < j := by omega
              have he := edge_of_ready hj
              by_cases hj1 : j = pre.length + 1
              · subst hj1
                have := he z (ht.last (by simpa using g1))
                rw [hl2] at this
                exact this.2 rfl
              · have := he (j - 1) (ht.chain j (by omega) g1)
                rw [hl2] at this
                omega
            subst hjz
            unfold wpOpIn
            rw [hozf]
            simp only []
            have hrec : ∀ a w, wpListIn F 0 P (pre ++ om :: post').toArray Q post' a w → wpAnyIn F 0 P .any (pre ++ om :: post').toArray Q f3 (((listed ++ Array.replicate (om :: post').length false).setIfInBounds pre.length true).setIfInBounds j true) a w := fun a w hw => by
              refine tail_run2 ht.down ht.chain post' (pre.length + 1) f3 _ a w (fun t => ?_) (by omega) (by simp; omega) (by simp [hs]) (fun t => ?_) (by simp at hf; omega) hw
              · simp [List.getElem?_append_right, Nat.add_assoc, Nat.add_comm 1 t]
              · rw [lst_set (by rw [hsz2]; simp; omega), hl2]
                omega
            unfold wpListIn at hw
            split at hw
            · rename_i hwt
              rw [if_pos hwt]
              exact wpIn_to hrec (fun _ _ _ _ h => h) hw
            · rename_i hwt
              rw [if_neg hwt]
              exact ⟨hw.1, hrec _ _ hw.2⟩
          unfold wpOpIn
          rw [hom]
          simp only []
          unfold wpListIn at hw2
          split at hw2
          · rename_i hwt
            rw [if_pos hwt]
            exact wpIn_to hrest (fun _ _ _ _ h => h) hw2
          · rename_i hwt
            rw [if_neg hwt]
            exact ⟨hw2.1, hrest _ _ hw2.2⟩
        have hi' := hiff i hi him
        have hh := h.2 i hi'
        have hpre := edge_of_ready hi'
        obtain ⟨h1, h2, o, ho, h3⟩ := ready_mem.1 hi'
        have hset : (listed ++ Array.replicate (om :: post').length false).setIfInBounds i true = listed.setIfInBounds i true ++ Array.replicate (om :: post').length false := by
          refine Array.ext_getElem? fun t => ?_
          rw [Array.getElem?_setIfInBounds, Array.getElem?_append, Array.getElem?_append, Array.getElem?_setIfInBounds]
          simp only [Array.size_append, Array.size_setIfInBounds]
          by_cases hit : i = t
          · subst hit; simp [hs, him]; omega
          · simp [hit]
        have hrec : ∀ a w, wpAnyIn F 0 P .any pre.toArray Q' fuel (listed.setIfInBounds i true) a w → wpAnyIn F 0 P .any (pre ++ om :: post').toArray Q f2 ((listed ++ Array.replicate (om :: post').length false).setIfInBounds i true) a w := fun a w h => by
          rw [hset]
          refine ih f2 _ a w (by simp [hs]) (fun j k hj he => ?_) (by omega) h
          rw [lst_set (by omega)] at hj ⊢
          rcases hj with rfl | hj
          · exact .inr (hpre k he)
          · exact .inr (hdc j k hj he)
        unfold wpOpIn at hh ⊢
        rw [hop i him, ho]
        rw [ho] at hh
        simp only [] at hh ⊢
        have hwant : Region.wanted o (yielded (pre ++ om :: post').toArray a.tmps) = Region.wanted o (yielded pre.toArray a.tmps) := by
          unfold Region.wanted
          cases hg : o.guard with
          | none => rfl
          | some gg =>
            obtain ⟨j, b⟩ := gg
            have hj := ht.guard i o him (by rw [hop i him]; exact ho) j b hg
            simp only [yielded, hop j hj]
        rw [hwant]
        split at hh
        · rename_i hw
          rw [if_pos hw]
          exact wpIn_to hrec hq hh
        · rename_i hw
          rw [if_neg hw]
          exact ⟨hh.1, hrec _ _ hh.2⟩

end
theorem far_np {P : Program} {w : World} {a : Addr} {b : Bool} {v : Value} (h : w.farLoad P a b = .error (.panic v)) : False := by
  unfold World.farLoad at h
  split at h
  · split at h <;> cases h
  · unfold World.noCell at h
    split at h <;> cases h
/-- A reading leaves the world as it is. -/
theorem ro_load {P : Program} {e : Operand → Value} {d : Option Tmp} {T : TypeId} {x : Operand} {ty : TypeId} {pos : String} {af : Array Edge} {g : Option (Nat × Bool)} (hA : ∀ w, (isAgg T).run P w = .ok false w) {w : World} :
    (∃ v, (execOp e ⟨d, .load T x, ty, pos, af, g⟩).run P w = .ok (.value v) w) ∨ ∃ h, (execOp e ⟨d, .load T x, ty, pos, af, g⟩).run P w = .halt h w ∧ ∀ v, h ≠ .panic v := by
  simp only [execOp, Instr.loadAt]
  unfold Instr.sureAddr
  split
  · rename_i a _
    simp only [Sem.run_bind, Sem.run_pure, Result.andThen_ok, loadVar, hA, Bool.false_eq_true, if_false]
    simp only [run_load]
    split
    · exact .inl ⟨_, rfl⟩
    · split
      · exact .inl ⟨_, rfl⟩
      · rename_i h heq
        exact .inr ⟨h, rfl, fun v hv => by subst hv; exact far_np heq⟩
  · exact .inr ⟨_, rfl, fun v hv => by cases hv⟩
section
variable {C : Ctx} {F : Fence} {n : Nat} {ds : List Deferred} {Q : Exit → Env → List Blk → Prop} {e : Env} {H : List Blk}
def tailZQ (C : Ctx) (F : Fence) (n : Nat) (ds : List Deferred) (all : Array Oper) (om oz : Oper) (d : Nat) (post : List Oper) (Q : Exit → Env → List Blk → Prop) : Exit → Env → List Blk → Prop
  | .normal, e, H => WS C F n ds all Q (om :: post) e H ∧ ∀ x, WS C F n ds all Q (om :: oz :: post) (upd e d x) H
  | x, e, H => Q x e H
theorem W_drawZ {id : Nat} {l post' : List Oper} {H0 : List Blk} (m z : Nat) {om oz : Oper} {T : TypeId} {xz : Operand} {dz : Nat} (hF : Wide F) (hm : C.P.follows .mixedOrders = true) (pres : List Pre) (slots S : List Nat) (hs : pres.map (·.slot) = slots)
    (hph : (phased (l.take m).toArray slots && ((l.take m).all fun o => dOk n o.dst && gOk n (l.take m).toArray o) && (slots.all fun p => S.contains p) && tailZB l.toArray m z && Nat.ble m l.length) = true) (hnd : slots.Nodup)
    (hdrop : l.drop m = om :: post') (hoz : l[z]? = some oz) (hop : oz.op = .load T xz) (hgz : oz.guard = none) (hdz : oz.dst = some dz) (hA : ∀ w, (isAgg T).run C.P w = .ok false w)
    (hH : HSub H (pres.map (fun p => (p.b, p.o)) ++ H0))
    (hp : ∀ ds, PW (C.at ds) (l.take m).toArray S (fun us e => OverAll (fun e H => WS (C.at ds) F n ds l.toArray Q (om :: post') e H ∧ ∀ x, WS (C.at ds) F n ds l.toArray Q (om :: oz :: post') (upd e dz x) H) (fun _ => True) us e H0) H0 (l.take m) [] (pres.map Pre.un) e) :
    W C F n ds (.region id l.toArray true) Q e H := fun dd w hw a ha => by
  subst hs
  rw [List.all_map] at hph
  simp only [Bool.and_eq_true] at hph
  obtain ⟨⟨⟨⟨hph, hdk⟩, hsub⟩, ht⟩, hml⟩ := hph
  have hml : m ≤ l.length := Nat.le_of_ble_eq_true hml
  have hlen : (l.take m).length = m := by simp; omega
  have hl : l.take m ++ om :: post' = l := by rw [← hdrop]; exact List.take_append_drop m l
  have ht' : TailZ (l.take m ++ om :: post').toArray (l.take m).length z := by rw [hl, hlen]; exact tailZ_of ht
  have hozp : (l.take m)[z]? = some oz := by
    rw [List.getElem?_take, if_pos (by have := ht'.zlt; omega)]; exact hoz
  have hdzn : dz < n := by
    have := List.all_eq_true.1 hdk oz (List.mem_of_getElem? hozp)
    simp only [Bool.and_eq_true] at this
    have := this.1
    rw [hdz] at this
    simpa [dOk, Nat.blt_eq] using this
  refine wpIn_mono (Q := lift (C.at dd) n dd Q) (wpIn_region_any hm ?_) fun _ _ _ h => lift_M h
  have h1 := draw_any (C := C.at dd) (ds := dd) (F := F) (n := n) (ops := (l.take m).toArray) (Q := tailZQ (C.at dd) F n dd l.toArray om oz dz post' Q) (e := e) (H := H) (H0 := H0) hF pres S (fun _ hw => ⟨hw.1, hH _ _ hw.2, hw.3⟩) hph (by simpa using hdk) hsub hnd (hp dd) w hw a ha
  have h2 := tail_anyZ (P := C.P) (F := F) (pre := l.take m) (post' := post') (om := om) (oz := oz) (z := z) (Q := lift (C.at dd) n dd Q) (Q' := lift (C.at dd) n dd (tailZQ (C.at dd) F n dd l.toArray om oz dz post' Q)) ht' hozp (phased_spec hph).down
    (fun x hx a w ⟨e, H, g1, g2, g3⟩ => ⟨e, H, g1, g2, by cases x <;> first | exact g3 | exact absurd rfl hx⟩) (fun a w ⟨e, H, g1, g2, g3⟩ => by rw [hl]; exact g3.1 w g2 a g1)
    (fun a w hz => by
      rw [hl]
      unfold wpOpIn at hz
      rw [show (l.take m).toArray[z]? = some oz by simpa using hozp] at hz
      simp only [] at hz
      rw [if_pos (by unfold Region.wanted; rw [hgz])] at hz
      obtain ⟨_, hz⟩ := hz
      obtain ⟨od, oop, oty, opos, oaf, og⟩ := oz
      simp only at hop hgz hdz
      subst hop hgz hdz
      rw [semAt_of rfl] at hz
      rcases ro_load (d := some dz) (x := xz) (ty := oty) (pos := opos) (af := oaf) (g := none) (e := a.eval) hA (w := w) with ⟨v, hr⟩ | ⟨x, hr, hnp⟩
      · rw [hr] at hz
        obtain ⟨e', H', g1, g2, g3⟩ := hz
        have hrep : Rep n dd a (upd e' dz (a.tmps.getD dz undef)) := by
          refine ⟨by have := g1.size; simpa [Act.put] using this, by have := g1.defers; simpa [Act.put] using this, fun t => ?_⟩
          by_cases ht : t = dz
          · subst ht; rw [upd_same]
          · rw [upd_ne _ _ ht, ← g1.val t]
            simp only [Act.put, Array.getD_eq_getD_getElem?, Array.getElem?_setIfInBounds]
            rw [if_neg (fun h => ht h.symm)]
        exact g3.2 _ w g2 a hrep
      · rw [hr] at hz
        cases x
        case panic v => exact absurd rfl (hnp v)
        all_goals exact hz.elim)
    (l.take m).toArray.size l.toArray.size (Array.replicate (l.take m).toArray.size false) a w.drew (by simp) (fun j k hj => by
      unfold Lst at hj
      rw [Array.getD_eq_getD_getElem?, Array.getElem?_replicate] at hj
      split at hj <;> cases hj) (by
        have := congrArg List.length hl
        simp only [List.length_append] at this
        simp at this ⊢; omega) h1
  rw [hl] at h2
  have hrep : Array.replicate (l.take m).toArray.size false ++ Array.replicate (om :: post').length false = Array.replicate l.toArray.size false := by
    rw [Array.replicate_append_replicate]
    congr 1
    have := congrArg List.length hl
    simp only [List.length_append] at this
    simp at this ⊢; omega
  rw [hrep] at h2
  exact h2
end
/-- Some of the blocks, in another order. -/
def SubP (H T : List Blk) : Prop := ∃ L, H.Perm (T ++ L)
theorem SubP.nil {H : List Blk} : SubP H [] := ⟨H, List.Perm.refl _⟩
theorem SubP.refl {H : List Blk} : SubP H H := ⟨[], by rw [List.append_nil]⟩
theorem SubP.drop {x : Blk} {H T : List Blk} (h : SubP H T) : SubP (x :: H) T := by
  obtain ⟨L, h⟩ := h
  exact ⟨x :: L, (h.cons x).trans List.perm_middle.symm⟩
theorem SubP.pick {x : Blk} {H T : List Blk} (i : Nat) (hi : H[i]? = some x) (h : SubP (H.eraseIdx i) T) : SubP H (x :: T) := by
  obtain ⟨L, h⟩ := h
  exact ⟨L, (perm_erase hi).trans (h.cons x)⟩
theorem SubP.hsub {H T : List Blk} (h : SubP H T) : HSub H T := by
  obtain ⟨L, h⟩ := h
  exact fun _ _ hk => (hk.perm h.symm).sub (List.sublist_append_left _ _)
theorem W_H {C : Ctx} {F : Fence} {n : Nat} {ds : List Deferred} {c : Code} {Q : Exit → Env → List Blk → Prop} {e : Env} {H H' : List Blk} (hH : H = H') (h : W C F n ds c Q e H') : W C F n ds c Q e H := by subst hH; exact h
section
variable {C : Ctx} {H : List Blk} {b o n k j sz : Nat} {α : Type} {enc : α → List Value} {f : Nat → α} {T : TypeId} {s : α} {v : Value}
theorem Mem.row (hz : ∀ x, (enc x).length = sz) (i : Nat) (hi : H[i]? = some (b, CB (rowOf enc f n) T)) (hk : k < n) (hs : f k = s) (ho : o = k * sz) : Mem C H b o (enc s) := by
  subst hs ho
  obtain ⟨t, ht⟩ := rowOf_drop hz f hk
  exact Mem.own i hi ht
theorem Mem.rowAt (hz : ∀ x, (enc x).length = sz) (i : Nat) (hi : H[i]? = some (b, CB (rowOf enc f n) T)) (hk : k < n) (hs : f k = s) (hv : (enc s)[j]? = some v) (ho : o = k * sz + j) : Mem C H b o [v] := by
  subst hs ho
  exact Mem.own1 i hi (rowOf_get hz f hk hv)
end
theorem SubP.dropL {X H T : List Blk} (h : SubP H T) : SubP (X ++ H) T := by
  obtain ⟨L, h⟩ := h
  exact ⟨X ++ L, (h.append_left X).trans (List.perm_append_comm_assoc ..)⟩
def tupAt : Value → Nat → Value
  | .tuple vs, i => vs.getD i undef
  | _, _ => undef
def slAt : Value → Nat → Value
  | .slice (some ⟨b, o, r⟩) _ _, k => .pointer (some ⟨b, o + k, r⟩)
  | _, _ => undef
theorem Mem.rowJ {C : Ctx} {H : List Blk} {b o n k sz : Nat} {α : Type} {enc : α → List Value} {f : Nat → α} {T : TypeId} {s : α} {junk : List Value} (hz : ∀ x, (enc x).length = sz) (i : Nat) (hi : H[i]? = some (b, CB (rowOf enc f n ++ junk) T)) (hk : k < n) (hs : f k = s) (ho : o = k * sz) : Mem C H b o (enc s) := by
  subst hs ho
  obtain ⟨t, ht⟩ := rowOf_drop hz f hk
  refine Mem.own (rest := t ++ junk) i hi ?_
  rw [List.drop_append_of_le_length (by rw [rowOf_len hz]; exact Nat.mul_le_mul_right _ (Nat.le_of_lt hk)), ht, List.append_assoc]
def partC (e : Env) : Value ⊕ Nat → List Value
  | .inl v => [v]
  | .inr t => cellsL (e t)
/-- A struct made of known cells and of open values, some of which are structs. -/
def aggC (ps : List (Value ⊕ Nat)) (e : Env) : Value := .agg (ps.flatMap (partC e)).toArray
end Go.Eng

namespace Go.Proofs.Ythkimgfgpphgnaa.T
open Go.RowKit Go.Proofs Go.Eng
set_option maxRecDepth 100000
set_option linter.unusedVariables false
set_option linter.unusedSimpArgs false

theorem fa116_2 : ∀ b o w, (Instr.fieldAt 116 (.pointer (some ⟨b, o, none⟩)) 2).run Try.prog w = .ok (.pointer (some ⟨b, o + 2, none⟩)) w := fun b o w => by kernel_rfl

theorem sn_len (x : Sn) : x.cells.length = 2 := rfl
def Lg.af (l : Lg) (k j : Nat) : Sn := if l.es.length - k ≤ j then l.aft j else Sn.z
def Lg.bf (l : Lg) (k j : Nat) : Sn := if l.es.length - k ≤ j then l.ahd j else Sn.z
abbrev snRow (f : Nat → Sn) (n : Nat) : List Value := rowOf Sn.cells f n
theorem Lg.af_zero (l : Lg) : splice (snRow (fun _ => Sn.z) (l.es.length + 1)) (l.es.length * 2) [.int .i64 0, .int .i64 l.tk.full] = snRow (l.af 0) (l.es.length + 1) :=
  rowOf_splice sn_len (by omega) (by unfold Lg.af; rw [if_pos (by omega), l.aft_n]; rfl) fun j hj hne => by unfold Lg.af; rw [if_neg (by omega)]
theorem Lg.af_succ (l : Lg) {k : Nat} (hk : k < l.es.length) : splice (snRow (l.af k) (l.es.length + 1)) ((l.es.length - 1 - k) * 2) [.int .i64 (l.ahd (l.es.length - 1 - k)).lo, .int .i64 (min l.tk.full ((l.ahd (l.es.length - 1 - k)).hi + l.drip (l.es.length - 1 - k)))] = snRow (l.af (k + 1)) (l.es.length + 1) :=
  rowOf_splice sn_len (by omega) (by unfold Lg.af; rw [if_pos (by omega), l.aft_lt (by omega)]; rfl) fun j hj hne => by
    unfold Lg.af
    by_cases h : l.es.length - k ≤ j
    · rw [if_pos h, if_pos (by omega)]
    · rw [if_neg h, if_neg (by omega)]
theorem Lg.bf_zero (l : Lg) : snRow (fun _ => Sn.z) l.es.length = snRow (l.bf 0) l.es.length :=
  rowOf_congr _ fun j hj => by unfold Lg.bf; rw [if_neg (by omega)]
theorem Lg.bf_succ (l : Lg) {k : Nat} (hk : k < l.es.length) : splice (snRow (l.bf k) l.es.length) ((l.es.length - 1 - k) * 2) (l.ahd (l.es.length - 1 - k)).cells = snRow (l.bf (k + 1)) l.es.length :=
  rowOf_splice sn_len (by omega) (by unfold Lg.bf; rw [if_pos (by omega)]) fun j hj hne => by
    unfold Lg.bf
    by_cases h : l.es.length - k ≤ j
    · rw [if_pos h, if_pos (by omega)]
    · rw [if_neg h, if_neg (by omega)]
theorem Lg.af_end (l : Lg) : snRow (l.af l.es.length) (l.es.length + 1) = snRow l.aft (l.es.length + 1) := rowOf_congr _ fun j hj => by unfold Lg.af; rw [if_pos (by omega)]
theorem Lg.bf_end (l : Lg) : snRow (l.bf l.es.length) l.es.length = snRow l.ahd l.es.length := rowOf_congr _ fun j hj => by unfold Lg.bf; rw [if_pos (by omega)]
def BackV (l : Lg) (v : Value) (Hn : List Blk) : Prop :=
  ∃ ab bb, v = .tuple #[.slice (some ⟨ab, 0, none⟩) (l.es.length + 1) (l.es.length + 1), .slice (some ⟨bb, 0, none⟩) l.es.length l.es.length] ∧ Hn = [(ab, CB (snRow l.aft (l.es.length + 1)) 26), (bb, CB (snRow l.ahd l.es.length) 26)]
def backF (kind : Int) : FuncId := if kind = 1 then 137 else if kind = 2 then 136 else 139
theorem back_call (kind : Int) : ∀ args w, (callFunc (backF kind) args).run Try.prog w = .ok (.enter (backF kind) args) w := by
  unfold backF
  split
  · exact Try.call137
  · split
    · exact Try.call136
    · exact Try.call139
theorem back_cell (g : Nat) (l : Lg) (a : Option Addr) (cap : Nat) (ae : Option Addr) (cape : Nat) (k : Nat) (h : 1 ≤ k ∧ k ≤ 3) : (bookCells g l a cap ae cape)[7 + k * 3 + 2]? = some (.func (.func (backF (k : Int))) #[] #[]) := by
  obtain rfl | rfl | rfl : k = 1 ∨ k = 2 ∨ k = 3 := by omega
  · rfl
  · rfl
  · rfl
theorem backF_any (l : Lg) (i : Nat) (g og : Nat) (s : Sn) (w : World) (hok : l.Ok) (hi : i < l.es.length) (hG : Gg w g og l.tk) (hs : s.Sm) :
    Ct Try.prog (backF (l.e i).kind) #[.pointer (some ⟨g, og, none⟩), .agg (l.e i).size.cells.toArray, .agg s.cells.toArray] w fun v _ => v = .agg (l.tk.back (l.e i) s).cells.toArray := by
  have hz := hok.sm hi
  have hq := hok.size i hi
  have hkd := hok.kind i hi
  unfold backF Tk.back
  split
  · exact tless_any g og l.tk (l.e i).size s w hG hz hs
  · split
    · exact more_any g og l.tk (l.e i).size s w hG hz hs
    · unfold Tk.most at hq
      rw [if_pos (by omega)] at hq
      exact seen_any g og l.tk (l.e i).size s w hG hq
theorem infSpan : (Try.prog.info? 26).map (fun i => (i.zero, i.size, i.bytes)) = some (some (.agg #[.int .i64 0, .int .i64 0]), 2, 16) := by kernel_rfl

theorem back_any (bk : Nat) (l : Lg) (w : World) (hB : Bk w bk l) : Ct Try.prog 128 #[.pointer (some ⟨bk, 0, none⟩)] w (BackV l) := by
  have hok := hB.ok
  have hB0 := hB
  obtain ⟨_, g, a, cap, ae, cape, h1, hG, h3⟩ := hB
  have hn := hok.n12
  have ⟨_, a2, cap2, hg, _⟩ := hG
  have hF := wide_wide
  refine Ct_start (args := [_]) Try.func128 (by rfl) Try.ntmps128 (by rfl) ?_
  refine W_seq ?_
  refine W_region_lit (fun ds => ?_)
  refine WS_new hF (by rfl) (y_box (by rfl)) (fun b1 => ?_)
  refine WS_new hF (by rfl) (y_alloc Try.zeroValue90 (by rfl)) (fun b2 => ?_)
  refine WS_new hF (by rfl) (y_alloc Try.zeroValue90 (by rfl)) (fun b3 => ?_)
  refine WS_nil ?_
  refine Then_normal ?_
  refine W_seq ?_
  refine W_region_lit (fun ds => ?_)
  refine WS_det hF (by rfl) (y_load1 (by rfl) Try.isAgg108 (Mem.own1 2 (by rfl) (by rfl))) ?_
  refine WS_det hF (by rfl) (by first | exact y_nilCheck (by rfl) | exact y_nilCheckF (by rfl)) ?_
  refine WS_det hF (by rfl) (y_fieldAddr (by rfl) fa119_1) ?_
  refine WS_det hF (by rfl) (y_fieldAddr (by rfl) fa46_2) ?_
  refine WS_det hF (by rfl) (y_load1 (by rfl) Try.isAgg44 (by first | exact Mem.old1 (by assumption) | exact Mem.oldAt1 (by assumption) (by rfl) | exact Mem.old (by assumption) | exact Mem.oldAtL1 (by assumption) (by rfl) (by rfl))) ?_
  refine WS_det hF (by rfl) (y_len (by rfl) Try.runUnderlying44) ?_
  refine WS_det hF (by rfl) (y_assign (c := .int .i64 _) (by rfl)) ?_
  refine WS_nil ?_
  refine Then_normal ?_
  refine W_seq ?_
  apply W_drawMT 6 hF Trymixed [Pre.dep 1000000 b2 _ 15 _ _] [1000000] [1000000] (by rfl) (by decide +kernel) (by decide) (fun _ _ h => h.perm (perm_erase (i := 1) (by rfl)).symm)
  intro ds
  refine P_det (by rfl) (Over_out (by rfl) (Over_nil (y_move (c := .int .i64 _) (by rfl)))) ?_
  refine P_det (by rfl) (Over_out (by rfl) (Over_nil (y_add (by rfl) (by rfl) (by unfold I64; omega)))) ?_
  refine P_new (by rfl) (by rfl) (Over_out (by rfl) (Over_nil (y_makeSlice (n := l.es.length + 1) (by rfl) (by rfl) (by omega) (by omega) Try.underlying90 infSpan (by rfl) (by rfl) (by omega) (by omega)))) ?_
  refine P_det (by rfl) (Over_out (by rfl) (Over_out (by rfl) (Over_nil (y_move (c := .int .i64 _) (by rfl))))) ?_
  refine P_new (by rfl) (by rfl) (Over_out (by rfl) (Over_out (by rfl) (Over_nil (y_makeSlice (n := l.es.length) (by rfl) (by rfl) (by omega) (by omega) Try.underlying90 infSpan (by rfl) (by rfl) (by omega) (by omega))))) ?_
  refine P_st 1000000 2 (by rfl) (by rfl) (by rfl) (by rfl) (by rfl) (Over_out (by rfl) (Over_in (by rfl) (Over_nil (by rintro _ _ ⟨b6, rfl, rfl⟩; exact (st_preD (fun _ => by rfl) (by rfl) (by rfl) Try.sizeOf90 (by rfl) (by rfl) (by first | decide | exact Nat.le_of_ble_eq_true rfl | simp)))))) ?_
  refine PW_end (by rfl) ?_
  refine OverAll_cons (fun w17 l17 => ?_)
  refine OverAll_cons (fun w15 l15 => ?_)
  refine OverAll_cons (fun w1000000 l1000000 => ?_)
  refine OverAll_nil ?_
  rintro ⟨⟨⟨-, h17⟩, h15⟩, h1000000⟩
  obtain ⟨b4, rfl, rfl⟩ := h15
  obtain ⟨b5, rfl, rfl⟩ := h17
  obtain rfl := h1000000
  refine WS_store hF (i := 3) (by rfl) (by rfl) Try.sizeOf90 (by rfl) (by rfl) (by rfl) (by first | decide | exact Nat.le_of_ble_eq_true rfl | simp) ?_
  refine WS_nil ?_
  refine Then_normal ?_
  refine W_seq ?_
  apply W_draw1 hF Trymixed [1000000] (i := 1) (by rfl) (by decide +kernel)
  intro ds
  refine P_det (by rfl) (Over_out (by rfl) (Over_nil (y_load1 (by rfl) Try.isAgg90 (Mem.own1 0 (by rfl) (by rfl))))) ?_
  refine P_det (by rfl) (Over_out (by rfl) (Over_nil (y_move (c := .int .i64 _) (by rfl)))) ?_
  refine P_det (by rfl) (Over_out (by rfl) (Over_nil (y_load1 (by rfl) Try.isAgg108 (Mem.own1 3 (by rfl) (by rfl))))) ?_
  refine P_det (by rfl) (Over_out (by rfl) (Over_nil (by first | exact y_nilCheck (by rfl) | exact y_nilCheckF (by rfl)))) ?_
  refine P_det (by rfl) (Over_out (by rfl) (Over_nil (y_fieldAddr (by rfl) fa119_0))) ?_
  refine P_det (by rfl) (Over_out (by rfl) (Over_nil (y_load1 (by rfl) Try.isAgg93 (by first | exact Mem.old1 (by assumption) | exact Mem.oldAt1 (by assumption) (by rfl) | exact Mem.old (by assumption) | exact Mem.oldAtL1 (by assumption) (by rfl) (by rfl))))) ?_
  refine P_det (by rfl) (Over_out (by rfl) (Over_nil (by first | exact y_nilCheck (by rfl) | exact y_nilCheckF (by rfl)))) ?_
  refine P_det (by rfl) (Over_out (by rfl) (Over_nil (y_fieldAddr (by rfl) fa98_1))) ?_
  refine P_det (by rfl) (Over_out (by rfl) (Over_nil (y_load1 (by rfl) Try.isAgg3 (by first | exact Mem.old1 (by assumption) | exact Mem.oldAt1 (by assumption) (by rfl) | exact Mem.old (by assumption) | exact Mem.oldAtL1 (by assumption) (by rfl) (by rfl))))) ?_
  refine P_det (by rfl) (Over_out (by rfl) (Over_nil (y_buildL bd26_1 (by rfl)))) ?_
  refine P_det (by rfl) (Over_out (by rfl) (Over_nil (y_index (k := l.es.length) (by rfl) (by rfl) (by first | rfl | omega) (by first | decide | omega) Try.runUnderlying90 Try.sizeOf26))) ?_
  refine P_st 1000000 0 (by rfl) (by rfl) (by rfl) (by rfl) (by rfl) (Over_nil (st_pre (fun _ => by rfl) (fun _ => by rfl) Try.sizeOf26 (by rfl) (by rfl) (by show 0 + l.es.length * 2 + 2 ≤ (snRow (fun _ => Sn.z) (l.es.length + 1)).length; rw [rowOf_len sn_len]; omega))) ?_
  refine PW_end (by rfl) ?_
  refine OverAll_cons (fun w1000000 l1000000 => ?_)
  refine OverAll_nil ?_
  rintro ⟨-, h1000000⟩
  obtain rfl := h1000000
  refine Then_normal ?_
  refine W_seq ?_
  refine W_seq ?_
  refine W_region_lit (fun ds => ?_)
  refine WS_det hF (by rfl) (y_load1 (by rfl) Try.isAgg108 (Mem.own1 4 (by rfl) (by rfl))) ?_
  refine WS_det hF (by rfl) (by first | exact y_nilCheck (by rfl) | exact y_nilCheckF (by rfl)) ?_
  refine WS_det hF (by rfl) (y_fieldAddr (by rfl) fa119_1) ?_
  refine WS_det hF (by rfl) (y_fieldAddr (by rfl) fa46_2) ?_
  refine WS_det hF (by rfl) (y_load1 (by rfl) Try.isAgg44 (by first | exact Mem.old1 (by assumption) | exact Mem.oldAt1 (by assumption) (by rfl) | exact Mem.old (by assumption) | exact Mem.oldAtL1 (by assumption) (by rfl) (by rfl))) ?_
  refine WS_gen hF (by rfl) (y_callL (by rfl) (by rfl) Try.call141 (fun w hw => backward_any ae l.es.length cape w)) ?_
  rintro _ _ ⟨bx, rfl, rfl⟩
  refine WS_nil ?_
  refine Then_normal ?_
  refine W_block ?_
  refine W_range hF (by rfl) (encs := (fun k => [.int .i64 ((l.es.length : Int) - 1 - (k : Int)), .agg (l.es.getD (l.es.length - 1 - k) En.z).cells.toArray])) (N := l.es.length) (H0 := [(bx, CB [.slice ae l.es.length cape] 44)]) (G0 := [(b4, _), (b2, _), (b5, _), (b3, _), (b1, _)]) (fun k G => G = [(b4, CB (snRow (l.af k) (l.es.length + 1)) 26), (b2, CB [.slice (some ⟨b4, 0, none⟩) (l.es.length + 1) (l.es.length + 1)] 90), (b5, CB (snRow (l.bf k) l.es.length) 26), (b3, CB [.slice (some ⟨b5, 0, none⟩) l.es.length l.es.length] 90), (b1, CB [.pointer (some ⟨bk, 0, none⟩)] 108)]) (fun _ _ _ => False) (by rfl) Try.call143 (by rfl) (fun _ => rfl) (fun ds => backward_it _ _ _ bx l.es.length ae cape l.es (by omega) h3) (by rw [← l.bf_zero, ← l.af_zero]; rw [Nat.zero_add]; rfl) (HSub.refl) ?_ ?_ ?_
  · rintro k hk G hj out lpr R R'
    have hF := wide_inRound wide_wide lpr
    subst hj
    have hi : l.es.length - 1 - k < l.es.length := by omega
    obtain ⟨kk, hkk⟩ : ∃ kk : Nat, (l.e (l.es.length - 1 - k)).kind = (kk : Int) := Int.eq_ofNat_of_zero_le (by have := hok.kind _ hi; omega)
    have hkd := hok.kind _ hi
    have hab := hok.aft_bd (i := l.es.length - 1 - k + 1) (by omega)
    have hhb := hok.ahd_bd hi
    have hdb := hok.drip_bd hi
    have hafe : l.af k (l.es.length - 1 - k + 1) = l.aft (l.es.length - 1 - k + 1) := by unfold Lg.af; rw [if_pos (by omega)]
    have hbfe : l.bf (k + 1) (l.es.length - 1 - k) = l.ahd (l.es.length - 1 - k) := by unfold Lg.bf; rw [if_pos (by omega)]
    have hs1 := l.bf_succ hk
    have hs2 := l.af_succ hk
    rw [← Nat.zero_add ((l.es.length - 1 - k) * 2)] at hs1 hs2
    have hfull := hok.tk.full_bd
    have hkk2 : (l.es.getD (l.es.length - 1 - k) En.z).kind = (kk : Int) := hkk
    have hik : (l.es.length : Int) - 1 - (k : Int) = ((l.es.length - 1 - k : Nat) : Int) := by omega
    refine W_seq ?_
    refine W_region_lit (fun ds => ?_)
    refine WS_det hF (by rfl) (y_assign (c := .int .i64 _) (by rfl)) ?_
    refine WS_nil ?_
    refine Then_normal ?_
    refine W_region_lit (fun ds => ?_)
    refine WS_new hF (by rfl) (y_alloc Try.zeroValue48 (by rfl)) (fun b7 => ?_)
    refine WS_store hF (i := 0) (by rfl) (by rfl) Try.sizeOf48 (by rfl) (by rfl) (by rfl) (by first | decide | exact Nat.le_of_ble_eq_true rfl | simp) ?_
    refine WS_nil ?_
    refine Then_normal ?_
    refine ⟨[_, _, _, _, _, _], rfl, ?_⟩
    refine W_block ?_
    refine W_seq ?_
    apply W_draw1 hF Trymixed [1000000] (i := 3) (by rfl) (by decide +kernel)
    intro ds
    refine P_det (by rfl) (Over_out (by rfl) (Over_nil (y_load1 (by rfl) Try.isAgg90 (Mem.own1 3 (by rfl) (by rfl))))) ?_
    refine P_det (by rfl) (Over_out (by rfl) (Over_nil (y_move (c := .int .i64 _) (by rfl)))) ?_
    refine P_det (by rfl) (Over_out (by rfl) (Over_nil (y_load1 (by rfl) Try.isAgg108 (Mem.own1 4 (by rfl) (by rfl))))) ?_
    refine P_det (by rfl) (Over_out (by rfl) (Over_nil (y_fieldAddr (by rfl) fa48_1))) ?_
    refine P_det (by rfl) (Over_out (by rfl) (Over_nil (y_load1 (by rfl) Try.isAgg3 (Mem.own1 0 (by rfl) (by rfl))))) ?_
    refine P_det (by rfl) (Over_out (by rfl) (Over_nil (by first | exact y_nilCheck (by rfl) | exact y_nilCheckF (by rfl)))) ?_
    refine P_det (by rfl) (Over_out (by rfl) (Over_nil (y_fieldAddr (by rfl) fa119_2))) ?_
    refine P_det (by rfl) (Over_out (by rfl) (Over_nil (y_indexA (k := kk) (by rfl) (by rfl) (by first | rfl | omega) (by first | decide | omega) Try.runUnderlying117 Try.sizeOf116))) ?_
    refine P_det (by rfl) (Over_out (by rfl) (Over_nil (y_fieldAddr (by rfl) fa116_2))) ?_
    refine P_det (by rfl) (Over_out (by rfl) (Over_nil (y_load1 (by rfl) Try.isAgg114 (Mem.oldAtL1 (o := 0) (p := 0 + 7 + kk * 3 + 2) h1 (by simp) (by rw [show 0 + 7 + kk * 3 + 2 - 0 = 7 + kk * 3 + 2 by omega]; exact back_cell g l a cap ae cape kk (by omega)))))) ?_
    refine P_det (by rfl) (Over_out (by rfl) (Over_nil (y_load1 (by rfl) Try.isAgg108 (Mem.own1 4 (by rfl) (by rfl))))) ?_
    refine P_det (by rfl) (Over_out (by rfl) (Over_nil (by first | exact y_nilCheck (by rfl) | exact y_nilCheckF (by rfl)))) ?_
    refine P_det (by rfl) (Over_out (by rfl) (Over_nil (y_fieldAddr (by rfl) fa119_0))) ?_
    refine P_det (by rfl) (Over_out (by rfl) (Over_nil (y_load1 (by rfl) Try.isAgg93 (by first | exact Mem.old1 (by assumption) | exact Mem.oldAt1 (by assumption) (by rfl) | exact Mem.old (by assumption) | exact Mem.oldAtL1 (by assumption) (by rfl) (by rfl))))) ?_
    refine P_det (by rfl) (Over_out (by rfl) (Over_nil (y_fieldAddr (by rfl) fa48_2))) ?_
    refine P_det (by rfl) (Over_out (by rfl) (Over_nil (y_loadN (by rfl) Try.isAgg26 Try.sizeOf26 (Mem.own (us := [.int .i64 _, .int .i64 _]) 0 (by rfl) (by rfl)) (by rfl)))) ?_
    refine P_det (by rfl) (Over_out (by rfl) (Over_nil (y_load1 (by rfl) Try.isAgg90 (Mem.own1 2 (by rfl) (by rfl))))) ?_
    refine P_det (by rfl) (Over_out (by rfl) (Over_nil (y_move (c := .int .i64 _) (by rfl)))) ?_
    refine P_det (by rfl) (Over_out (by rfl) (Over_nil (y_add (by rfl) (by rfl) (by unfold I64; omega)))) ?_
    refine P_det (by rfl) (Over_out (by rfl) (Over_nil (y_index (k := l.es.length - 1 - k + 1) (by rfl) (by rfl) (by first | rfl | omega) (by first | decide | omega) Try.runUnderlying90 Try.sizeOf26))) ?_
    refine P_det (by rfl) (Over_out (by rfl) (Over_nil (y_loadN (by rfl) Try.isAgg26 Try.sizeOf26 (Mem.row sn_len 1 (by rfl) (k := l.es.length - 1 - k + 1) (by omega) hafe (by omega)) (by rfl)))) ?_
    refine P_det (by rfl) (Over_out (by rfl) (Over_nil (y_callL (by rfl) (by rfl) (back_call _) (fun w hw => by rw [← hkk]; exact backF_any l (l.es.length - 1 - k) g 0 (l.aft (l.es.length - 1 - k + 1)) w hok (by omega) (hG.st w hw) (by unfold Sn.Sm; omega))))) ?_
    refine P_det (by rfl) (Over_out (by rfl) (Over_nil (y_index (k := l.es.length - 1 - k) (by rfl) (by rfl) (by first | rfl | omega) (by first | decide | omega) Try.runUnderlying90 Try.sizeOf26))) ?_
    refine P_st 1000000 0 (by rfl) (by rfl) (by rfl) (by rfl) (by rfl) (Over_nil (st_pre (fun _ => by rfl) (fun _ => by rfl) Try.sizeOf26 (by rfl) (by rfl) (by show 0 + (l.es.length - 1 - k) * 2 + 2 ≤ (snRow (l.bf k) l.es.length).length; rw [rowOf_len sn_len]; omega))) ?_
    refine PW_end (by rfl) ?_
    refine OverAll_cons (fun w1000000 l1000000 => ?_)
    refine OverAll_nil ?_
    rintro ⟨-, h1000000⟩
    obtain rfl := h1000000
    refine Then_normal ?_
    refine W_H (congrArg (fun x => (b5, CB x 26) :: _) hs1) ?_
    apply W_draw1 hF Trymixed [1000000] (i := 2) (by rfl) (by decide +kernel)
    intro ds
    refine P_det (by rfl) (Over_out (by rfl) (Over_nil (y_load1 (by rfl) Try.isAgg90 (Mem.own1 2 (by rfl) (by rfl))))) ?_
    refine P_det (by rfl) (Over_out (by rfl) (Over_nil (y_move (c := .int .i64 _) (by rfl)))) ?_
    refine P_det (by rfl) (Over_out (by rfl) (Over_nil (y_load1 (by rfl) Try.isAgg90 (Mem.own1 3 (by rfl) (by rfl))))) ?_
    refine P_det (by rfl) (Over_out (by rfl) (Over_nil (y_move (c := .int .i64 _) (by rfl)))) ?_
    refine P_det (by rfl) (Over_out (by rfl) (Over_nil (y_index (k := l.es.length - 1 - k) (by rfl) (by rfl) (by first | rfl | omega) (by first | decide | omega) Try.runUnderlying90 Try.sizeOf26))) ?_
    refine P_det (by rfl) (Over_out (by rfl) (Over_nil (y_fieldAddr (by rfl) fa26_0))) ?_
    refine P_det (by rfl) (Over_out (by rfl) (Over_nil (y_load1 (by rfl) Try.isAgg3 (Mem.rowAt sn_len 0 (by rfl) (k := l.es.length - 1 - k) (j := 0) (by omega) hbfe (by rfl) (by omega))))) ?_
    refine P_det (by rfl) (Over_out (by rfl) (Over_nil (y_load1 (by rfl) Try.isAgg108 (Mem.own1 4 (by rfl) (by rfl))))) ?_
    refine P_det (by rfl) (Over_out (by rfl) (Over_nil (by first | exact y_nilCheck (by rfl) | exact y_nilCheckF (by rfl)))) ?_
    refine P_det (by rfl) (Over_out (by rfl) (Over_nil (y_fieldAddr (by rfl) fa119_0))) ?_
    refine P_det (by rfl) (Over_out (by rfl) (Over_nil (y_load1 (by rfl) Try.isAgg93 (by first | exact Mem.old1 (by assumption) | exact Mem.oldAt1 (by assumption) (by rfl) | exact Mem.old (by assumption) | exact Mem.oldAtL1 (by assumption) (by rfl) (by rfl))))) ?_
    refine P_det (by rfl) (Over_out (by rfl) (Over_nil (by first | exact y_nilCheck (by rfl) | exact y_nilCheckF (by rfl)))) ?_
    refine P_det (by rfl) (Over_out (by rfl) (Over_nil (y_fieldAddr (by rfl) fa98_1))) ?_
    refine P_det (by rfl) (Over_out (by rfl) (Over_nil (y_load1 (by rfl) Try.isAgg3 (by first | exact Mem.old1 (by assumption) | exact Mem.oldAt1 (by assumption) (by rfl) | exact Mem.old (by assumption) | exact Mem.oldAtL1 (by assumption) (by rfl) (by rfl))))) ?_
    refine P_det (by rfl) (Over_out (by rfl) (Over_nil (y_load1 (by rfl) Try.isAgg90 (Mem.own1 3 (by rfl) (by rfl))))) ?_
    refine P_det (by rfl) (Over_out (by rfl) (Over_nil (y_move (c := .int .i64 _) (by rfl)))) ?_
    refine P_det (by rfl) (Over_out (by rfl) (Over_nil (y_index (k := l.es.length - 1 - k) (by rfl) (by rfl) (by first | rfl | omega) (by first | decide | omega) Try.runUnderlying90 Try.sizeOf26))) ?_
    refine P_det (by rfl) (Over_out (by rfl) (Over_nil (y_fieldAddr (by rfl) fa26_1))) ?_
    refine P_det (by rfl) (Over_out (by rfl) (Over_nil (y_load1 (by rfl) Try.isAgg3 (Mem.rowAt sn_len 0 (by rfl) (k := l.es.length - 1 - k) (j := 1) (by omega) hbfe (by rfl) (by omega))))) ?_
    refine P_det (by rfl) (Over_out (by rfl) (Over_nil (y_load1 (by rfl) Try.isAgg108 (Mem.own1 4 (by rfl) (by rfl))))) ?_
    refine P_det (by rfl) (Over_out (by rfl) (Over_nil (y_move (c := .int .i64 _) (by rfl)))) ?_
    refine P_det (by rfl) (Over_out (by rfl) (Over_nil (y_callL (by rfl) (by rw [← hik]; rfl) Try.call111 (fun w hw => drip_any bk l (l.es.length - 1 - k) w (hB0.st w hw) (by omega))))) ?_
    refine P_det (by rfl) (Over_out (by rfl) (Over_nil (y_add (by rfl) (by rfl) (by unfold I64; omega)))) ?_
    refine P_det (by rfl) (Over_out (by rfl) (Over_nil (y_min (by rfl) (by rfl)))) ?_
    refine P_det (by rfl) (Over_out (by rfl) (Over_nil (y_buildL bd26_0_1 (by rfl)))) ?_
    refine P_det (by rfl) (Over_out (by rfl) (Over_nil (y_index (k := l.es.length - 1 - k) (by rfl) (by rfl) (by first | rfl | omega) (by first | decide | omega) Try.runUnderlying90 Try.sizeOf26))) ?_
    refine P_st 1000000 0 (by rfl) (by rfl) (by rfl) (by rfl) (by rfl) (Over_nil (st_pre (fun _ => by rfl) (fun _ => by rfl) Try.sizeOf26 (by rfl) (by rfl) (by show 0 + (l.es.length - 1 - k) * 2 + 2 ≤ (snRow (l.af k) (l.es.length + 1)).length; rw [rowOf_len sn_len]; omega))) ?_
    refine PW_end (by rfl) ?_
    refine OverAll_cons (fun w1000000 l1000000 => ?_)
    refine OverAll_nil ?_
    rintro ⟨-, h1000000⟩
    obtain rfl := h1000000
    refine InB_normal ?_
    refine ⟨[_, _, _, _, _], (SubP.hsub (SubP.pick 0 (by rfl) (SubP.pick 2 (by rfl) (SubP.pick 0 (by rfl) (SubP.pick 1 (by rfl) (SubP.pick 1 (by rfl) (by exact SubP.drop (SubP.refl)))))))), ?_⟩
    exact congrArg (fun x => (b4, CB x 26) :: _) hs2
  · rintro G hj
    subst hj
    refine InB_normal ?_
    refine Then_normal ?_
    refine W_seq ?_
    apply W_drawZ 2 1 hF Trymixed [] [] [] (by rfl) (by decide +kernel) (by decide) (by rfl) (by rfl) (by rfl) (by rfl) (by rfl) Try.isAgg90 HSub.refl
    intro ds
    refine P_det (by rfl) (Over_nil (y_load1 (by rfl) Try.isAgg90 (Mem.own1 2 (by rfl) (by rfl)))) ?_
    refine P_det (by rfl) (Over_nil (y_load1 (by rfl) Try.isAgg90 (Mem.own1 4 (by rfl) (by rfl)))) ?_
    refine PW_end (by rfl) ?_
    refine OverAll_nil ?_
    rintro -
    refine ⟨?_, fun xz => ?_⟩
    ·
      refine WS_store hF (i := 2) (by rfl) (by rfl) Try.sizeOf90 (by rfl) (by rfl) (by rfl) (by first | decide | exact Nat.le_of_ble_eq_true rfl | simp) ?_
      refine WS_store hF (i := 4) (by rfl) (by rfl) Try.sizeOf90 (by rfl) (by rfl) (by rfl) (by first | decide | exact Nat.le_of_ble_eq_true rfl | simp) ?_
      refine WS_nil ?_
      refine Then_normal ?_
      refine W_ret ?_
      refine Fin_ret [_, _] [(b4, _), (b5, _)] Try.results128 ⟨lv1 (by rfl) Try.isAgg90 (Mem.own1 2 (by rfl) (by rfl)), lv1 (by rfl) Try.isAgg90 (Mem.own1 4 (by rfl) (by rfl)), trivial⟩ ((SubP.hsub (SubP.pick 1 (by rfl) (SubP.pick 2 (by rfl) (SubP.nil))))) ?_
      exact ⟨b4, b5, rfl, by rw [← l.af_end, ← l.bf_end]⟩
    ·
      refine WS_store hF (i := 2) (by rfl) (by rfl) Try.sizeOf90 (by rfl) (by rfl) (by rfl) (by first | decide | exact Nat.le_of_ble_eq_true rfl | simp) ?_
      refine WS_det hF (by rfl) (y_load1 (by rfl) Try.isAgg90 (Mem.own1 4 (by rfl) (by rfl))) ?_
      refine WS_store hF (i := 4) (by rfl) (by rfl) Try.sizeOf90 (by rfl) (by rfl) (by rfl) (by first | decide | exact Nat.le_of_ble_eq_true rfl | simp) ?_
      refine WS_nil ?_
      refine Then_normal ?_
      refine W_ret ?_
      refine Fin_ret [_, _] [(b4, _), (b5, _)] Try.results128 ⟨lv1 (by rfl) Try.isAgg90 (Mem.own1 2 (by rfl) (by rfl)), lv1 (by rfl) Try.isAgg90 (Mem.own1 4 (by rfl) (by rfl)), trivial⟩ ((SubP.hsub (SubP.pick 1 (by rfl) (SubP.pick 2 (by rfl) (SubP.nil))))) ?_
      exact ⟨b4, b5, rfl, by rw [← l.af_end, ← l.bf_end]⟩
  · rintro c k G hk hj
    exact hj.elim
end Go.Proofs.Ythkimgfgpphgnaa.T
