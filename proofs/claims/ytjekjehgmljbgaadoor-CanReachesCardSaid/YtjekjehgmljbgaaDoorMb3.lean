/- The fewest pourings for an aim: the program's walks. -/
import Derived.Test.YtjekjehgmljbgaaDoorMb2
import Derived.Test.YtjekjehgmljbgaaDoorMb1
import Derived.OrdersIn
set_option linter.unusedVariables false
set_option linter.unusedSimpArgs false
/- The program's pourings, walked. -/
namespace Go.Proofs.YtjekjehgmljbgaaDoor.T
open Go.RowKit Go.Proofs Go.Eng
set_option maxRecDepth 100000
set_option maxHeartbeats 1000000
set_option linter.unusedVariables false
set_option linter.unusedSimpArgs false

theorem fa96_0 : ∀ b o w, (Instr.fieldAt 96 (.pointer (some ⟨b, o, none⟩)) 0).run Tryd.prog w = .ok (.pointer (some ⟨b, o + 0, none⟩)) w := fun b o w => by kernel_rfl

theorem broom_any (c : Cn) (a1 : Option Addr) (p1 : Nat) (a2 : Option Addr) (p2 : Nat) (t : Nat) (w : World) (hn : c.n ≤ 1000000) (hm : c.inn.length ≤ 1000000) (h1 : Ints w a1 c.n p1 c.sz) (h2 : Ints w a2 c.inn.length p2 c.inn) (ht : t ≤ c.n) : Ct Tryd.prog 86 #[.agg #[.slice a1 c.n p1, .slice a2 c.inn.length p2, .int .i64 c.st], .int .i64 (t : Int)] w fun v _ => v = .int .i64 (c.room t) := by
  have hsz : c.sz.length = c.n := rfl
  have hF := wide_wide
  refine Ct_start (args := [_, _]) Tryd.func86 (by rfl) Tryd.ntmps86 (by rfl) ?_
  refine W_seq ?_
  refine W_region_lit (fun ds => ?_)
  refine WS_new hF (by rfl) (y_box (by rfl)) (fun b1 => ?_)
  refine WS_det hF (by rfl) (y_assign (c := .int .i64 _) (by rfl)) ?_
  refine WS_nil ?_
  refine Then_normal ?_
  refine W_seq ?_
  refine W_seq ?_
  refine W_region_lit (fun ds => ?_)
  refine WS_det hF (by rfl) (y_move (c := .int .i64 _) (by rfl)) ?_
  refine WS_det hF (by rfl) (y_eql (by rfl) (by rfl)) ?_
  refine WS_nil ?_
  refine Then_normal ?_
  refine W_cond (by rfl) (fun c1 => ?_) (fun c1 => ?_)
  ·
    try simp only [Bool.not_eq_true', Bool.not_eq_false', decide_eq_true_eq, decide_eq_false_iff_not, ne_eq, Classical.not_not, Int.not_lt, Int.not_le] at c1
    refine W_seq ?_
    refine W_region_lit (fun ds => ?_)
    refine WS_det hF (by rfl) (y_assign (c := .int .i64 _) (by rfl)) ?_
    refine WS_nil ?_
    refine Then_normal ?_
    refine W_ret ?_
    refine Then_ret ?_
    refine Fin_ret [.int .i64 _] [] Tryd.results86 ⟨by rfl, trivial⟩ HSub.nil ?_
    obtain rfl : t = 0 := by omega
    rfl
  ·
    try simp only [Bool.not_eq_true', Bool.not_eq_false', decide_eq_true_eq, decide_eq_false_iff_not, ne_eq, Classical.not_not, Int.not_lt, Int.not_le] at c1
    obtain ⟨j, rfl⟩ : ∃ j, t = j + 1 := ⟨t - 1, by omega⟩
    obtain ⟨b, o, rfl, hc⟩ := h1.cell j (by omega)
    change At w b _ [.int .i64 (c.s j)] at hc
    refine W_skip ?_
    refine Then_normal ?_
    refine W_seq ?_
    refine W_region_lit (fun ds => ?_)
    refine WS_det hF (by rfl) (y_fieldAddr (by rfl) fa96_0) ?_
    refine WS_det hF (by rfl) (y_fieldAddr (by rfl) fa24_0) ?_
    refine WS_det hF (by rfl) (y_load1 (by rfl) Tryd.isAgg22 (Mem.own1 0 (by rfl) (by rfl))) ?_
    refine WS_det hF (by rfl) (y_move (c := .int .i64 _) (by rfl)) ?_
    refine WS_det hF (by rfl) (y_sub (by rfl) (by rfl) (by unfold I64; omega)) ?_
    refine WS_det hF (by rfl) (y_index (k := j) (by rfl) (by rfl) (by first | rfl | omega) (by first | decide | omega) Tryd.runUnderlying22 Tryd.sizeOf3) ?_
    refine WS_det hF (by rfl) (y_load1 (by rfl) Tryd.isAgg3 (by first | exact Mem.old1 (by assumption) | exact Mem.oldAt1 (by assumption) (by rfl) | exact Mem.old (by assumption) | exact Mem.oldAtL1 (by assumption) (by rfl) (by rfl))) ?_
    refine WS_det hF (by rfl) (y_assign (c := .int .i64 _) (by rfl)) ?_
    refine WS_nil ?_
    refine Then_normal ?_
    refine W_ret ?_
    refine Fin_ret [.int .i64 _] [] Tryd.results86 ⟨by rfl, trivial⟩ HSub.nil ?_
    rfl
theorem bvalid_any (c : Cn) (a1 : Option Addr) (p1 : Nat) (a2 : Option Addr) (p2 : Nat) (p : Po) (w : World) : Ct Tryd.prog 48 #[.agg #[.slice a1 c.n p1, .slice a2 c.inn.length p2, .int .i64 c.st], .agg p.cells.toArray] w fun v _ => v = .bool (c.vldB p) := by
  have hF := wide_wide
  refine Ct_start (args := [_, _]) Tryd.func48 (by rfl) Tryd.ntmps48 (by rfl) ?_
  refine W_seq ?_
  refine W_region_lit (fun ds => ?_)
  refine WS_new hF (by rfl) (y_box (by rfl)) (fun b1 => ?_)
  refine WS_new hF (by rfl) (y_box (by rfl)) (fun b2 => ?_)
  refine WS_det hF (by rfl) (y_assign (c := .bool _) (by rfl)) ?_
  refine WS_nil ?_
  refine Then_normal ?_
  refine W_seq ?_
  refine W_region_lit (fun ds => ?_)
  refine WS_det hF (by rfl) (y_fieldAddr (by rfl) fa96_0) ?_
  refine WS_det hF (by rfl) (y_fieldAddr (by rfl) fa24_0) ?_
  refine WS_det hF (by rfl) (y_load1 (by rfl) Tryd.isAgg22 (Mem.own1 1 (by rfl) (by rfl))) ?_
  refine WS_det hF (by rfl) (y_len (by rfl) Tryd.runUnderlying22) ?_
  refine WS_det hF (by rfl) (y_fieldAddr (by rfl) fa26_0) ?_
  refine WS_det hF (by rfl) (y_load1 (by rfl) Tryd.isAgg3 (Mem.own1 0 (by rfl) (by rfl))) ?_
  refine WS_det hF (by rfl) (y_fieldAddr (by rfl) fa26_1) ?_
  refine WS_det hF (by rfl) (y_load1 (by rfl) Tryd.isAgg3 (Mem.own1 0 (by rfl) (by rfl))) ?_
  refine WS_newS hF (by rfl) (y_buildSliceL bs22_2_0_1 (by rfl)) (fun b3 => ?_)
  refine WS_det hF (by rfl) (y_callL (by rfl) (by rfl) Tryd.call56 (fun w hw => cin_any _ _ _ _ _ _ w (by decide) (by first | exact Ints.one 0 rfl w hw | exact Ints.two 0 rfl w hw))) ?_
  refine WS_det hF (by rfl) (y_move (c := .bool _) (by rfl)) ?_
  refine WS_split 15 (by rfl) (fun g1_10 => ?_) (fun g1_10 => ?_)
  ·
    try simp only [Bool.not_eq_true', Bool.not_eq_false', decide_eq_true_eq, decide_eq_false_iff_not, ne_eq, Classical.not_not, Int.not_lt, Int.not_le] at g1_10
    refine WS_det hF (by rfl) (y_fieldAddr (by rfl) fa26_0) ?_
    refine WS_det hF (by rfl) (y_load1 (by rfl) Tryd.isAgg3 (Mem.own1 1 (by rfl) (by rfl))) ?_
    refine WS_det hF (by rfl) (y_fieldAddr (by rfl) fa26_1) ?_
    refine WS_det hF (by rfl) (y_load1 (by rfl) Tryd.isAgg3 (Mem.own1 1 (by rfl) (by rfl))) ?_
    refine WS_det hF (by rfl) (y_neq (by rfl) (by rfl)) ?_
    refine WS_det hF (by rfl) (by first | exact y_pick_t (c := .bool _) (by rfl) (by rfl) | exact y_pick_f (c := .bool _) (by rfl) (by rfl)) ?_
    refine WS_det hF (by rfl) (y_assign (c := .bool _) (by rfl)) ?_
    refine WS_nil ?_
    refine Then_normal ?_
    refine W_ret ?_
    refine Fin_ret [.bool _] [] Tryd.results48 ⟨by rfl, trivial⟩ HSub.nil ?_
    show Value.bool _ = .bool (c.vldB p)
    unfold Cn.vldB
    simp [*]
  ·
    try simp only [Bool.not_eq_true', Bool.not_eq_false', decide_eq_true_eq, decide_eq_false_iff_not, ne_eq, Classical.not_not, Int.not_lt, Int.not_le] at g1_10
    refine WS_no hF (by rfl) ?_
    refine WS_no hF (by rfl) ?_
    refine WS_no hF (by rfl) ?_
    refine WS_no hF (by rfl) ?_
    refine WS_no hF (by rfl) ?_
    refine WS_det hF (by rfl) (by first | exact y_pick_t (c := .bool _) (by rfl) (by rfl) | exact y_pick_f (c := .bool _) (by rfl) (by rfl)) ?_
    refine WS_det hF (by rfl) (y_assign (c := .bool _) (by rfl)) ?_
    refine WS_nil ?_
    refine Then_normal ?_
    refine W_ret ?_
    refine Fin_ret [.bool _] [] Tryd.results48 ⟨by rfl, trivial⟩ HSub.nil ?_
    show Value.bool _ = .bool (c.vldB p)
    unfold Cn.vldB
    simp [*]
def Cn.pourR (c : Cn) (x : Co) (f t : Nat) : Value := .tuple #[.agg (if c.noB x f t then x else c.to x f t).cells.toArray, .bool (c.canB x f t)]
theorem Cn.pourR_no {c : Cn} {x : Co} {f t : Nat} (h : (f = 0 ∧ x.g f < c.room t - x.g t) ∨ (t = 0 ∧ c.room t - x.g t < x.g f)) : Value.tuple #[.agg x.cells.toArray, .bool false] = c.pourR x f t := by
  have hno : c.noB x f t = true := by
    unfold Cn.noB Cn.lack
    rcases h with ⟨h1, h2⟩ | ⟨h1, h2⟩
    · rw [decide_eq_true h1, decide_eq_true h2]; rfl
    · rw [decide_eq_true h1, decide_eq_true h2, Bool.true_and, Bool.or_true]
  unfold Cn.pourR Cn.canB
  rw [hno]; rfl
theorem Cn.pourR_go {c : Cn} {x : Co} {f t : Nat} (h : ¬ ((f = 0 ∧ x.g f < c.room t - x.g t) ∨ (t = 0 ∧ c.room t - x.g t < x.g f))) : Value.tuple #[.agg (c.to x f t).cells.toArray, .bool (decide (c.amt x f t > 0))] = c.pourR x f t := by
  have hno : c.noB x f t = false := by
    unfold Cn.noB Cn.lack
    rw [Bool.or_eq_false_iff, Bool.and_eq_false_iff, Bool.and_eq_false_iff]
    simp only [decide_eq_false_iff_not]
    omega
  unfold Cn.pourR Cn.canB
  rw [hno]; rfl
theorem bpour_any (c : Cn) (a1 : Option Addr) (p1 : Nat) (a2 : Option Addr) (p2 : Nat) (x : Co) (f t : Nat) (w : World) (hok : c.Ok) (hn : c.n ≤ 1000000) (hm : c.inn.length ≤ 1000000) (h1 : Ints w a1 c.n p1 c.sz) (h2 : Ints w a2 c.inn.length p2 c.inn) (hin : c.In x) (hf : f ≤ c.n) (ht : t ≤ c.n) (hft : f ≠ t) :
    Ct Tryd.prog 49 #[.agg #[.slice a1 c.n p1, .slice a2 c.inn.length p2, .int .i64 c.st], .agg x.cells.toArray, .agg #[.int .i64 (f : Int), .int .i64 (t : Int)]] w fun v _ => v = c.pourR x f t := by
  have hn3 := hok.n3
  obtain ⟨e1, hd1⟩ := x.drop (k := f) (by omega)
  obtain ⟨e2, hd2⟩ := x.drop (k := t) (by omega)
  have hl1 := hin.lo f (by omega)
  have hl2 := hin.lo t (by omega)
  have hh1 := hin.hi f hf
  have hh2 := hin.hi t ht
  have hr : ∀ k, k ≤ c.n → 0 ≤ c.room k ∧ c.room k ≤ 600 := fun k hk => by
    cases k with
    | zero => exact ⟨by show (0 : Int) ≤ 600; omega, by show (600 : Int) ≤ 600; omega⟩
    | succ k => have := hok.s k (by omega); exact ⟨by show 0 ≤ c.s k; omega, by show c.s k ≤ 600; omega⟩
  have hr1 := hr f hf
  have hr2 := hr t ht
  have hF := wide_wide
  refine Ct_start (args := [_, _, _]) Tryd.func49 (by rfl) Tryd.ntmps49 (by rfl) ?_
  refine W_seq ?_
  refine W_region_lit (fun ds => ?_)
  refine WS_new hF (by rfl) (y_box (by rfl)) (fun b1 => ?_)
  refine WS_new hF (by rfl) (y_box (by rfl)) (fun b2 => ?_)
  refine WS_new hF (by rfl) (y_box (by rfl)) (fun b3 => ?_)
  refine WS_new hF (by rfl) (y_alloc Tryd.zeroValue99 (by rfl)) (fun b4 => ?_)
  refine WS_det hF (by rfl) (y_assign (c := .bool _) (by rfl)) ?_
  refine WS_nil ?_
  refine Then_normal ?_
  refine W_seq ?_
  refine W_draw0 hF Trydmixed [] (by decide +kernel) (fun ds => ?_)
  refine P_det (by rfl) (Over_nil (y_fieldAddr (by rfl) fa26_0)) ?_
  refine P_det (by rfl) (Over_nil (y_load1 (by rfl) Tryd.isAgg3 (Mem.own1 1 (by rfl) (by rfl)))) ?_
  refine P_det (by rfl) (Over_nil (y_indexA (k := f) (by rfl) (by rfl) (by first | rfl | omega) (by first | decide | omega) Tryd.runUnderlying99 Tryd.sizeOf3)) ?_
  refine P_det (by rfl) (Over_nil (y_load1 (by rfl) Tryd.isAgg3 (Mem.own (us := [.int .i64 (x.g f)]) 2 (by rfl) hd1))) ?_
  refine P_det (by rfl) (Over_nil (y_loadN (by rfl) Tryd.isAgg96 Tryd.sizeOf96 (Mem.own (us := [.slice _ _ _, .slice _ _ _, .int .i64 _]) 3 (by rfl) (by rfl)) (by rfl))) ?_
  refine P_det (by rfl) (Over_nil (y_fieldAddr (by rfl) fa26_1)) ?_
  refine P_det (by rfl) (Over_nil (y_load1 (by rfl) Tryd.isAgg3 (Mem.own1 1 (by rfl) (by rfl)))) ?_
  refine P_det (by rfl) (Over_nil (y_callL (by rfl) (by rfl) Tryd.call86 (fun w hw => broom_any c a1 p1 a2 p2 t w hn hm (h1.st w hw) (h2.st w hw) ht))) ?_
  refine P_det (by rfl) (Over_nil (y_fieldAddr (by rfl) fa26_1)) ?_
  refine P_det (by rfl) (Over_nil (y_load1 (by rfl) Tryd.isAgg3 (Mem.own1 1 (by rfl) (by rfl)))) ?_
  refine P_det (by rfl) (Over_nil (y_indexA (k := t) (by rfl) (by rfl) (by first | rfl | omega) (by first | decide | omega) Tryd.runUnderlying99 Tryd.sizeOf3)) ?_
  refine P_det (by rfl) (Over_nil (y_load1 (by rfl) Tryd.isAgg3 (Mem.own (us := [.int .i64 (x.g t)]) 2 (by rfl) hd2))) ?_
  refine P_det (by rfl) (Over_nil (y_sub (by rfl) (by rfl) (by unfold I64; omega))) ?_
  refine P_det (by rfl) (Over_nil (y_assign (c := .int .i64 _) (by rfl))) ?_
  refine P_det (by rfl) (Over_nil (y_assign (c := .int .i64 _) (by rfl))) ?_
  refine PW_end (by rfl) ?_
  refine OverAll_nil ?_
  rintro -
  refine Then_normal ?_
  refine W_seq ?_
  refine W_block ?_
  refine W_seq ?_
  refine W_seq ?_
  refine W_region_lit (fun ds => ?_)
  refine WS_det hF (by rfl) (y_fieldAddr (by rfl) fa26_0) ?_
  refine WS_det hF (by rfl) (y_load1 (by rfl) Tryd.isAgg3 (Mem.own1 1 (by rfl) (by rfl))) ?_
  refine WS_det hF (by rfl) (y_eql (by rfl) (by rfl)) ?_
  refine WS_det hF (by rfl) (y_move (c := .bool _) (by rfl)) ?_
  refine WS_split 27 (by rfl) (fun g2_3 => ?_) (fun g2_3 => ?_)
  ·
    try simp only [Bool.not_eq_true', Bool.not_eq_false', decide_eq_true_eq, decide_eq_false_iff_not, ne_eq, Classical.not_not, Int.not_lt, Int.not_le] at g2_3
    refine WS_det hF (by rfl) (y_move (c := .int .i64 _) (by rfl)) ?_
    refine WS_det hF (by rfl) (y_move (c := .int .i64 _) (by rfl)) ?_
    refine WS_det hF (by rfl) (y_lss (by rfl) (by rfl)) ?_
    refine WS_det hF (by rfl) (by first | exact y_pick_t (c := .bool _) (by rfl) (by rfl) | exact y_pick_f (c := .bool _) (by rfl) (by rfl)) ?_
    refine WS_det hF (by rfl) (y_assign (c := .bool _) (by rfl)) ?_
    refine WS_nil ?_
    refine Then_normal ?_
    refine W_cond (by rfl) (fun c2 => ?_) (fun c2 => ?_)
    ·
      try simp only [Bool.not_eq_true', Bool.not_eq_false', decide_eq_true_eq, decide_eq_false_iff_not, ne_eq, Classical.not_not, Int.not_lt, Int.not_le] at c2
      refine W_skip ?_
      refine Then_normal ?_
      refine W_cond (by rfl) (fun c2 => ?_) (fun c2 => ?_)
      ·
        try simp only [Bool.not_eq_true', Bool.not_eq_false', decide_eq_true_eq, decide_eq_false_iff_not, ne_eq, Classical.not_not, Int.not_lt, Int.not_le] at c2
        refine W_seq ?_
        refine W_region_lit (fun ds => ?_)
        refine WS_det hF (by rfl) (y_loadN (by rfl) Tryd.isAgg99 Tryd.sizeOf99 (Mem.own (us := [.int .i64 _, .int .i64 _, .int .i64 _, .int .i64 _]) 2 (by rfl) (by rfl)) (by rfl)) ?_
        refine WS_store hF (us := [.int .i64 _, .int .i64 _, .int .i64 _, .int .i64 _]) (i := 0) (by rfl) (by rfl) Tryd.sizeOf99 (by rfl) (by rfl) (by rfl) (by first | decide | exact Nat.le_of_ble_eq_true rfl | simp) ?_
        refine WS_det hF (by rfl) (y_assign (c := .bool _) (by rfl)) ?_
        refine WS_nil ?_
        refine Then_normal ?_
        refine W_ret ?_
        refine InB_ret ?_
        refine Then_ret ?_
        refine Fin_ret [_, .bool _] [] Tryd.results49 ⟨lvN (by rfl) Tryd.isAgg99 Tryd.sizeOf99 (Mem.own (us := [.int .i64 _, .int .i64 _, .int .i64 _, .int .i64 _]) 0 (by rfl) (by rfl)) (by rfl), by rfl, trivial⟩ HSub.nil ?_
        first
          | exact Cn.pourR_no (by omega)
          | exact Cn.pourR_go (by omega)
      ·
        try simp only [Bool.not_eq_true', Bool.not_eq_false', decide_eq_true_eq, decide_eq_false_iff_not, ne_eq, Classical.not_not, Int.not_lt, Int.not_le] at c2
        refine W_skip ?_
        refine InB_normal ?_
        refine Then_normal ?_
        refine W_seq ?_
        refine W_region_lit (fun ds => ?_)
        refine WS_det hF (by rfl) (y_move (c := .int .i64 _) (by rfl)) ?_
        refine WS_det hF (by rfl) (y_move (c := .int .i64 _) (by rfl)) ?_
        refine WS_det hF (by rfl) (y_min (by rfl) (by rfl)) ?_
        refine WS_det hF (by rfl) (y_assign (c := .int .i64 _) (by rfl)) ?_
        refine WS_nil ?_
        refine Then_normal ?_
        refine W_seq ?_
        refine W_region_lit (fun ds => ?_)
        refine WS_det hF (by rfl) (y_fieldAddr (by rfl) fa26_0) ?_
        refine WS_det hF (by rfl) (y_load1 (by rfl) Tryd.isAgg3 (Mem.own1 1 (by rfl) (by rfl))) ?_
        refine WS_det hF (by rfl) (y_indexA (k := f) (by rfl) (by rfl) (by first | rfl | omega) (by first | decide | omega) Tryd.runUnderlying99 Tryd.sizeOf3) ?_
        refine WS_det hF (by rfl) (y_load1 (by rfl) Tryd.isAgg3 (Mem.own (us := [.int .i64 (x.g f)]) 2 (by rfl) hd1)) ?_
        refine WS_det hF (by rfl) (y_move (c := .int .i64 _) (by rfl)) ?_
        refine WS_det hF (by rfl) (y_sub (by rfl) (by rfl) (by unfold I64; omega)) ?_
        refine WS_det hF (by rfl) (y_indexA (k := f) (by rfl) (by rfl) (by first | rfl | omega) (by first | decide | omega) Tryd.runUnderlying99 Tryd.sizeOf3) ?_
        refine WS_store hF (us := [.int .i64 _]) (i := 2) (by rfl) (by rfl) Tryd.sizeOf3 (by rfl) (by rfl) (by rfl) (by show 0 + f * 1 + 1 ≤ 4; omega) ?_
        refine WS_nil ?_
        refine Then_normal ?_
        refine W_seq ?_
        rw [Co.splice x _ (k := f) (by omega)]
        obtain ⟨e3, hd3⟩ := (x.w f (x.g f - c.amt x f t)).drop (k := t) (by omega)
        rw [Co.g_w _ _ (by omega) (by omega), if_neg (Ne.symm hft)] at hd3
        refine W_region_lit (fun ds => ?_)
        refine WS_det hF (by rfl) (y_fieldAddr (by rfl) fa26_1) ?_
        refine WS_det hF (by rfl) (y_load1 (by rfl) Tryd.isAgg3 (Mem.own1 1 (by rfl) (by rfl))) ?_
        refine WS_det hF (by rfl) (y_indexA (k := t) (by rfl) (by rfl) (by first | rfl | omega) (by first | decide | omega) Tryd.runUnderlying99 Tryd.sizeOf3) ?_
        refine WS_det hF (by rfl) (y_load1 (by rfl) Tryd.isAgg3 (Mem.own (us := [.int .i64 (x.g t)]) 2 (by rfl) hd3)) ?_
        refine WS_det hF (by rfl) (y_move (c := .int .i64 _) (by rfl)) ?_
        refine WS_det hF (by rfl) (y_add (by rfl) (by rfl) (by unfold I64; omega)) ?_
        refine WS_det hF (by rfl) (y_indexA (k := t) (by rfl) (by rfl) (by first | rfl | omega) (by first | decide | omega) Tryd.runUnderlying99 Tryd.sizeOf3) ?_
        refine WS_store hF (us := [.int .i64 _]) (i := 2) (by rfl) (by rfl) Tryd.sizeOf3 (by rfl) (by rfl) (by rfl) (by show 0 + t * 1 + 1 ≤ 4; omega) ?_
        refine WS_nil ?_
        refine Then_normal ?_
        refine W_seq ?_
        rw [Co.splice _ _ (k := t) (by omega)]
        refine W_region_lit (fun ds => ?_)
        refine WS_det hF (by rfl) (y_loadN (by rfl) Tryd.isAgg99 Tryd.sizeOf99 (Mem.own (us := [.int .i64 _, .int .i64 _, .int .i64 _, .int .i64 _]) 2 (by rfl) (by rfl)) (by rfl)) ?_
        refine WS_det hF (by rfl) (y_move (c := .int .i64 _) (by rfl)) ?_
        refine WS_det hF (by rfl) (y_gtr (by rfl) (by rfl)) ?_
        refine WS_store hF (us := [.int .i64 _, .int .i64 _, .int .i64 _, .int .i64 _]) (i := 0) (by rfl) (by rfl) Tryd.sizeOf99 (by rfl) (by rfl) (by rfl) (by first | decide | exact Nat.le_of_ble_eq_true rfl | simp) ?_
        refine WS_det hF (by rfl) (y_assign (c := .bool _) (by rfl)) ?_
        refine WS_nil ?_
        refine Then_normal ?_
        refine W_ret ?_
        refine Fin_ret [_, .bool _] [] Tryd.results49 ⟨lvN (by rfl) Tryd.isAgg99 Tryd.sizeOf99 (Mem.own (us := [.int .i64 _, .int .i64 _, .int .i64 _, .int .i64 _]) 0 (by rfl) (by rfl)) (by rfl), by rfl, trivial⟩ HSub.nil ?_
        first
          | exact Cn.pourR_no (by omega)
          | exact Cn.pourR_go (by omega)
    ·
      try simp only [Bool.not_eq_true', Bool.not_eq_false', decide_eq_true_eq, decide_eq_false_iff_not, ne_eq, Classical.not_not, Int.not_lt, Int.not_le] at c2
      refine W_region_lit (fun ds => ?_)
      refine WS_det hF (by rfl) (y_fieldAddr (by rfl) fa26_1) ?_
      refine WS_det hF (by rfl) (y_load1 (by rfl) Tryd.isAgg3 (Mem.own1 1 (by rfl) (by rfl))) ?_
      refine WS_det hF (by rfl) (y_eql (by rfl) (by rfl)) ?_
      refine WS_det hF (by rfl) (y_move (c := .bool _) (by rfl)) ?_
      refine WS_split 35 (by rfl) (fun g3_3 => ?_) (fun g3_3 => ?_)
      ·
        try simp only [Bool.not_eq_true', Bool.not_eq_false', decide_eq_true_eq, decide_eq_false_iff_not, ne_eq, Classical.not_not, Int.not_lt, Int.not_le] at g3_3
        refine WS_det hF (by rfl) (y_move (c := .int .i64 _) (by rfl)) ?_
        refine WS_det hF (by rfl) (y_move (c := .int .i64 _) (by rfl)) ?_
        refine WS_det hF (by rfl) (y_gtr (by rfl) (by rfl)) ?_
        refine WS_det hF (by rfl) (by first | exact y_pick_t (c := .bool _) (by rfl) (by rfl) | exact y_pick_f (c := .bool _) (by rfl) (by rfl)) ?_
        refine WS_det hF (by rfl) (y_assign (c := .bool _) (by rfl)) ?_
        refine WS_nil ?_
        refine Then_normal ?_
        refine W_cond (by rfl) (fun c3 => ?_) (fun c3 => ?_)
        ·
          try simp only [Bool.not_eq_true', Bool.not_eq_false', decide_eq_true_eq, decide_eq_false_iff_not, ne_eq, Classical.not_not, Int.not_lt, Int.not_le] at c3
          refine W_seq ?_
          refine W_region_lit (fun ds => ?_)
          refine WS_det hF (by rfl) (y_loadN (by rfl) Tryd.isAgg99 Tryd.sizeOf99 (Mem.own (us := [.int .i64 _, .int .i64 _, .int .i64 _, .int .i64 _]) 2 (by rfl) (by rfl)) (by rfl)) ?_
          refine WS_store hF (us := [.int .i64 _, .int .i64 _, .int .i64 _, .int .i64 _]) (i := 0) (by rfl) (by rfl) Tryd.sizeOf99 (by rfl) (by rfl) (by rfl) (by first | decide | exact Nat.le_of_ble_eq_true rfl | simp) ?_
          refine WS_det hF (by rfl) (y_assign (c := .bool _) (by rfl)) ?_
          refine WS_nil ?_
          refine Then_normal ?_
          refine W_ret ?_
          refine InB_ret ?_
          refine Then_ret ?_
          refine Fin_ret [_, .bool _] [] Tryd.results49 ⟨lvN (by rfl) Tryd.isAgg99 Tryd.sizeOf99 (Mem.own (us := [.int .i64 _, .int .i64 _, .int .i64 _, .int .i64 _]) 0 (by rfl) (by rfl)) (by rfl), by rfl, trivial⟩ HSub.nil ?_
          first
            | exact Cn.pourR_no (by omega)
            | exact Cn.pourR_go (by omega)
        ·
          try simp only [Bool.not_eq_true', Bool.not_eq_false', decide_eq_true_eq, decide_eq_false_iff_not, ne_eq, Classical.not_not, Int.not_lt, Int.not_le] at c3
          refine W_skip ?_
          refine InB_normal ?_
          refine Then_normal ?_
          refine W_seq ?_
          refine W_region_lit (fun ds => ?_)
          refine WS_det hF (by rfl) (y_move (c := .int .i64 _) (by rfl)) ?_
          refine WS_det hF (by rfl) (y_move (c := .int .i64 _) (by rfl)) ?_
          refine WS_det hF (by rfl) (y_min (by rfl) (by rfl)) ?_
          refine WS_det hF (by rfl) (y_assign (c := .int .i64 _) (by rfl)) ?_
          refine WS_nil ?_
          refine Then_normal ?_
          refine W_seq ?_
          refine W_region_lit (fun ds => ?_)
          refine WS_det hF (by rfl) (y_fieldAddr (by rfl) fa26_0) ?_
          refine WS_det hF (by rfl) (y_load1 (by rfl) Tryd.isAgg3 (Mem.own1 1 (by rfl) (by rfl))) ?_
          refine WS_det hF (by rfl) (y_indexA (k := f) (by rfl) (by rfl) (by first | rfl | omega) (by first | decide | omega) Tryd.runUnderlying99 Tryd.sizeOf3) ?_
          refine WS_det hF (by rfl) (y_load1 (by rfl) Tryd.isAgg3 (Mem.own (us := [.int .i64 (x.g f)]) 2 (by rfl) hd1)) ?_
          refine WS_det hF (by rfl) (y_move (c := .int .i64 _) (by rfl)) ?_
          refine WS_det hF (by rfl) (y_sub (by rfl) (by rfl) (by unfold I64; omega)) ?_
          refine WS_det hF (by rfl) (y_indexA (k := f) (by rfl) (by rfl) (by first | rfl | omega) (by first | decide | omega) Tryd.runUnderlying99 Tryd.sizeOf3) ?_
          refine WS_store hF (us := [.int .i64 _]) (i := 2) (by rfl) (by rfl) Tryd.sizeOf3 (by rfl) (by rfl) (by rfl) (by show 0 + f * 1 + 1 ≤ 4; omega) ?_
          refine WS_nil ?_
          refine Then_normal ?_
          refine W_seq ?_
          rw [Co.splice x _ (k := f) (by omega)]
          obtain ⟨e3, hd3⟩ := (x.w f (x.g f - c.amt x f t)).drop (k := t) (by omega)
          rw [Co.g_w _ _ (by omega) (by omega), if_neg (Ne.symm hft)] at hd3
          refine W_region_lit (fun ds => ?_)
          refine WS_det hF (by rfl) (y_fieldAddr (by rfl) fa26_1) ?_
          refine WS_det hF (by rfl) (y_load1 (by rfl) Tryd.isAgg3 (Mem.own1 1 (by rfl) (by rfl))) ?_
          refine WS_det hF (by rfl) (y_indexA (k := t) (by rfl) (by rfl) (by first | rfl | omega) (by first | decide | omega) Tryd.runUnderlying99 Tryd.sizeOf3) ?_
          refine WS_det hF (by rfl) (y_load1 (by rfl) Tryd.isAgg3 (Mem.own (us := [.int .i64 (x.g t)]) 2 (by rfl) hd3)) ?_
          refine WS_det hF (by rfl) (y_move (c := .int .i64 _) (by rfl)) ?_
          refine WS_det hF (by rfl) (y_add (by rfl) (by rfl) (by unfold I64; omega)) ?_
          refine WS_det hF (by rfl) (y_indexA (k := t) (by rfl) (by rfl) (by first | rfl | omega) (by first | decide | omega) Tryd.runUnderlying99 Tryd.sizeOf3) ?_
          refine WS_store hF (us := [.int .i64 _]) (i := 2) (by rfl) (by rfl) Tryd.sizeOf3 (by rfl) (by rfl) (by rfl) (by show 0 + t * 1 + 1 ≤ 4; omega) ?_
          refine WS_nil ?_
          refine Then_normal ?_
          refine W_seq ?_
          rw [Co.splice _ _ (k := t) (by omega)]
          refine W_region_lit (fun ds => ?_)
          refine WS_det hF (by rfl) (y_loadN (by rfl) Tryd.isAgg99 Tryd.sizeOf99 (Mem.own (us := [.int .i64 _, .int .i64 _, .int .i64 _, .int .i64 _]) 2 (by rfl) (by rfl)) (by rfl)) ?_
          refine WS_det hF (by rfl) (y_move (c := .int .i64 _) (by rfl)) ?_
          refine WS_det hF (by rfl) (y_gtr (by rfl) (by rfl)) ?_
          refine WS_store hF (us := [.int .i64 _, .int .i64 _, .int .i64 _, .int .i64 _]) (i := 0) (by rfl) (by rfl) Tryd.sizeOf99 (by rfl) (by rfl) (by rfl) (by first | decide | exact Nat.le_of_ble_eq_true rfl | simp) ?_
          refine WS_det hF (by rfl) (y_assign (c := .bool _) (by rfl)) ?_
          refine WS_nil ?_
          refine Then_normal ?_
          refine W_ret ?_
          refine Fin_ret [_, .bool _] [] Tryd.results49 ⟨lvN (by rfl) Tryd.isAgg99 Tryd.sizeOf99 (Mem.own (us := [.int .i64 _, .int .i64 _, .int .i64 _, .int .i64 _]) 0 (by rfl) (by rfl)) (by rfl), by rfl, trivial⟩ HSub.nil ?_
          first
            | exact Cn.pourR_no (by omega)
            | exact Cn.pourR_go (by omega)
      ·
        try simp only [Bool.not_eq_true', Bool.not_eq_false', decide_eq_true_eq, decide_eq_false_iff_not, ne_eq, Classical.not_not, Int.not_lt, Int.not_le] at g3_3
        refine WS_no hF (by rfl) ?_
        refine WS_no hF (by rfl) ?_
        refine WS_no hF (by rfl) ?_
        refine WS_det hF (by rfl) (by first | exact y_pick_t (c := .bool _) (by rfl) (by rfl) | exact y_pick_f (c := .bool _) (by rfl) (by rfl)) ?_
        refine WS_det hF (by rfl) (y_assign (c := .bool _) (by rfl)) ?_
        refine WS_nil ?_
        refine Then_normal ?_
        refine W_cond (by rfl) (fun c3 => ?_) (fun c3 => ?_)
        · cases c3
        ·
          try simp only [Bool.not_eq_true', Bool.not_eq_false', decide_eq_true_eq, decide_eq_false_iff_not, ne_eq, Classical.not_not, Int.not_lt, Int.not_le] at c3
          refine W_skip ?_
          refine InB_normal ?_
          refine Then_normal ?_
          refine W_seq ?_
          refine W_region_lit (fun ds => ?_)
          refine WS_det hF (by rfl) (y_move (c := .int .i64 _) (by rfl)) ?_
          refine WS_det hF (by rfl) (y_move (c := .int .i64 _) (by rfl)) ?_
          refine WS_det hF (by rfl) (y_min (by rfl) (by rfl)) ?_
          refine WS_det hF (by rfl) (y_assign (c := .int .i64 _) (by rfl)) ?_
          refine WS_nil ?_
          refine Then_normal ?_
          refine W_seq ?_
          refine W_region_lit (fun ds => ?_)
          refine WS_det hF (by rfl) (y_fieldAddr (by rfl) fa26_0) ?_
          refine WS_det hF (by rfl) (y_load1 (by rfl) Tryd.isAgg3 (Mem.own1 1 (by rfl) (by rfl))) ?_
          refine WS_det hF (by rfl) (y_indexA (k := f) (by rfl) (by rfl) (by first | rfl | omega) (by first | decide | omega) Tryd.runUnderlying99 Tryd.sizeOf3) ?_
          refine WS_det hF (by rfl) (y_load1 (by rfl) Tryd.isAgg3 (Mem.own (us := [.int .i64 (x.g f)]) 2 (by rfl) hd1)) ?_
          refine WS_det hF (by rfl) (y_move (c := .int .i64 _) (by rfl)) ?_
          refine WS_det hF (by rfl) (y_sub (by rfl) (by rfl) (by unfold I64; omega)) ?_
          refine WS_det hF (by rfl) (y_indexA (k := f) (by rfl) (by rfl) (by first | rfl | omega) (by first | decide | omega) Tryd.runUnderlying99 Tryd.sizeOf3) ?_
          refine WS_store hF (us := [.int .i64 _]) (i := 2) (by rfl) (by rfl) Tryd.sizeOf3 (by rfl) (by rfl) (by rfl) (by show 0 + f * 1 + 1 ≤ 4; omega) ?_
          refine WS_nil ?_
          refine Then_normal ?_
          refine W_seq ?_
          rw [Co.splice x _ (k := f) (by omega)]
          obtain ⟨e3, hd3⟩ := (x.w f (x.g f - c.amt x f t)).drop (k := t) (by omega)
          rw [Co.g_w _ _ (by omega) (by omega), if_neg (Ne.symm hft)] at hd3
          refine W_region_lit (fun ds => ?_)
          refine WS_det hF (by rfl) (y_fieldAddr (by rfl) fa26_1) ?_
          refine WS_det hF (by rfl) (y_load1 (by rfl) Tryd.isAgg3 (Mem.own1 1 (by rfl) (by rfl))) ?_
          refine WS_det hF (by rfl) (y_indexA (k := t) (by rfl) (by rfl) (by first | rfl | omega) (by first | decide | omega) Tryd.runUnderlying99 Tryd.sizeOf3) ?_
          refine WS_det hF (by rfl) (y_load1 (by rfl) Tryd.isAgg3 (Mem.own (us := [.int .i64 (x.g t)]) 2 (by rfl) hd3)) ?_
          refine WS_det hF (by rfl) (y_move (c := .int .i64 _) (by rfl)) ?_
          refine WS_det hF (by rfl) (y_add (by rfl) (by rfl) (by unfold I64; omega)) ?_
          refine WS_det hF (by rfl) (y_indexA (k := t) (by rfl) (by rfl) (by first | rfl | omega) (by first | decide | omega) Tryd.runUnderlying99 Tryd.sizeOf3) ?_
          refine WS_store hF (us := [.int .i64 _]) (i := 2) (by rfl) (by rfl) Tryd.sizeOf3 (by rfl) (by rfl) (by rfl) (by show 0 + t * 1 + 1 ≤ 4; omega) ?_
          refine WS_nil ?_
          refine Then_normal ?_
          refine W_seq ?_
          rw [Co.splice _ _ (k := t) (by omega)]
          refine W_region_lit (fun ds => ?_)
          refine WS_det hF (by rfl) (y_loadN (by rfl) Tryd.isAgg99 Tryd.sizeOf99 (Mem.own (us := [.int .i64 _, .int .i64 _, .int .i64 _, .int .i64 _]) 2 (by rfl) (by rfl)) (by rfl)) ?_
          refine WS_det hF (by rfl) (y_move (c := .int .i64 _) (by rfl)) ?_
          refine WS_det hF (by rfl) (y_gtr (by rfl) (by rfl)) ?_
          refine WS_store hF (us := [.int .i64 _, .int .i64 _, .int .i64 _, .int .i64 _]) (i := 0) (by rfl) (by rfl) Tryd.sizeOf99 (by rfl) (by rfl) (by rfl) (by first | decide | exact Nat.le_of_ble_eq_true rfl | simp) ?_
          refine WS_det hF (by rfl) (y_assign (c := .bool _) (by rfl)) ?_
          refine WS_nil ?_
          refine Then_normal ?_
          refine W_ret ?_
          refine Fin_ret [_, .bool _] [] Tryd.results49 ⟨lvN (by rfl) Tryd.isAgg99 Tryd.sizeOf99 (Mem.own (us := [.int .i64 _, .int .i64 _, .int .i64 _, .int .i64 _]) 0 (by rfl) (by rfl)) (by rfl), by rfl, trivial⟩ HSub.nil ?_
          first
            | exact Cn.pourR_no (by omega)
            | exact Cn.pourR_go (by omega)
  ·
    try simp only [Bool.not_eq_true', Bool.not_eq_false', decide_eq_true_eq, decide_eq_false_iff_not, ne_eq, Classical.not_not, Int.not_lt, Int.not_le] at g2_3
    refine WS_no hF (by rfl) ?_
    refine WS_no hF (by rfl) ?_
    refine WS_no hF (by rfl) ?_
    refine WS_det hF (by rfl) (by first | exact y_pick_t (c := .bool _) (by rfl) (by rfl) | exact y_pick_f (c := .bool _) (by rfl) (by rfl)) ?_
    refine WS_det hF (by rfl) (y_assign (c := .bool _) (by rfl)) ?_
    refine WS_nil ?_
    refine Then_normal ?_
    refine W_cond (by rfl) (fun c2 => ?_) (fun c2 => ?_)
    · cases c2
    ·
      try simp only [Bool.not_eq_true', Bool.not_eq_false', decide_eq_true_eq, decide_eq_false_iff_not, ne_eq, Classical.not_not, Int.not_lt, Int.not_le] at c2
      refine W_region_lit (fun ds => ?_)
      refine WS_det hF (by rfl) (y_fieldAddr (by rfl) fa26_1) ?_
      refine WS_det hF (by rfl) (y_load1 (by rfl) Tryd.isAgg3 (Mem.own1 1 (by rfl) (by rfl))) ?_
      refine WS_det hF (by rfl) (y_eql (by rfl) (by rfl)) ?_
      refine WS_det hF (by rfl) (y_move (c := .bool _) (by rfl)) ?_
      refine WS_split 35 (by rfl) (fun g3_3 => ?_) (fun g3_3 => ?_)
      ·
        try simp only [Bool.not_eq_true', Bool.not_eq_false', decide_eq_true_eq, decide_eq_false_iff_not, ne_eq, Classical.not_not, Int.not_lt, Int.not_le] at g3_3
        refine WS_det hF (by rfl) (y_move (c := .int .i64 _) (by rfl)) ?_
        refine WS_det hF (by rfl) (y_move (c := .int .i64 _) (by rfl)) ?_
        refine WS_det hF (by rfl) (y_gtr (by rfl) (by rfl)) ?_
        refine WS_det hF (by rfl) (by first | exact y_pick_t (c := .bool _) (by rfl) (by rfl) | exact y_pick_f (c := .bool _) (by rfl) (by rfl)) ?_
        refine WS_det hF (by rfl) (y_assign (c := .bool _) (by rfl)) ?_
        refine WS_nil ?_
        refine Then_normal ?_
        refine W_cond (by rfl) (fun c3 => ?_) (fun c3 => ?_)
        ·
          try simp only [Bool.not_eq_true', Bool.not_eq_false', decide_eq_true_eq, decide_eq_false_iff_not, ne_eq, Classical.not_not, Int.not_lt, Int.not_le] at c3
          refine W_seq ?_
          refine W_region_lit (fun ds => ?_)
          refine WS_det hF (by rfl) (y_loadN (by rfl) Tryd.isAgg99 Tryd.sizeOf99 (Mem.own (us := [.int .i64 _, .int .i64 _, .int .i64 _, .int .i64 _]) 2 (by rfl) (by rfl)) (by rfl)) ?_
          refine WS_store hF (us := [.int .i64 _, .int .i64 _, .int .i64 _, .int .i64 _]) (i := 0) (by rfl) (by rfl) Tryd.sizeOf99 (by rfl) (by rfl) (by rfl) (by first | decide | exact Nat.le_of_ble_eq_true rfl | simp) ?_
          refine WS_det hF (by rfl) (y_assign (c := .bool _) (by rfl)) ?_
          refine WS_nil ?_
          refine Then_normal ?_
          refine W_ret ?_
          refine InB_ret ?_
          refine Then_ret ?_
          refine Fin_ret [_, .bool _] [] Tryd.results49 ⟨lvN (by rfl) Tryd.isAgg99 Tryd.sizeOf99 (Mem.own (us := [.int .i64 _, .int .i64 _, .int .i64 _, .int .i64 _]) 0 (by rfl) (by rfl)) (by rfl), by rfl, trivial⟩ HSub.nil ?_
          first
            | exact Cn.pourR_no (by omega)
            | exact Cn.pourR_go (by omega)
        ·
          try simp only [Bool.not_eq_true', Bool.not_eq_false', decide_eq_true_eq, decide_eq_false_iff_not, ne_eq, Classical.not_not, Int.not_lt, Int.not_le] at c3
          refine W_skip ?_
          refine InB_normal ?_
          refine Then_normal ?_
          refine W_seq ?_
          refine W_region_lit (fun ds => ?_)
          refine WS_det hF (by rfl) (y_move (c := .int .i64 _) (by rfl)) ?_
          refine WS_det hF (by rfl) (y_move (c := .int .i64 _) (by rfl)) ?_
          refine WS_det hF (by rfl) (y_min (by rfl) (by rfl)) ?_
          refine WS_det hF (by rfl) (y_assign (c := .int .i64 _) (by rfl)) ?_
          refine WS_nil ?_
          refine Then_normal ?_
          refine W_seq ?_
          refine W_region_lit (fun ds => ?_)
          refine WS_det hF (by rfl) (y_fieldAddr (by rfl) fa26_0) ?_
          refine WS_det hF (by rfl) (y_load1 (by rfl) Tryd.isAgg3 (Mem.own1 1 (by rfl) (by rfl))) ?_
          refine WS_det hF (by rfl) (y_indexA (k := f) (by rfl) (by rfl) (by first | rfl | omega) (by first | decide | omega) Tryd.runUnderlying99 Tryd.sizeOf3) ?_
          refine WS_det hF (by rfl) (y_load1 (by rfl) Tryd.isAgg3 (Mem.own (us := [.int .i64 (x.g f)]) 2 (by rfl) hd1)) ?_
          refine WS_det hF (by rfl) (y_move (c := .int .i64 _) (by rfl)) ?_
          refine WS_det hF (by rfl) (y_sub (by rfl) (by rfl) (by unfold I64; omega)) ?_
          refine WS_det hF (by rfl) (y_indexA (k := f) (by rfl) (by rfl) (by first | rfl | omega) (by first | decide | omega) Tryd.runUnderlying99 Tryd.sizeOf3) ?_
          refine WS_store hF (us := [.int .i64 _]) (i := 2) (by rfl) (by rfl) Tryd.sizeOf3 (by rfl) (by rfl) (by rfl) (by show 0 + f * 1 + 1 ≤ 4; omega) ?_
          refine WS_nil ?_
          refine Then_normal ?_
          refine W_seq ?_
          rw [Co.splice x _ (k := f) (by omega)]
          obtain ⟨e3, hd3⟩ := (x.w f (x.g f - c.amt x f t)).drop (k := t) (by omega)
          rw [Co.g_w _ _ (by omega) (by omega), if_neg (Ne.symm hft)] at hd3
          refine W_region_lit (fun ds => ?_)
          refine WS_det hF (by rfl) (y_fieldAddr (by rfl) fa26_1) ?_
          refine WS_det hF (by rfl) (y_load1 (by rfl) Tryd.isAgg3 (Mem.own1 1 (by rfl) (by rfl))) ?_
          refine WS_det hF (by rfl) (y_indexA (k := t) (by rfl) (by rfl) (by first | rfl | omega) (by first | decide | omega) Tryd.runUnderlying99 Tryd.sizeOf3) ?_
          refine WS_det hF (by rfl) (y_load1 (by rfl) Tryd.isAgg3 (Mem.own (us := [.int .i64 (x.g t)]) 2 (by rfl) hd3)) ?_
          refine WS_det hF (by rfl) (y_move (c := .int .i64 _) (by rfl)) ?_
          refine WS_det hF (by rfl) (y_add (by rfl) (by rfl) (by unfold I64; omega)) ?_
          refine WS_det hF (by rfl) (y_indexA (k := t) (by rfl) (by rfl) (by first | rfl | omega) (by first | decide | omega) Tryd.runUnderlying99 Tryd.sizeOf3) ?_
          refine WS_store hF (us := [.int .i64 _]) (i := 2) (by rfl) (by rfl) Tryd.sizeOf3 (by rfl) (by rfl) (by rfl) (by show 0 + t * 1 + 1 ≤ 4; omega) ?_
          refine WS_nil ?_
          refine Then_normal ?_
          refine W_seq ?_
          rw [Co.splice _ _ (k := t) (by omega)]
          refine W_region_lit (fun ds => ?_)
          refine WS_det hF (by rfl) (y_loadN (by rfl) Tryd.isAgg99 Tryd.sizeOf99 (Mem.own (us := [.int .i64 _, .int .i64 _, .int .i64 _, .int .i64 _]) 2 (by rfl) (by rfl)) (by rfl)) ?_
          refine WS_det hF (by rfl) (y_move (c := .int .i64 _) (by rfl)) ?_
          refine WS_det hF (by rfl) (y_gtr (by rfl) (by rfl)) ?_
          refine WS_store hF (us := [.int .i64 _, .int .i64 _, .int .i64 _, .int .i64 _]) (i := 0) (by rfl) (by rfl) Tryd.sizeOf99 (by rfl) (by rfl) (by rfl) (by first | decide | exact Nat.le_of_ble_eq_true rfl | simp) ?_
          refine WS_det hF (by rfl) (y_assign (c := .bool _) (by rfl)) ?_
          refine WS_nil ?_
          refine Then_normal ?_
          refine W_ret ?_
          refine Fin_ret [_, .bool _] [] Tryd.results49 ⟨lvN (by rfl) Tryd.isAgg99 Tryd.sizeOf99 (Mem.own (us := [.int .i64 _, .int .i64 _, .int .i64 _, .int .i64 _]) 0 (by rfl) (by rfl)) (by rfl), by rfl, trivial⟩ HSub.nil ?_
          first
            | exact Cn.pourR_no (by omega)
            | exact Cn.pourR_go (by omega)
      ·
        try simp only [Bool.not_eq_true', Bool.not_eq_false', decide_eq_true_eq, decide_eq_false_iff_not, ne_eq, Classical.not_not, Int.not_lt, Int.not_le] at g3_3
        refine WS_no hF (by rfl) ?_
        refine WS_no hF (by rfl) ?_
        refine WS_no hF (by rfl) ?_
        refine WS_det hF (by rfl) (by first | exact y_pick_t (c := .bool _) (by rfl) (by rfl) | exact y_pick_f (c := .bool _) (by rfl) (by rfl)) ?_
        refine WS_det hF (by rfl) (y_assign (c := .bool _) (by rfl)) ?_
        refine WS_nil ?_
        refine Then_normal ?_
        refine W_cond (by rfl) (fun c3 => ?_) (fun c3 => ?_)
        · cases c3
        ·
          try simp only [Bool.not_eq_true', Bool.not_eq_false', decide_eq_true_eq, decide_eq_false_iff_not, ne_eq, Classical.not_not, Int.not_lt, Int.not_le] at c3
          refine W_skip ?_
          refine InB_normal ?_
          refine Then_normal ?_
          refine W_seq ?_
          refine W_region_lit (fun ds => ?_)
          refine WS_det hF (by rfl) (y_move (c := .int .i64 _) (by rfl)) ?_
          refine WS_det hF (by rfl) (y_move (c := .int .i64 _) (by rfl)) ?_
          refine WS_det hF (by rfl) (y_min (by rfl) (by rfl)) ?_
          refine WS_det hF (by rfl) (y_assign (c := .int .i64 _) (by rfl)) ?_
          refine WS_nil ?_
          refine Then_normal ?_
          refine W_seq ?_
          refine W_region_lit (fun ds => ?_)
          refine WS_det hF (by rfl) (y_fieldAddr (by rfl) fa26_0) ?_
          refine WS_det hF (by rfl) (y_load1 (by rfl) Tryd.isAgg3 (Mem.own1 1 (by rfl) (by rfl))) ?_
          refine WS_det hF (by rfl) (y_indexA (k := f) (by rfl) (by rfl) (by first | rfl | omega) (by first | decide | omega) Tryd.runUnderlying99 Tryd.sizeOf3) ?_
          refine WS_det hF (by rfl) (y_load1 (by rfl) Tryd.isAgg3 (Mem.own (us := [.int .i64 (x.g f)]) 2 (by rfl) hd1)) ?_
          refine WS_det hF (by rfl) (y_move (c := .int .i64 _) (by rfl)) ?_
          refine WS_det hF (by rfl) (y_sub (by rfl) (by rfl) (by unfold I64; omega)) ?_
          refine WS_det hF (by rfl) (y_indexA (k := f) (by rfl) (by rfl) (by first | rfl | omega) (by first | decide | omega) Tryd.runUnderlying99 Tryd.sizeOf3) ?_
          refine WS_store hF (us := [.int .i64 _]) (i := 2) (by rfl) (by rfl) Tryd.sizeOf3 (by rfl) (by rfl) (by rfl) (by show 0 + f * 1 + 1 ≤ 4; omega) ?_
          refine WS_nil ?_
          refine Then_normal ?_
          refine W_seq ?_
          rw [Co.splice x _ (k := f) (by omega)]
          obtain ⟨e3, hd3⟩ := (x.w f (x.g f - c.amt x f t)).drop (k := t) (by omega)
          rw [Co.g_w _ _ (by omega) (by omega), if_neg (Ne.symm hft)] at hd3
          refine W_region_lit (fun ds => ?_)
          refine WS_det hF (by rfl) (y_fieldAddr (by rfl) fa26_1) ?_
          refine WS_det hF (by rfl) (y_load1 (by rfl) Tryd.isAgg3 (Mem.own1 1 (by rfl) (by rfl))) ?_
          refine WS_det hF (by rfl) (y_indexA (k := t) (by rfl) (by rfl) (by first | rfl | omega) (by first | decide | omega) Tryd.runUnderlying99 Tryd.sizeOf3) ?_
          refine WS_det hF (by rfl) (y_load1 (by rfl) Tryd.isAgg3 (Mem.own (us := [.int .i64 (x.g t)]) 2 (by rfl) hd3)) ?_
          refine WS_det hF (by rfl) (y_move (c := .int .i64 _) (by rfl)) ?_
          refine WS_det hF (by rfl) (y_add (by rfl) (by rfl) (by unfold I64; omega)) ?_
          refine WS_det hF (by rfl) (y_indexA (k := t) (by rfl) (by rfl) (by first | rfl | omega) (by first | decide | omega) Tryd.runUnderlying99 Tryd.sizeOf3) ?_
          refine WS_store hF (us := [.int .i64 _]) (i := 2) (by rfl) (by rfl) Tryd.sizeOf3 (by rfl) (by rfl) (by rfl) (by show 0 + t * 1 + 1 ≤ 4; omega) ?_
          refine WS_nil ?_
          refine Then_normal ?_
          refine W_seq ?_
          rw [Co.splice _ _ (k := t) (by omega)]
          refine W_region_lit (fun ds => ?_)
          refine WS_det hF (by rfl) (y_loadN (by rfl) Tryd.isAgg99 Tryd.sizeOf99 (Mem.own (us := [.int .i64 _, .int .i64 _, .int .i64 _, .int .i64 _]) 2 (by rfl) (by rfl)) (by rfl)) ?_
          refine WS_det hF (by rfl) (y_move (c := .int .i64 _) (by rfl)) ?_
          refine WS_det hF (by rfl) (y_gtr (by rfl) (by rfl)) ?_
          refine WS_store hF (us := [.int .i64 _, .int .i64 _, .int .i64 _, .int .i64 _]) (i := 0) (by rfl) (by rfl) Tryd.sizeOf99 (by rfl) (by rfl) (by rfl) (by first | decide | exact Nat.le_of_ble_eq_true rfl | simp) ?_
          refine WS_det hF (by rfl) (y_assign (c := .bool _) (by rfl)) ?_
          refine WS_nil ?_
          refine Then_normal ?_
          refine W_ret ?_
          refine Fin_ret [_, .bool _] [] Tryd.results49 ⟨lvN (by rfl) Tryd.isAgg99 Tryd.sizeOf99 (Mem.own (us := [.int .i64 _, .int .i64 _, .int .i64 _, .int .i64 _]) 0 (by rfl) (by rfl)) (by rfl), by rfl, trivial⟩ HSub.nil ?_
          first
            | exact Cn.pourR_no (by omega)
            | exact Cn.pourR_go (by omega)
end Go.Proofs.YtjekjehgmljbgaaDoor.T

/- The program's Pour and Play, walked. -/
namespace Go.Proofs.YtjekjehgmljbgaaDoor.T
open Go.RowKit Go.Proofs Go.Eng
set_option maxRecDepth 100000
set_option maxHeartbeats 1000000
set_option linter.unusedVariables false
set_option linter.unusedSimpArgs false

theorem bd96_0 {x0_0a : Option Addr} {x0_0l x0_0c : Nat} {x0_1a : Option Addr} {x0_1l x0_1c : Nat} {x0_2 : Int} : ∀ w, (Instr.build 96 #[(0, .agg #[.slice x0_0a x0_0l x0_0c, .slice x0_1a x0_1l x0_1c, .int .i64 x0_2])]).run Tryd.prog w = .ok (.agg #[.slice x0_0a x0_0l x0_0c, .slice x0_1a x0_1l x0_1c, .int .i64 x0_2]) w := fun w => by kernel_rfl
theorem bd99_0 {x0 : Int} : ∀ w, (Instr.build 99 #[(0, .int .i64 x0)]).run Tryd.prog w = .ok (.agg #[.int .i64 x0, .int .i64 0, .int .i64 0, .int .i64 0]) w := fun w => by kernel_rfl

theorem co_splice (c : Cn) (h : c.inn.length ≤ 3) : splice [.int .i64 c.st, .int .i64 0, .int .i64 0, .int .i64 0] (0 + 1 * 1) (iv c.inn) = c.co.cells := by
  obtain ⟨s, i, t⟩ := c
  match i, h with
  | [], _ => rfl
  | [_], _ => rfl
  | [_, _], _ => rfl
  | [_, _, _], _ => rfl
  | _ :: _ :: _ :: _ :: _, h => simp only [List.length_cons] at h; omega
theorem iv_one (xs : List Int) : (iv xs).all Value.oneCell' = true := by
  unfold iv
  rw [List.all_eq_true]
  intro v hv
  obtain ⟨x, _, rfl⟩ := List.mem_map.1 hv
  rfl
theorem bstart_any (c : Cn) (a1 : Option Addr) (p1 : Nat) (a2 : Option Addr) (p2 : Nat) (w : World) (hok : c.Ok) (hn : c.n ≤ 1000000) (hm : c.inn.length ≤ 1000000) (h1 : Ints w a1 c.n p1 c.sz) (h2 : Ints w a2 c.inn.length p2 c.inn) : Ct Tryd.prog 50 #[.agg #[.slice a1 c.n p1, .slice a2 c.inn.length p2, .int .i64 c.st]] w fun v _ => v = .agg c.co.cells.toArray := by
  have hn3 := hok.n3
  have hlen := hok.len
  have hF := wide_wide
  refine Ct_start (args := [_]) Tryd.func50 (by rfl) Tryd.ntmps50 (by rfl) ?_
  refine W_seq ?_
  refine W_region_lit (fun ds => ?_)
  refine WS_new hF (by rfl) (y_box (by rfl)) (fun b1 => ?_)
  refine WS_new hF (by rfl) (y_alloc Tryd.zeroValue99 (by rfl)) (fun b2 => ?_)
  refine WS_nil ?_
  refine Then_normal ?_
  refine W_seq ?_
  refine W_region_lit (fun ds => ?_)
  refine WS_det hF (by rfl) (y_fieldAddr (by rfl) fa96_0) ?_
  refine WS_det hF (by rfl) (y_fieldAddr (by rfl) fa24_2) ?_
  refine WS_det hF (by rfl) (y_load1 (by rfl) Tryd.isAgg3 (Mem.own1 1 (by rfl) (by rfl))) ?_
  refine WS_det hF (by rfl) (y_buildL bd99_0 (by rfl)) ?_
  refine WS_new hF (by rfl) (y_alloc Tryd.zeroValue99 (by rfl)) (fun bx => ?_)
  refine WS_store hF (us := [.int .i64 _, .int .i64 _, .int .i64 _, .int .i64 _]) (i := 0) (by rfl) (by rfl) Tryd.sizeOf99 (by rfl) (by rfl) (by rfl) (by first | decide | exact Nat.le_of_ble_eq_true rfl | simp) ?_
  refine WS_nil ?_
  refine Then_normal ?_
  refine W_seq ?_
  apply W_drawMT 4 hF Trydmixed [] [] [] (by rfl) (by decide +kernel) (by decide) HSub.refl
  intro ds
  refine P_det (by rfl) (Over_nil (y_sliceA_lo (l := 1) (m := 4) (by rfl) (by rfl) (by rfl) (by decide) Tryd.runUnderlying99 Tryd.sizeOf3)) ?_
  refine P_det (by rfl) (Over_nil (y_fieldAddr (by rfl) fa96_0)) ?_
  refine P_det (by rfl) (Over_nil (y_fieldAddr (by rfl) fa24_1)) ?_
  refine P_det (by rfl) (Over_nil (y_load1 (by rfl) Tryd.isAgg22 (Mem.own1 2 (by rfl) (by rfl)))) ?_
  refine PW_end (by rfl) ?_
  refine OverAll_nil ?_
  rintro -
  refine WS_copyS hF (i := 0) (by rfl) (by rfl) (by rfl) Tryd.runUnderlying22 Tryd.sizeOf3 h2.src (iv_len c.inn) (by omega) (iv_one _) (by rfl) (by rw [iv_len]; show 0 + 1 * 1 + _ ≤ 4; omega) ?_
  refine WS_nil ?_
  refine Then_normal ?_
  refine W_seq ?_
  rw [show splice (splice [.int .i64 0, .int .i64 0, .int .i64 0, .int .i64 0] 0 [.int .i64 c.st, .int .i64 0, .int .i64 0, .int .i64 0]) (0 + 1 * 1) (iv c.inn) = c.co.cells from co_splice c (by omega)]
  refine W_region_lit (fun ds => ?_)
  refine WS_det hF (by rfl) (y_loadN (by rfl) Tryd.isAgg99 Tryd.sizeOf99 (Mem.own (us := [.int .i64 _, .int .i64 _, .int .i64 _, .int .i64 _]) 0 (by rfl) (by rfl)) (by rfl)) ?_
  refine WS_store hF (us := [.int .i64 _, .int .i64 _, .int .i64 _, .int .i64 _]) (i := 1) (by rfl) (by rfl) Tryd.sizeOf99 (by rfl) (by rfl) (by rfl) (by first | decide | exact Nat.le_of_ble_eq_true rfl | simp) ?_
  refine WS_nil ?_
  refine Then_normal ?_
  refine W_ret ?_
  refine Fin_ret [_] [] Tryd.results50 ⟨lvN (by rfl) Tryd.isAgg99 Tryd.sizeOf99 (Mem.own (us := [.int .i64 _, .int .i64 _, .int .i64 _, .int .i64 _]) 1 (by rfl) (by rfl)) (by rfl), trivial⟩ HSub.nil ?_
  rfl
theorem ints_of (c : Cn) (x : Co) (hn : c.n ≤ 3) {C : Ctx} {H : List Blk} {b T : Nat} (i : Nat) (hi : H[i]? = some (b, CB x.cells T)) (w : World) (hw : St C H w) : Ints w (some ⟨b, 1, none⟩) c.n 3 (c.of x).inn := by
  have hl := c.of_len x hn
  refine ⟨hl, hn, fun k hk => ⟨b, 1, rfl, ?_⟩⟩
  have := c.of_i x k hk hn
  unfold Cn.i at this
  rw [this]
  obtain ⟨rest, hd⟩ := x.drop (k := k + 1) (by omega)
  rw [show 1 + k * 1 = 0 + (k + 1) * 1 by omega]
  rw [show 0 + (k + 1) * 1 = k + 1 by omega] at hd ⊢
  have hb := hw.get hi
  exact at_block (rest := rest) hb hd
theorem Cn.err_iff {c : Cn} : c.err = 0 ↔ c.okB = true := by
  unfold Cn.err
  split
  · rename_i h; simp [h]
  · rename_i h; simp [h]
theorem Cn.err_no {c : Cn} (h : ¬ c.err = 0) : c.okB = false ∧ c.err = 80 := by
  rw [Cn.err_iff] at h
  have h' : c.okB = false := by simpa using h
  exact ⟨h', by unfold Cn.err; rw [h']; rfl⟩
theorem Cn.can_to {c : Cn} {x : Co} {f t : Nat} (h : c.canB x f t = true) : (if c.noB x f t then x else c.to x f t) = c.to x f t := by
  unfold Cn.canB at h
  rw [Bool.and_eq_true, Bool.not_eq_true'] at h
  rw [h.1]; rfl
end Go.Proofs.YtjekjehgmljbgaaDoor.T

/- The law CanTells, walked. -/
namespace Go.Proofs.YtjekjehgmljbgaaDoor.T
open Go.RowKit Go.Proofs Go.Eng
set_option maxRecDepth 100000
set_option maxHeartbeats 1000000
set_option linter.unusedVariables false
set_option linter.unusedSimpArgs false

theorem bs27_0  : ∀ w, (Instr.buildSlice 27 0 #[]).run Tryd.prog w = .ok (.slice (some ⟨w.heap.size, 0, none⟩) 0 0) (w.alloc (CB [] 26)) := fun w => by kernel_rfl
theorem infPo : (Tryd.prog.info? 26).map (fun i => (i.zero, i.size, i.bytes)) = some (some (.agg #[.int .i64 0, .int .i64 0]), 2, 16) := by kernel_rfl
end Go.Proofs.YtjekjehgmljbgaaDoor.T

/- Rows of zeros. No project text. -/
namespace Go.Eng
open Go.RowKit
section
variable {C : Ctx} {e : Env} {H : List Blk} {d : Option Tmp} {ty : TypeId} {pos : String} {af : Array Edge} {g : Option (Nat × Bool)}
theorem YR.sub {o : Oper} {R R' : Value → List Blk → Prop} (h : YR C o e H R) (hr : ∀ v Hn, R v Hn → ∃ Hm, Hm.Sublist Hn ∧ R' v Hm) : YR C o e H R' := fun w hw => by
  have := h w hw
  have out : ∀ {v w w'}, Out R v w w' → Out R' v w w' := fun ⟨Hn, h1, h2, h3⟩ => by
    obtain ⟨Hm, h4, h5⟩ := hr _ _ h3
    exact ⟨Hm, h1, h2.sub h4, h5⟩
  generalize (execOp (ev e) o).run C.P w = r at *
  cases r with
  | ok x w' =>
    cases x <;> simp only [OutRes] at this ⊢
    case value v => exact out this
    case skip => exact out this
    case enter f args =>
      refine ⟨this.1, Calls.mono this.2 ?_⟩
      rintro en w'' ⟨v, he, h1⟩
      exact ⟨v, he, out h1⟩
  | halt => exact this
theorem y_makeRow {x y : Operand} {T E : TypeId} {z : Value} {zs us : List Value} {kl kc : IntKind} {n sz by_ : Nat} {l c : Int} (hx : ev e x = .int kl l) (hy : ev e y = .int kc c) (hl : l = (n : Int)) (hc : c = (n : Int))
    (hT : C.P.underlying T = some (.slice E)) (hinf : (C.P.info? E).map (fun i => (i.zero, i.size, i.bytes)) = some (some z, sz, by_)) (hzs : z.cells = zs.toArray) (hsz : zs.length = sz) (hb : n * by_ ≤ 140737488355328) (hn : n ≤ 140737488355328)
    (hu : ((List.range n).flatMap fun _ => zs) = us) : YR C ⟨d, .makeSlice T x y, ty, pos, af, g⟩ e H (NewRow E sz n us) := by
  refine (y_makeSlice hx hy hl hc hT hinf hzs hsz hb hn).sub ?_
  rintro v Hn ⟨b, rfl, rfl⟩
  have hlen : us.length = n * sz := by
    subst hu hsz
    exact rowOf_len (enc := fun (_ : Nat) => zs) (fun _ => rfl) (fun k => k) n
  by_cases h0 : n = 0
  · subst h0
    exact ⟨[], List.nil_sublist _, _, _, rfl, Nat.le_refl _, .inr ⟨rfl, rfl, rfl⟩⟩
  · exact ⟨_, List.Sublist.refl _, _, _, rfl, Nat.le_refl _, .inl ⟨by omega, b, [], rfl, by rw [List.append_nil, hu], by rw [List.append_nil]; exact hlen⟩⟩
end
section
variable {C : Ctx} {F : Fence} {n : Nat} {ds : List Deferred} {c : Code} {Q : Exit → Env → List Blk → Prop} {e : Env} {A B M : List Blk}
end
end Go.Eng

/- Cans at a tank, walked. -/
namespace Go.Proofs.YtjekjehgmljbgaaDoor.T
open Go.RowKit Go.Proofs Go.Eng
set_option maxRecDepth 100000
set_option maxHeartbeats 1000000
set_option linter.unusedVariables false
set_option linter.unusedSimpArgs false



def Lg.rdS (l : Lg) : Sn := if l.aerr = 0 then l.last.fl (l.tk.up l.tk.foot) else Sn.z
def begC0 (l : Lg) (D : List Int) : Cn := ⟨D, List.replicate D.length 0, l.rdS.lo⟩
def begC (l : Lg) (D : List Int) : Cn := if l.aerr = 0 then if (begC0 l D).okB then begC0 l D else Cn.zero else Cn.zero
def begE (l : Lg) (D : List Int) : Int := if l.aerr = 0 then (begC0 l D).err else l.aerr
def BegV (l : Lg) (D : List Int) (v : Value) (Hn : List Blk) : Prop := ∃ v0, v = .tuple #[v0, .int .i64 (begE l D)] ∧ TwinC (begC l D) v0 Hn
def czero : Value := .agg #[.slice none 0 0, .slice none 0 0, .int .i64 0]
theorem BegV.no {l : Lg} {D : List Int} (h : ¬ l.aerr = 0) : BegV l D (.tuple #[czero, .int .i64 l.aerr]) [] := by
  refine ⟨czero, ?_, ?_⟩
  · unfold begE; rw [if_neg h]
  · unfold begC; rw [if_neg h]; exact twinC_zero
theorem BegV.bad {l : Lg} {D : List Int} (h : l.aerr = 0) (hb : (begC0 l D).okB = false) : BegV l D (.tuple #[czero, .int .i64 80]) [] := by
  refine ⟨czero, ?_, ?_⟩
  · unfold begE Cn.err; rw [if_pos h, hb]; rfl
  · unfold begC; rw [if_pos h, hb]; exact twinC_zero
theorem BegV.ok {l : Lg} {D : List Int} {v0 : Value} {Hn : List Blk} (h : l.aerr = 0) (hb : (begC0 l D).okB = true) (hT : TwinC (begC0 l D) v0 Hn) : BegV l D (.tuple #[v0, .int .i64 0]) Hn := by
  refine ⟨v0, ?_, ?_⟩
  · unfold begE Cn.err; rw [if_pos h, hb]; rfl
  · unfold begC; rw [if_pos h, hb]; exact hT
theorem NewRow.sl {T : TypeId} {sz m : Nat} {us : List Value} {v : Value} {Hn : List Blk} (h : NewRow T sz m us v Hn) : ∃ a cap, v = .slice a m cap ∧ NewRow T sz m us (.slice a m cap) Hn := by
  obtain ⟨a, cap, rfl, h2⟩ := h
  exact ⟨a, cap, rfl, a, cap, rfl, h2⟩
end Go.Proofs.YtjekjehgmljbgaaDoor.T

/- The log of a tank with what was poured: pure, and the reference's walk. -/
namespace Go.Proofs.YtjekjehgmljbgaaDoor.T
open Go.RowKit Go.Proofs Go.Eng
set_option maxRecDepth 100000
set_option maxHeartbeats 2000000
set_option linter.unusedVariables false
set_option linter.unusedSimpArgs false

def dayK (l : Lg) : Nat → Int
  | 0 => 0
  | k + 1 => (l.e k).day
def dK (c : Cn) (p : List Po) (k : Nat) : Int := (c.runK p (k + 1)).a - (c.runK p k).a
def wrX (d n : Int) : En := if n < 0 then ⟨d, 2, ⟨-n, -n⟩⟩ else ⟨d, 1, ⟨n, n⟩⟩
def wrK (l : Lg) (c : Cn) (p : List Po) : Nat → Lg
  | 0 => l
  | k + 1 => if dK c p k = 0 then wrK l c p k else (wrK l c p k).put (wrX (dayK l l.es.length) (dK c p k))
def wrE (l : Lg) (c : Cn) (p : List Po) (k : Nat) : Int := if dK c p k = 0 then 0 else (wrK l c p k).addE (wrX (dayK l l.es.length) (dK c p k))
def wrBad (l : Lg) (c : Cn) (p : List Po) : Nat → Nat → Option Nat
  | _, 0 => none
  | k, m + 1 => if wrE l c p k = 0 then wrBad l c p (k + 1) m else some k
def wtE (l : Lg) (c : Cn) (p : List Po) : Int := if l.err = 0 then if c.plE p = 0 then match wrBad l c p 0 p.length with | none => 0 | some k => wrE l c p k else c.plE p else l.err
def wtL (l : Lg) (c : Cn) (p : List Po) : Lg := if l.err = 0 then if c.plE p = 0 then match wrBad l c p 0 p.length with | none => wrK l c p p.length | some _ => Lg.zero else Lg.zero else Lg.zero
theorem wrBad_none {l : Lg} {c : Cn} {p : List Po} : ∀ {m k : Nat}, (∀ j, k ≤ j → j < k + m → wrE l c p j = 0) → wrBad l c p k m = none
  | 0, _, _ => rfl
  | m + 1, k, h => by
    unfold wrBad
    rw [if_pos (h k (Nat.le_refl _) (by omega))]
    exact wrBad_none fun j h1 h2 => h j (by omega) (by omega)
theorem wrBad_some {l : Lg} {c : Cn} {p : List Po} {i : Nat} (hb : wrE l c p i ≠ 0) : ∀ {m k : Nat}, k ≤ i → i < k + m → (∀ j, k ≤ j → j < i → wrE l c p j = 0) → wrBad l c p k m = some i
  | 0, _, _, h2, _ => by omega
  | m + 1, k, h1, h2, h => by
    unfold wrBad
    by_cases hk : k = i
    · subst hk; rw [if_neg hb]
    · rw [if_pos (h k (Nat.le_refl _) (by omega))]
      exact wrBad_some hb (by omega) (by omega) fun j h3 h4 => h j (by omega) h4
def WrtV (l : Lg) (c : Cn) (p : List Po) (v : Value) (Hn : List Blk) : Prop := ∃ v0, v = .tuple #[v0, .int .i64 (wtE l c p)] ∧ TwinL (wtL l c p) v0 Hn
theorem WrtV.bad {l : Lg} {c : Cn} {p : List Po} (h : ¬ l.err = 0) : WrtV l c p (.tuple #[zeroLg, .int .i64 l.err]) [] := by
  refine ⟨zeroLg, ?_, ?_⟩
  · unfold wtE; rw [if_neg h]
  · unfold wtL; rw [if_neg h]; exact twin_zero
theorem WrtV.stop {l : Lg} {c : Cn} {p : List Po} {k : Nat} {e : Int} (h : l.err = 0) (hp : c.plE p = 0) (hk : k < p.length) (hj : ∀ j, j < k → wrE l c p j = 0) (he : wrE l c p k = e) (h0 : ¬ e = 0) : WrtV l c p (.tuple #[zeroLg, .int .i64 e]) [] := by
  have hb : wrBad l c p 0 p.length = some k := wrBad_some (by rw [he]; exact h0) (Nat.zero_le _) (by omega) fun j _ h => hj j h
  refine ⟨zeroLg, ?_, ?_⟩
  · unfold wtE; rw [if_pos h, if_pos hp, hb]; simp only [he]
  · unfold wtL; rw [if_pos h, if_pos hp, hb]; exact twin_zero
theorem WrtV.go {l : Lg} {c : Cn} {p : List Po} {v0 : Value} {Hn : List Blk} (h : l.err = 0) (hp : c.plE p = 0) (hj : ∀ j, j < p.length → wrE l c p j = 0) (hT : TwinL (wrK l c p p.length) v0 Hn) : WrtV l c p (.tuple #[v0, .int .i64 0]) Hn := by
  have hb : wrBad l c p 0 p.length = none := wrBad_none fun j _ h => hj j (by omega)
  refine ⟨v0, ?_, ?_⟩
  · unfold wtE; rw [if_pos h, if_pos hp, hb]
  · unfold wtL; rw [if_pos h, if_pos hp, hb]; exact hT
/-- Ints that can be read, old ones or those in some blocks. -/
def RdI (w0 : World) (Hs : List Blk) (a : Option Addr) (n cap : Nat) (xs : List Int) : Prop := ∀ (C : Ctx) (H : List Blk) (w : World), C.w0 = w0 → Hs.Sublist H → St C H w → Ints w a n cap xs
theorem RdI.old {w0 : World} {Hs : List Blk} {a : Option Addr} {n cap : Nat} {xs : List Int} (h : Ints w0 a n cap xs) : RdI w0 Hs a n cap xs := fun C H w hC _ hw => by subst hC; exact h.st w hw
theorem RdI.new {w0 : World} {Hs : List Blk} {a : Option Addr} {n cap : Nat} {xs : List Int} {T : TypeId} {Hn : List Blk} (h : NewRow T 1 n (iv xs) (.slice a n cap) Hn) (hl : xs.length = n) (hs : Hn.Sublist Hs) : RdI w0 Hs a n cap xs := fun C H w _ h2 hw => NewRow.ints h hl (hs.trans h2) w hw
def lgV (l : Lg) (a : Option Addr) (cap : Nat) (ae : Option Addr) (cape : Nat) : List Value := [.slice a l.tk.n cap, .int .i64 l.tk.leak, .int .i64 l.tk.foot, .int .i64 l.start.lo, .int .i64 l.start.hi, .slice ae l.es.length cape]
def cnV (c : Cn) (a1 : Option Addr) (p1 : Nat) (a2 : Option Addr) (p2 : Nat) : List Value := [.slice a1 c.n p1, .slice a2 c.inn.length p2, .int .i64 c.st]
end Go.Proofs.YtjekjehgmljbgaaDoor.T

/- The program's log of a tank with what was poured, walked. -/
namespace Go.Proofs.YtjekjehgmljbgaaDoor.T
open Go.RowKit Go.Proofs Go.Eng
set_option maxRecDepth 100000
set_option maxHeartbeats 1000000
set_option linter.unusedVariables false
set_option linter.unusedSimpArgs false

end Go.Proofs.YtjekjehgmljbgaaDoor.T

/- The law CanLogs, walked. -/
namespace Go.Proofs.YtjekjehgmljbgaaDoor.T
open Go.RowKit Go.Proofs Go.Eng
set_option maxRecDepth 100000
set_option maxHeartbeats 1000000
set_option linter.unusedVariables false
set_option linter.unusedSimpArgs false



section
variable {C : Ctx} {F : Fence} {n : Nat} {ds : List Deferred} {all : Array Oper} {Q : Exit → Env → List Blk → Prop} {rest : List Oper} {e : Env} {H M' : List Blk}
theorem WS_pull (x : Blk) (hp : H.Perm (x :: M')) (h : WS C F n ds all Q rest e (x :: M')) : WS C F n ds all Q rest e H := fun w hw a ha => h w ⟨hw.1, hw.2.perm hp.symm, hw.3⟩ a ha
end
end Go.Proofs.YtjekjehgmljbgaaDoor.T

/- How ways are ordered: the program's walks. -/
namespace Go.Proofs.YtjekjehgmljbgaaDoor.T
open Go.RowKit Go.Proofs Go.Eng
set_option maxRecDepth 100000
set_option maxHeartbeats 1000000
set_option linter.unusedVariables false
set_option linter.unusedSimpArgs false



def orL : List Int → Int
  | [] => 0
  | x :: l => if x = 0 then orL l else x
theorem orL_step {xs : List Int} {k : Nat} (h : k < xs.length) : orL (xs.drop k) = if xs.getD k 0 = 0 then orL (xs.drop (k + 1)) else xs.getD k 0 := by
  rw [List.drop_eq_getElem_cons h]; simp [orL, h, List.getD_eq_getElem?_getD]
def cmpP (p q : Po) : Int := orL [cmpI p.f q.f, cmpI p.t q.t]
def cmpL : List Po → List Po → Int
  | p :: l, q :: m => if cmpP p q = 0 then cmpL l m else cmpP p q
  | [], [] => 0
  | [], _ :: _ => -1
  | _ :: _, [] => 1
theorem cmpL_step {l m : List Po} {k : Nat} (h : k < l.length) (h' : k < m.length) : cmpL (l.drop k) (m.drop k) = if cmpP (l.getD k Po.z) (m.getD k Po.z) = 0 then cmpL (l.drop (k + 1)) (m.drop (k + 1)) else cmpP (l.getD k Po.z) (m.getD k Po.z) := by
  rw [List.drop_eq_getElem_cons h, List.drop_eq_getElem_cons h']; simp [cmpL, h, h', List.getD_eq_getElem?_getD]
theorem cmpL_more {l m : List Po} {k : Nat} (h : k < l.length) (h' : m.length ≤ k) : cmpL (l.drop k) (m.drop k) = 1 := by
  rw [List.drop_eq_getElem_cons h, List.drop_eq_nil_of_le h']; rfl
theorem cmpL_end {l m : List Po} (h : m.length ≥ l.length) : cmpL (l.drop l.length) (m.drop l.length) = if l.length < m.length then -1 else 0 := by
  rw [List.drop_eq_nil_of_le (Nat.le_refl _)]
  split
  · rename_i h2; rw [List.drop_eq_getElem_cons h2]; rfl
  · rename_i h2; rw [List.drop_eq_nil_of_le (by omega)]; rfl
def ordW (a b : Wy) : Int := orL [cmpI a.l.length b.l.length, cmpI a.back b.back, cmpL a.l b.l]
theorem cmpI_lt {a b : Int} : (cmpI a b < 0 ↔ a < b) ∧ (cmpI a b = 0 ↔ a = b) := by
  unfold cmpI
  constructor
  · split
    · simp [*]
    · split <;> omega
  · split
    · omega
    · split <;> omega
theorem cmpP_lt {p q : Po} : (cmpP p q < 0 ↔ p.lt q = true) ∧ (cmpP p q = 0 ↔ p = q) := by
  have h1 := @cmpI_lt p.f q.f
  have h2 := @cmpI_lt p.t q.t
  unfold cmpP orL orL orL
  rw [Po.lt_iff]
  obtain ⟨a, b⟩ := p
  obtain ⟨a', b'⟩ := q
  simp only at h1 h2 ⊢
  simp only [Po.mk.injEq]
  constructor
  · split
    · split <;> omega
    · omega
  · split
    · split <;> omega
    · omega
theorem cmpL_lt : ∀ {l m : List Po}, l.length = m.length → ((cmpL l m < 0 ↔ plt l m = true) ∧ (cmpL l m = 0 ↔ l = m))
  | [], [], _ => ⟨⟨fun h => absurd h (by decide), fun h => by cases h⟩, ⟨fun _ => rfl, fun _ => rfl⟩⟩
  | [], _ :: _, h => by cases h
  | _ :: _, [], h => by cases h
  | p :: l, q :: m, h => by
    have ih := cmpL_lt (l := l) (m := m) (by simpa using h)
    have hp := @cmpP_lt p q
    unfold cmpL plt
    simp only [Bool.or_eq_true, Bool.and_eq_true, decide_eq_true_eq]
    by_cases h0 : cmpP p q = 0
    · have he := hp.2.1 h0
      subst he
      rw [if_pos h0]
      have : ¬ p.lt p = true := fun h => by have := hp.1.2 h; omega
      simp [this, ih.1, ih.2]
    · have hne : ¬ p = q := fun h => h0 (hp.2.2 h)
      rw [if_neg h0]
      simp [hne, hp.1, h0]
theorem ordW_lt {a b : Wy} : ordW a b < 0 ↔ a.lt b = true := by
  have h1 := @cmpI_lt a.l.length b.l.length
  have h2 := @cmpI_lt a.back b.back
  unfold ordW orL orL orL orL
  rw [Wy.lt_iff]
  by_cases hl : a.l.length = b.l.length
  · have h3 := cmpL_lt hl
    rw [if_pos (h1.2.2 (by omega))]
    by_cases hb : a.back = b.back
    · rw [if_pos (h2.2.2 hb)]
      have e1 : ¬ a.l.length < b.l.length := by omega
      have e2 : ¬ a.back < b.back := by omega
      have e3 : (if cmpL a.l b.l = 0 then (0 : Int) else cmpL a.l b.l) = cmpL a.l b.l := by split <;> omega
      rw [e3, h3.1]
      simp [e1, e2, hl, hb]
    · rw [if_neg (fun h => hb (h2.2.1 h))]
      have e1 : ¬ a.l.length < b.l.length := by omega
      rw [h2.1]
      simp [e1, hl, hb]
  · rw [if_neg (fun h => hl (by have := h1.2.1 h; omega)), h1.1]
    constructor
    · intro h; left; omega
    · rintro (h | ⟨h, _⟩)
      · omega
      · exact absurd h hl
theorem orL_any (a : Option Addr) (n cap : Nat) (xs : List Int) (w : World) (hn : n ≤ 1000000) (hx : Ints w a n cap xs) : Ct Tryd.prog 63 #[.slice a n cap] w fun v _ => v = .int .i64 (orL xs) := by
  have hl := hx.len
  have hF := wide_wide
  refine Ct_start (args := [_]) Tryd.func63 (by rfl) Tryd.ntmps63 (by rfl) ?_
  refine W_seq ?_
  refine W_region_lit (fun ds => ?_)
  refine WS_det hF (by rfl) (y_assign (c := .int .i64 _) (by rfl)) ?_
  refine WS_nil ?_
  refine Then_normal ?_
  refine W_seq ?_
  refine W_region_lit (fun ds => ?_)
  refine WS_det hF (by rfl) (y_assign (c := .int .i64 _) (by rfl)) ?_
  refine WS_nil ?_
  refine Then_normal ?_
  refine W_seq ?_
  refine W_seq ?_
  refine W_region_lit (fun ds => ?_)
  refine WS_det hF (by rfl) (y_move (c := .slice _ _ _) (by rfl)) ?_
  refine WS_det hF (by rfl) (y_len (by rfl) Tryd.runUnderlying22) ?_
  refine WS_det hF (by rfl) (y_move (c := .int .i64 _) (by rfl)) ?_
  refine WS_nil ?_
  refine Then_normal ?_
  refine W_block ?_
  refine W_loop (γ := Nat) (fun k => k ≤ n ∧ orL (xs.drop k) = orL xs) (fun k => [(8, .int .i64 (k : Int)), (7, .int .i64 (n : Int)), (6, .slice a n cap), (3, .int .i64 0)]) (fun _ => _) (fun k => n - k) (0) ⟨Nat.zero_le _, by simp⟩ (by repeat (first | exact trivial | refine ⟨by rfl, ?_⟩)) (List.Sublist.refl _) ?_
  intro k e hk
  refine W_seq ?_
  refine W_region_lit (fun ds => ?_)
  refine WS_det hF (by rfl) (y_lss (by rfl) (by rfl)) ?_
  refine WS_nil ?_
  refine Then_normal ?_
  refine W_seq ?_
  refine W_cond (by rfl) (fun c3 => ?_) (fun c3 => ?_)
  ·
    try simp only [Bool.not_eq_true', Bool.not_eq_false', decide_eq_true_eq, decide_eq_false_iff_not, ne_eq, Classical.not_not, Int.not_lt, Int.not_le] at c3
    obtain ⟨b, o, rfl, hc⟩ := hx.cell k (by omega)
    refine W_skip ?_
    refine Then_normal ?_
    refine W_seq ?_
    refine W_block ?_
    refine W_seq ?_
    refine W_region_lit (fun ds => ?_)
    refine WS_det hF (by rfl) (y_index (k := k) (by rfl) (by rfl) (by first | rfl | omega) (by first | decide | omega) Tryd.runUnderlying22 Tryd.sizeOf3) ?_
    refine WS_det hF (by rfl) (y_load1 (by rfl) Tryd.isAgg3 (by first | exact Mem.old1 (by assumption) | exact Mem.oldAt1 (by assumption) (by rfl) | exact Mem.old (by assumption) | exact Mem.oldAtL1 (by assumption) (by rfl) (by rfl))) ?_
    refine WS_det hF (by rfl) (y_assign (c := .int .i64 _) (by rfl)) ?_
    refine WS_nil ?_
    refine Then_normal ?_
    refine W_seq ?_
    refine W_region_lit (fun ds => ?_)
    refine WS_det hF (by rfl) (y_move (c := .int .i64 _) (by rfl)) ?_
    refine WS_det hF (by rfl) (y_move (c := .int .i64 _) (by rfl)) ?_
    refine WS_det hF (by rfl) (y_neq (by rfl) (by rfl)) ?_
    refine WS_nil ?_
    refine Then_normal ?_
    refine W_cond (by rfl) (fun c5 => ?_) (fun c5 => ?_)
    ·
      try simp only [Bool.not_eq_true', Bool.not_eq_false', decide_eq_true_eq, decide_eq_false_iff_not, ne_eq, Classical.not_not, Int.not_lt, Int.not_le] at c5
      refine W_seq ?_
      refine W_region_lit (fun ds => ?_)
      refine WS_det hF (by rfl) (y_move (c := .int .i64 _) (by rfl)) ?_
      refine WS_det hF (by rfl) (y_assign (c := .int .i64 _) (by rfl)) ?_
      refine WS_nil ?_
      refine Then_normal ?_
      refine W_ret ?_
      refine InB_ret ?_
      refine Then_ret ?_
      refine Loop_ret ?_
      refine InB_ret ?_
      refine Then_ret ?_
      refine Fin_ret [.int .i64 _] [] Tryd.results63 ⟨by rfl, trivial⟩ HSub.nil ?_
      rw [← hk.2, orL_step (by omega), if_neg c5]; rfl
    ·
      try simp only [Bool.not_eq_true', Bool.not_eq_false', decide_eq_true_eq, decide_eq_false_iff_not, ne_eq, Classical.not_not, Int.not_lt, Int.not_le] at c5
      refine W_skip ?_
      refine InB_normal ?_
      refine Then_normal ?_
      refine W_region_lit (fun ds => ?_)
      refine WS_det hF (by rfl) (y_add (by rfl) (by rfl) (by unfold I64; omega)) ?_
      refine WS_det hF (by rfl) (y_move (c := .int .i64 _) (by rfl)) ?_
      refine WS_nil ?_
      exact Loop_next (k + 1) ⟨by omega, by rw [orL_step (by omega), if_pos c5] at hk; exact hk.2⟩ (by repeat (first | exact trivial | refine ⟨by rfl, ?_⟩)) (by repeat (first | exact List.Sublist.refl _ | exact List.nil_sublist _ | apply List.Sublist.cons_cons | apply List.Sublist.cons)) (by omega)
  ·
    try simp only [Bool.not_eq_true', Bool.not_eq_false', decide_eq_true_eq, decide_eq_false_iff_not, ne_eq, Classical.not_not, Int.not_lt, Int.not_le] at c3
    refine W_exit ?_
    refine Then_exit ?_
    refine Loop_exit ?_
    refine InB_same ?_
    refine Then_normal ?_
    refine W_seq ?_
    refine W_region_lit (fun ds => ?_)
    refine WS_det hF (by rfl) (y_move (c := .int .i64 _) (by rfl)) ?_
    refine WS_det hF (by rfl) (y_assign (c := .int .i64 _) (by rfl)) ?_
    refine WS_nil ?_
    refine Then_normal ?_
    refine W_ret ?_
    refine Fin_ret [.int .i64 _] [] Tryd.results63 ⟨by rfl, trivial⟩ HSub.nil ?_
    rw [← hk.2, List.drop_eq_nil_of_le (by omega)]; rfl
theorem cmpP_any (p q : Po) (w : World) : Ct Tryd.prog 131 #[.agg p.cells.toArray, .agg q.cells.toArray] w fun v _ => v = .int .i64 (cmpP p q) := by
  have hF := wide_wide
  refine Ct_start (args := [_, _]) Tryd.func131 (by rfl) Tryd.ntmps131 (by rfl) ?_
  refine W_seq ?_
  refine W_region_lit (fun ds => ?_)
  refine WS_new hF (by rfl) (y_box (by rfl)) (fun b1 => ?_)
  refine WS_new hF (by rfl) (y_box (by rfl)) (fun b2 => ?_)
  refine WS_det hF (by rfl) (y_assign (c := .int .i64 _) (by rfl)) ?_
  refine WS_nil ?_
  refine Then_normal ?_
  refine W_seq ?_
  refine W_draw0 hF Trydmixed [] (by decide +kernel) (fun ds => ?_)
  refine P_det (by rfl) (Over_nil (y_fieldAddr (by rfl) fa26_0)) ?_
  refine P_det (by rfl) (Over_nil (y_load1 (by rfl) Tryd.isAgg3 (Mem.own1 1 (by rfl) (by rfl)))) ?_
  refine P_det (by rfl) (Over_nil (y_fieldAddr (by rfl) fa26_0)) ?_
  refine P_det (by rfl) (Over_nil (y_load1 (by rfl) Tryd.isAgg3 (Mem.own1 0 (by rfl) (by rfl)))) ?_
  refine P_det (by rfl) (Over_nil (y_callL (by rfl) (by rfl) Tryd.call64 (fun w hw => compare_any p.f q.f w))) ?_
  refine P_det (by rfl) (Over_nil (y_fieldAddr (by rfl) fa26_1)) ?_
  refine P_det (by rfl) (Over_nil (y_load1 (by rfl) Tryd.isAgg3 (Mem.own1 1 (by rfl) (by rfl)))) ?_
  refine P_det (by rfl) (Over_nil (y_fieldAddr (by rfl) fa26_1)) ?_
  refine P_det (by rfl) (Over_nil (y_load1 (by rfl) Tryd.isAgg3 (Mem.own1 0 (by rfl) (by rfl)))) ?_
  refine P_det (by rfl) (Over_nil (y_callL (by rfl) (by rfl) Tryd.call64 (fun w hw => compare_any p.t q.t w))) ?_
  refine P_new (by rfl) (by rfl) (Over_nil (y_buildSliceL bs22_2_0_1 (by rfl))) ?_
  refine P_det (by rfl) (Over_in (by rfl) (Over_nil (by rintro _ _ ⟨b4, rfl, rfl⟩; exact (y_callL (by rfl) (by rfl) Tryd.call63 (fun w hw => orL_any _ 2 2 [cmpI p.f q.f, cmpI p.t q.t] w (by decide) (Ints.two 0 (by rfl) w hw)))))) ?_
  refine P_det (by rfl) (Over_out (by rfl) (Over_nil (y_assign (c := .int .i64 _) (by rfl)))) ?_
  refine PW_end (by rfl) ?_
  refine OverAll_cons (fun w15 l15 => ?_)
  refine OverAll_nil ?_
  rintro ⟨-, h15⟩
  obtain ⟨b3, rfl, rfl⟩ := h15
  refine Then_normal ?_
  refine W_ret ?_
  refine Fin_ret [.int .i64 _] [] Tryd.results131 ⟨by rfl, trivial⟩ HSub.nil ?_
  rfl
end Go.Proofs.YtjekjehgmljbgaaDoor.T

/- The first one of some ways: the program's walks. -/
namespace Go.Proofs.YtjekjehgmljbgaaDoor.T
open Go.RowKit Go.Proofs Go.Eng
set_option maxRecDepth 100000
set_option maxHeartbeats 1000000
set_option linter.unusedVariables false
set_option linter.unusedSimpArgs false

theorem bs22_3_0_1_2 {x0 : Int} {x1 : Int} {x2 : Int} : ∀ w, (Instr.buildSlice 22 3 #[(0, .int .i64 x0), (1, .int .i64 x1), (2, .int .i64 x2)]).run Tryd.prog w = .ok (.slice (some ⟨w.heap.size, 0, none⟩) 3 3) (w.alloc (CB [.int .i64 x0, .int .i64 x1, .int .i64 x2] 3)) := fun w => by kernel_rfl
theorem fa112_0 : ∀ b o w, (Instr.fieldAt 112 (.pointer (some ⟨b, o, none⟩)) 0).run Tryd.prog w = .ok (.pointer (some ⟨b, o + 0, none⟩)) w := fun b o w => by kernel_rfl
theorem fa112_1 : ∀ b o w, (Instr.fieldAt 112 (.pointer (some ⟨b, o, none⟩)) 1).run Tryd.prog w = .ok (.pointer (some ⟨b, o + 1, none⟩)) w := fun b o w => by kernel_rfl

/-- A way, and where its pourings lie. -/
structure Wl where
  w : Wy
  a : Option Addr
  k : Nat
def Wl.z : Wl := ⟨⟨[], 0⟩, none, 0⟩
def Wl.cells (x : Wl) : List Value := [.slice x.a x.w.l.length x.k, .int .i64 x.w.back]
theorem wl_len : ∀ x, (Wl.cells x).length = 2 := fun _ => rfl
abbrev Wls (w : World) (a : Option Addr) (n cap : Nat) (xs : List Wl) : Prop := Rws Wl.cells 2 Wl.z w a n cap xs
structure Wl.Rd (w : World) (x : Wl) : Prop where
  p : Pos w x.a x.w.l.length x.k x.w.l
  n : x.w.l.length ≤ 1000000
theorem Wl.Rd.st {C : Ctx} {H : List Blk} {x : Wl} (h : x.Rd C.w0) (w : World) (hw : St C H w) : x.Rd w := ⟨h.p.st w hw, h.n⟩
theorem cmpL_any (l m : List Po) (la : Option Addr) (lcap : Nat) (ma : Option Addr) (mcap : Nat) (w : World) (hl : l.length ≤ 1000000) (hm : m.length ≤ 1000000) (hp : Pos w la l.length lcap l) (hq : Pos w ma m.length mcap m) :
    Ct Tryd.prog 130 #[.slice la l.length lcap, .slice ma m.length mcap, .func (.func 131) #[] #[]] w fun v _ => v = .int .i64 (cmpL l m) := by
  have hF := wide_wide
  refine Ct_start (args := [_, _, _]) Tryd.func130 (by rfl) Tryd.ntmps130 (by rfl) ?_
  refine W_seq ?_
  refine W_region_lit (fun ds => ?_)
  refine WS_det hF (by rfl) (y_assign (c := .int .i64 _) (by rfl)) ?_
  refine WS_nil ?_
  refine Then_normal ?_
  refine W_seq ?_
  refine W_seq ?_
  refine W_region_lit (fun ds => ?_)
  refine WS_det hF (by rfl) (y_move (c := .slice _ _ _) (by rfl)) ?_
  refine WS_det hF (by rfl) (y_len (by rfl) Tryd.runUnderlying27) ?_
  refine WS_det hF (by rfl) (y_move (c := .int .i64 _) (by rfl)) ?_
  refine WS_nil ?_
  refine Then_normal ?_
  refine W_block ?_
  refine W_loop (γ := Nat) (fun k => k ≤ l.length ∧ k ≤ m.length ∧ cmpL (l.drop k) (m.drop k) = cmpL l m) (fun k => [(13, .int .i64 (k : Int)), (12, .int .i64 (l.length : Int)), (11, .slice la l.length lcap), (0, .slice la l.length lcap), (1, .slice ma m.length mcap), (2, .func (.func 131) #[] #[])]) (fun _ => _) (fun k => l.length - k) (0) ⟨Nat.zero_le _, Nat.zero_le _, by simp⟩ (by repeat (first | exact trivial | refine ⟨by rfl, ?_⟩)) (List.Sublist.refl _) ?_
  intro k e hk
  refine W_seq ?_
  refine W_region_lit (fun ds => ?_)
  refine WS_det hF (by rfl) (y_lss (by rfl) (by rfl)) ?_
  refine WS_nil ?_
  refine Then_normal ?_
  refine W_seq ?_
  refine W_cond (by rfl) (fun c2 => ?_) (fun c2 => ?_)
  ·
    try simp only [Bool.not_eq_true', Bool.not_eq_false', decide_eq_true_eq, decide_eq_false_iff_not, ne_eq, Classical.not_not, Int.not_lt, Int.not_le] at c2
    obtain ⟨b, o, rfl, hc⟩ := hp.cell k (by omega)
    change At w b _ (l.getD k Po.z).cells at hc
    refine W_skip ?_
    refine Then_normal ?_
    refine W_seq ?_
    refine W_block ?_
    refine W_seq ?_
    refine W_region_lit (fun ds => ?_)
    refine WS_det hF (by rfl) (y_move (c := .int .i64 _) (by rfl)) ?_
    refine WS_det hF (by rfl) (y_index (k := k) (by rfl) (by rfl) (by first | rfl | omega) (by first | decide | omega) Tryd.runUnderlying27 Tryd.sizeOf26) ?_
    refine WS_det hF (by rfl) (y_loadN (by rfl) Tryd.isAgg26 Tryd.sizeOf26 (by first | exact Mem.old (by assumption) | exact Mem.oldAt (us := [.int .i64 _, .int .i64 _]) (by assumption) (by rfl) | exact Mem.oldAtL (us := [.int .i64 _, .int .i64 _]) (by assumption) (by rfl) (by rfl)) (by rfl)) ?_
    refine WS_new hF (by rfl) (y_alloc Tryd.zeroValue26 (by rfl)) (fun b1 => ?_)
    refine WS_det hF (by rfl) (y_assign (c := .int .i64 _) (by rfl)) ?_
    refine WS_store hF (i := 0) (by rfl) (by rfl) Tryd.sizeOf26 (by rfl) (by rfl) (by rfl) (by first | decide | exact Nat.le_of_ble_eq_true rfl | simp) ?_
    refine WS_nil ?_
    refine Then_normal ?_
    refine W_seq ?_
    refine W_seq ?_
    refine W_region_lit (fun ds => ?_)
    refine WS_det hF (by rfl) (y_move (c := .int .i64 _) (by rfl)) ?_
    refine WS_det hF (by rfl) (y_move (c := .slice _ _ _) (by rfl)) ?_
    refine WS_det hF (by rfl) (y_len (by rfl) Tryd.runUnderlying27) ?_
    refine WS_det hF (by rfl) (y_geq (by rfl) (by rfl)) ?_
    refine WS_nil ?_
    refine Then_normal ?_
    refine W_cond (by rfl) (fun c4 => ?_) (fun c4 => ?_)
    ·
      try simp only [Bool.not_eq_true', Bool.not_eq_false', decide_eq_true_eq, decide_eq_false_iff_not, ne_eq, Classical.not_not, Int.not_lt, Int.not_le] at c4
      refine W_seq ?_
      refine W_region_lit (fun ds => ?_)
      refine WS_det hF (by rfl) (y_assign (c := .int .i64 _) (by rfl)) ?_
      refine WS_nil ?_
      refine Then_normal ?_
      refine W_ret ?_
      refine Then_ret ?_
      refine InB_ret ?_
      refine Then_ret ?_
      refine Loop_ret ?_
      refine InB_ret ?_
      refine Then_ret ?_
      refine Fin_ret [.int .i64 _] [] Tryd.results130 ⟨by rfl, trivial⟩ HSub.nil ?_
      rw [← hk.2.2, cmpL_more (by omega) (by omega)]; rfl
    ·
      try simp only [Bool.not_eq_true', Bool.not_eq_false', decide_eq_true_eq, decide_eq_false_iff_not, ne_eq, Classical.not_not, Int.not_lt, Int.not_le] at c4
      obtain ⟨b', o', rfl, hc'⟩ := hq.cell k (by omega)
      change At w b' _ (m.getD k Po.z).cells at hc'
      refine W_skip ?_
      refine Then_normal ?_
      refine W_seq ?_
      refine W_region_lit (fun ds => ?_)
      refine WS_det hF (by rfl) (y_move (c := .slice _ _ _) (by rfl)) ?_
      refine WS_det hF (by rfl) (y_move (c := .int .i64 _) (by rfl)) ?_
      refine WS_det hF (by rfl) (y_index (k := k) (by rfl) (by rfl) (by first | rfl | omega) (by first | decide | omega) Tryd.runUnderlying27 Tryd.sizeOf26) ?_
      refine WS_det hF (by rfl) (y_loadN (by rfl) Tryd.isAgg26 Tryd.sizeOf26 (by first | exact Mem.old (by assumption) | exact Mem.oldAt (us := [.int .i64 _, .int .i64 _]) (by assumption) (by rfl) | exact Mem.oldAtL (us := [.int .i64 _, .int .i64 _]) (by assumption) (by rfl) (by rfl)) (by rfl)) ?_
      refine WS_new hF (by rfl) (y_alloc Tryd.zeroValue26 (by rfl)) (fun b2 => ?_)
      refine WS_store hF (i := 0) (by rfl) (by rfl) Tryd.sizeOf26 (by rfl) (by rfl) (by rfl) (by first | decide | exact Nat.le_of_ble_eq_true rfl | simp) ?_
      refine WS_nil ?_
      refine Then_normal ?_
      refine W_seq ?_
      refine W_region_lit (fun ds => ?_)
      refine WS_det hF (by rfl) (y_move (c := _) (by rfl)) ?_
      refine WS_det hF (by rfl) (y_loadN (by rfl) Tryd.isAgg26 Tryd.sizeOf26 (Mem.own (us := [.int .i64 _, .int .i64 _]) 1 (by rfl) (by rfl)) (by rfl)) ?_
      refine WS_det hF (by rfl) (y_loadN (by rfl) Tryd.isAgg26 Tryd.sizeOf26 (Mem.own (us := [.int .i64 _, .int .i64 _]) 0 (by rfl) (by rfl)) (by rfl)) ?_
      refine WS_det hF (by rfl) (y_callL (first := []) (captured := []) (by rfl) (by rfl) Tryd.call131 (fun w hw => cmpP_any (l.getD k Po.z) (m.getD k Po.z) w)) ?_
      refine WS_det hF (by rfl) (y_assign (c := .int .i64 _) (by rfl)) ?_
      refine WS_nil ?_
      refine Then_normal ?_
      refine W_seq ?_
      refine W_region_lit (fun ds => ?_)
      refine WS_det hF (by rfl) (y_move (c := .int .i64 _) (by rfl)) ?_
      refine WS_det hF (by rfl) (y_neq (by rfl) (by rfl)) ?_
      refine WS_nil ?_
      refine Then_normal ?_
      refine W_cond (by rfl) (fun c8 => ?_) (fun c8 => ?_)
      ·
        try simp only [Bool.not_eq_true', Bool.not_eq_false', decide_eq_true_eq, decide_eq_false_iff_not, ne_eq, Classical.not_not, Int.not_lt, Int.not_le] at c8
        refine W_seq ?_
        refine W_region_lit (fun ds => ?_)
        refine WS_det hF (by rfl) (y_move (c := .int .i64 _) (by rfl)) ?_
        refine WS_det hF (by rfl) (y_assign (c := .int .i64 _) (by rfl)) ?_
        refine WS_nil ?_
        refine Then_normal ?_
        refine W_ret ?_
        refine InB_ret ?_
        refine Then_ret ?_
        refine Loop_ret ?_
        refine InB_ret ?_
        refine Then_ret ?_
        refine Fin_ret [.int .i64 _] [] Tryd.results130 ⟨by rfl, trivial⟩ HSub.nil ?_
        rw [← hk.2.2, cmpL_step (by omega) (by omega), if_neg c8]; rfl
      ·
        try simp only [Bool.not_eq_true', Bool.not_eq_false', decide_eq_true_eq, decide_eq_false_iff_not, ne_eq, Classical.not_not, Int.not_lt, Int.not_le] at c8
        refine W_skip ?_
        refine InB_normal ?_
        refine Then_normal ?_
        refine W_region_lit (fun ds => ?_)
        refine WS_det hF (by rfl) (y_add (by rfl) (by rfl) (by unfold I64; omega)) ?_
        refine WS_det hF (by rfl) (y_move (c := .int .i64 _) (by rfl)) ?_
        refine WS_nil ?_
        exact Loop_next (k + 1) ⟨by omega, by omega, by have h := hk.2.2; rw [cmpL_step (by omega) (by omega), if_pos c8] at h; exact h⟩ (by repeat (first | exact trivial | refine ⟨by rfl, ?_⟩)) (by repeat (first | exact List.Sublist.refl _ | exact List.nil_sublist _ | apply List.Sublist.cons_cons | apply List.Sublist.cons)) (by omega)
  ·
    try simp only [Bool.not_eq_true', Bool.not_eq_false', decide_eq_true_eq, decide_eq_false_iff_not, ne_eq, Classical.not_not, Int.not_lt, Int.not_le] at c2
    refine W_exit ?_
    refine Then_exit ?_
    refine Loop_exit ?_
    refine InB_same ?_
    refine Then_normal ?_
    refine W_seq ?_
    refine W_seq ?_
    refine W_region_lit (fun ds => ?_)
    refine WS_det hF (by rfl) (y_move (c := .slice _ _ _) (by rfl)) ?_
    refine WS_det hF (by rfl) (y_len (by rfl) Tryd.runUnderlying27) ?_
    refine WS_det hF (by rfl) (y_move (c := .slice _ _ _) (by rfl)) ?_
    refine WS_det hF (by rfl) (y_len (by rfl) Tryd.runUnderlying27) ?_
    refine WS_det hF (by rfl) (y_lss (by rfl) (by rfl)) ?_
    refine WS_nil ?_
    refine Then_normal ?_
    refine W_cond (by rfl) (fun c11 => ?_) (fun c11 => ?_)
    ·
      try simp only [Bool.not_eq_true', Bool.not_eq_false', decide_eq_true_eq, decide_eq_false_iff_not, ne_eq, Classical.not_not, Int.not_lt, Int.not_le] at c11
      refine W_seq ?_
      refine W_region_lit (fun ds => ?_)
      refine WS_det hF (by rfl) (y_assign (c := .int .i64 _) (by rfl)) ?_
      refine WS_nil ?_
      refine Then_normal ?_
      refine W_ret ?_
      refine Then_ret ?_
      refine Fin_ret [.int .i64 _] [] Tryd.results130 ⟨by rfl, trivial⟩ HSub.nil ?_
      obtain rfl : k = l.length := by omega
      rw [← hk.2.2, cmpL_end hk.2.1, if_pos (by omega)]; rfl
    ·
      try simp only [Bool.not_eq_true', Bool.not_eq_false', decide_eq_true_eq, decide_eq_false_iff_not, ne_eq, Classical.not_not, Int.not_lt, Int.not_le] at c11
      refine W_skip ?_
      refine Then_normal ?_
      refine W_seq ?_
      refine W_region_lit (fun ds => ?_)
      refine WS_det hF (by rfl) (y_assign (c := .int .i64 _) (by rfl)) ?_
      refine WS_nil ?_
      refine Then_normal ?_
      refine W_ret ?_
      refine Fin_ret [.int .i64 _] [] Tryd.results130 ⟨by rfl, trivial⟩ HSub.nil ?_
      obtain rfl : k = l.length := by omega
      rw [← hk.2.2, cmpL_end hk.2.1, if_neg (by omega)]; rfl
theorem order_any (x y : Wl) (w : World) (hx : x.Rd w) (hy : y.Rd w) : Ct Tryd.prog 98 #[.agg x.cells.toArray, .agg y.cells.toArray] w fun v _ => v = .int .i64 (ordW x.w y.w) := by
  have hF := wide_wide
  refine Ct_start (args := [_, _]) Tryd.func98 (by rfl) Tryd.ntmps98 (by rfl) ?_
  refine W_seq ?_
  refine W_region_lit (fun ds => ?_)
  refine WS_new hF (by rfl) (y_box (by rfl)) (fun b1 => ?_)
  refine WS_new hF (by rfl) (y_box (by rfl)) (fun b2 => ?_)
  refine WS_det hF (by rfl) (y_assign (c := .int .i64 _) (by rfl)) ?_
  refine WS_nil ?_
  refine Then_normal ?_
  refine W_seq ?_
  refine W_draw0 hF Trydmixed [] (by decide +kernel) (fun ds => ?_)
  refine P_det (by rfl) (Over_nil (y_fieldAddr (by rfl) fa112_0)) ?_
  refine P_det (by rfl) (Over_nil (y_load1 (by rfl) Tryd.isAgg27 (Mem.own1 1 (by rfl) (by rfl)))) ?_
  refine P_det (by rfl) (Over_nil (y_len (by rfl) Tryd.runUnderlying27)) ?_
  refine P_det (by rfl) (Over_nil (y_fieldAddr (by rfl) fa112_0)) ?_
  refine P_det (by rfl) (Over_nil (y_load1 (by rfl) Tryd.isAgg27 (Mem.own1 0 (by rfl) (by rfl)))) ?_
  refine P_det (by rfl) (Over_nil (y_len (by rfl) Tryd.runUnderlying27)) ?_
  refine P_det (by rfl) (Over_nil (y_callL (by rfl) (by rfl) Tryd.call64 (fun w hw => compare_any x.w.l.length y.w.l.length w))) ?_
  refine P_det (by rfl) (Over_nil (y_fieldAddr (by rfl) fa112_1)) ?_
  refine P_det (by rfl) (Over_nil (y_load1 (by rfl) Tryd.isAgg3 (Mem.own1 1 (by rfl) (by rfl)))) ?_
  refine P_det (by rfl) (Over_nil (y_fieldAddr (by rfl) fa112_1)) ?_
  refine P_det (by rfl) (Over_nil (y_load1 (by rfl) Tryd.isAgg3 (Mem.own1 0 (by rfl) (by rfl)))) ?_
  refine P_det (by rfl) (Over_nil (y_callL (by rfl) (by rfl) Tryd.call64 (fun w hw => compare_any x.w.back y.w.back w))) ?_
  refine P_det (by rfl) (Over_nil (y_fieldAddr (by rfl) fa112_0)) ?_
  refine P_det (by rfl) (Over_nil (y_load1 (by rfl) Tryd.isAgg27 (Mem.own1 1 (by rfl) (by rfl)))) ?_
  refine P_det (by rfl) (Over_nil (y_fieldAddr (by rfl) fa112_0)) ?_
  refine P_det (by rfl) (Over_nil (y_load1 (by rfl) Tryd.isAgg27 (Mem.own1 0 (by rfl) (by rfl)))) ?_
  refine P_det (by rfl) (Over_nil (y_callL (by rfl) (by rfl) Tryd.call130 (fun w hw => cmpL_any x.w.l y.w.l x.a x.k y.a y.k w hx.n hy.n (hx.p.st w hw) (hy.p.st w hw)))) ?_
  refine P_new (by rfl) (by rfl) (Over_nil (y_buildSliceL bs22_3_0_1_2 (by rfl))) ?_
  refine P_det (by rfl) (Over_in (by rfl) (Over_nil (by rintro _ _ ⟨b4, rfl, rfl⟩; exact (y_callL (by rfl) (by rfl) Tryd.call63 (fun w hw => orL_any _ 3 3 [cmpI x.w.l.length y.w.l.length, cmpI x.w.back y.w.back, cmpL x.w.l y.w.l] w (by decide) (Ints.mem (xs := [cmpI x.w.l.length y.w.l.length, cmpI x.w.back y.w.back, cmpL x.w.l y.w.l]) (rest := []) 0 (by rfl) (by rfl) (by decide) w hw)))))) ?_
  refine P_det (by rfl) (Over_out (by rfl) (Over_nil (y_assign (c := .int .i64 _) (by rfl)))) ?_
  refine PW_end (by rfl) ?_
  refine OverAll_cons (fun w22 l22 => ?_)
  refine OverAll_nil ?_
  rintro ⟨-, h22⟩
  obtain ⟨b3, rfl, rfl⟩ := h22
  refine Then_normal ?_
  refine W_ret ?_
  refine Fin_ret [.int .i64 _] [] Tryd.results98 ⟨by rfl, trivial⟩ HSub.nil ?_
  rfl
theorem minW_any (a : Option Addr) (n cap : Nat) (xs : List Wl) (w : World) (hn0 : 0 < n) (hn : n ≤ 1000000) (hx : Wls w a n cap xs) (hr : ∀ x ∈ xs, x.Rd w) :
    Ct Tryd.prog 129 #[.slice a n cap, .func (.func 98) #[] #[]] w fun v _ => ∃ x ∈ xs, v = .agg x.cells.toArray ∧ ∀ y ∈ xs, y.w.lt x.w = false := by
  have hl := hx.len
  have hmem : ∀ k, k < n → xs.getD k Wl.z ∈ xs := fun k hk => by rw [List.getD_eq_getElem?_getD, List.getElem?_eq_getElem (by omega)]; exact List.getElem_mem _
  obtain ⟨b0, o0, rfl, hc0⟩ := hx.cell 0 hn0
  change At w b0 _ (xs.getD 0 Wl.z).cells at hc0
  have hF := wide_wide
  refine Ct_start (args := [_, _]) Tryd.func129 (by rfl) Tryd.ntmps129 (by rfl) ?_
  refine W_seq ?_
  refine W_region_lit (fun ds => ?_)
  refine WS_new hF (by rfl) (y_alloc Tryd.zeroValue112 (by rfl)) (fun b1 => ?_)
  refine WS_nil ?_
  refine Then_normal ?_
  refine W_seq ?_
  refine W_seq ?_
  refine W_region_lit (fun ds => ?_)
  refine WS_det hF (by rfl) (y_move (c := .slice _ _ _) (by rfl)) ?_
  refine WS_det hF (by rfl) (y_len (by rfl) Tryd.runUnderlying162) ?_
  refine WS_det hF (by rfl) (y_lss (by rfl) (by rfl)) ?_
  refine WS_nil ?_
  refine Then_normal ?_
  refine W_cond (by rfl) (fun c1 => ?_) (fun c1 => ?_)
  · (simp only [decide_eq_true_eq] at c1; omega)
  ·
    try simp only [Bool.not_eq_true', Bool.not_eq_false', decide_eq_true_eq, decide_eq_false_iff_not, ne_eq, Classical.not_not, Int.not_lt, Int.not_le] at c1
    refine W_skip ?_
    refine Then_normal ?_
    refine W_seq ?_
    refine W_region_lit (fun ds => ?_)
    refine WS_det hF (by rfl) (y_move (c := .slice _ _ _) (by rfl)) ?_
    refine WS_det hF (by rfl) (y_index (k := 0) (by rfl) (by rfl) (by first | rfl | omega) (by first | decide | omega) Tryd.runUnderlying162 Tryd.sizeOf112) ?_
    refine WS_det hF (by rfl) (y_loadN (by rfl) Tryd.isAgg112 Tryd.sizeOf112 (by first | exact Mem.old (by assumption) | exact Mem.oldAt (us := [.slice _ _ _, .int .i64 _]) (by assumption) (by rfl) | exact Mem.oldAtL (us := [.slice _ _ _, .int .i64 _]) (by assumption) (by rfl) (by rfl)) (by rfl)) ?_
    refine WS_new hF (by rfl) (y_alloc Tryd.zeroValue112 (by rfl)) (fun b2 => ?_)
    refine WS_store hF (i := 0) (by rfl) (by rfl) Tryd.sizeOf112 (by rfl) (by rfl) (by rfl) (by first | decide | exact Nat.le_of_ble_eq_true rfl | simp) ?_
    refine WS_nil ?_
    refine Then_normal ?_
    refine W_seq ?_
    refine W_seq ?_
    refine W_region_lit (fun ds => ?_)
    refine WS_det hF (by rfl) (y_assign (c := .int .i64 _) (by rfl)) ?_
    refine WS_nil ?_
    refine Then_normal ?_
    refine W_block ?_
    refine W_loop (γ := Nat × Wl) (fun q => 1 ≤ q.1 ∧ q.1 ≤ n ∧ q.2 ∈ xs ∧ ∀ j, j < q.1 → (xs.getD j Wl.z).w.lt q.2.w = false) (fun q => [(0, .slice (some ⟨b0, o0, none⟩) n cap), (1, .func (.func 98) #[] #[]), (4, .pointer (some ⟨b1, 0, none⟩)), (5, .pointer (some ⟨b2, 0, none⟩)), (6, .int .i64 (q.1 : Int))]) (fun q => [(b2, CB q.2.cells 112), (b1, CB [.slice none 0 0, .int .i64 0] 112)]) (fun q => n - q.1) ((1, xs.getD 0 Wl.z)) ⟨Nat.le_refl _, hn0, hmem 0 hn0, fun j hj => by obtain rfl : j = 0 := (by omega); exact Wy.lt_irrefl _⟩ (by repeat (first | exact trivial | refine ⟨by rfl, ?_⟩)) (sbA) ?_
    rintro ⟨k, x⟩ e ⟨hk1, hkn, hxm, hmin⟩
    refine W_seq ?_
    refine W_seq ?_
    refine W_region_lit (fun ds => ?_)
    refine WS_det hF (by rfl) (y_move (c := .int .i64 _) (by rfl)) ?_
    refine WS_det hF (by rfl) (y_move (c := .slice _ _ _) (by rfl)) ?_
    refine WS_det hF (by rfl) (y_len (by rfl) Tryd.runUnderlying162) ?_
    refine WS_det hF (by rfl) (y_lss (by rfl) (by rfl)) ?_
    refine WS_nil ?_
    refine Then_normal ?_
    refine W_cond (by rfl) (fun c5 => ?_) (fun c5 => ?_)
    ·
      try simp only [Bool.not_eq_true', Bool.not_eq_false', decide_eq_true_eq, decide_eq_false_iff_not, ne_eq, Classical.not_not, Int.not_lt, Int.not_le] at c5
      have hck := hx.at (k := k) (by omega)
      have hrk := hr _ (hmem k (by omega))
      have hrx := hr _ hxm
      refine W_skip ?_
      refine Then_normal ?_
      refine W_seq ?_
      refine W_block ?_
      refine W_seq ?_
      refine W_draw0 hF Trydmixed [] (by decide +kernel) (fun ds => ?_)
      refine P_det (by rfl) (Over_nil (y_move (c := _) (by rfl))) ?_
      refine P_det (by rfl) (Over_nil (y_move (c := .slice _ _ _) (by rfl))) ?_
      refine P_det (by rfl) (Over_nil (y_move (c := .int .i64 _) (by rfl))) ?_
      refine P_det (by rfl) (Over_nil (y_index (k := k) (by rfl) (by rfl) (by first | rfl | omega) (by first | decide | omega) Tryd.runUnderlying162 Tryd.sizeOf112)) ?_
      refine P_det (by rfl) (Over_nil (y_loadN (by rfl) Tryd.isAgg112 Tryd.sizeOf112 (by first | exact Mem.old (by assumption) | exact Mem.oldAt (us := [.slice _ _ _, .int .i64 _]) (by assumption) (by rfl) | exact Mem.oldAtL (us := [.slice _ _ _, .int .i64 _]) (by assumption) (by rfl) (by rfl)) (by rfl))) ?_
      refine P_det (by rfl) (Over_nil (y_loadN (by rfl) Tryd.isAgg112 Tryd.sizeOf112 (Mem.own (us := [.slice _ _ _, .int .i64 _]) 0 (by rfl) (by rfl)) (by rfl))) ?_
      refine P_det (by rfl) (Over_nil (y_callL (first := []) (captured := []) (by rfl) (by rfl) Tryd.call98 (fun w hw => order_any (xs.getD k Wl.z) x w (hrk.st w hw) (hrx.st w hw)))) ?_
      refine P_det (by rfl) (Over_nil (y_lss (by rfl) (by rfl))) ?_
      refine PW_end (by rfl) ?_
      refine OverAll_nil ?_
      rintro -
      refine Then_normal ?_
      refine W_cond (by rfl) (fun c7 => ?_) (fun c7 => ?_)
      ·
        try simp only [Bool.not_eq_true', Bool.not_eq_false', decide_eq_true_eq, decide_eq_false_iff_not, ne_eq, Classical.not_not, Int.not_lt, Int.not_le] at c7
        have hlt : (xs.getD k Wl.z).w.lt x.w = true := ordW_lt.1 c7
        have hm2 : ∀ j, j < k + 1 → (xs.getD j Wl.z).w.lt (xs.getD k Wl.z).w = false := fun j hj => by
          by_cases hjk : j = k
          · subst hjk; exact Wy.lt_irrefl _
          · cases hl : (xs.getD j Wl.z).w.lt (xs.getD k Wl.z).w with
            | false => rfl
            | true => have := hmin j (by omega); rw [Wy.lt_trans hl hlt] at this; exact this
        refine W_region_lit (fun ds => ?_)
        refine WS_det hF (by rfl) (y_move (c := .slice _ _ _) (by rfl)) ?_
        refine WS_det hF (by rfl) (y_move (c := .int .i64 _) (by rfl)) ?_
        refine WS_det hF (by rfl) (y_index (k := k) (by rfl) (by rfl) (by first | rfl | omega) (by first | decide | omega) Tryd.runUnderlying162 Tryd.sizeOf112) ?_
        refine WS_det hF (by rfl) (y_loadN (by rfl) Tryd.isAgg112 Tryd.sizeOf112 (by first | exact Mem.old (by assumption) | exact Mem.oldAt (us := [.slice _ _ _, .int .i64 _]) (by assumption) (by rfl) | exact Mem.oldAtL (us := [.slice _ _ _, .int .i64 _]) (by assumption) (by rfl) (by rfl)) (by rfl)) ?_
        refine WS_store hF (i := 0) (by rfl) (by rfl) Tryd.sizeOf112 (by rfl) (by rfl) (by rfl) (by first | decide | exact Nat.le_of_ble_eq_true rfl | simp) ?_
        refine WS_nil ?_
        refine InB_normal ?_
        refine Then_normal ?_
        refine W_region_lit (fun ds => ?_)
        refine WS_det hF (by rfl) (y_move (c := .int .i64 _) (by rfl)) ?_
        refine WS_det hF (by rfl) (y_add (by rfl) (by rfl) (by unfold I64; omega)) ?_
        refine WS_det hF (by rfl) (y_assign (c := .int .i64 _) (by rfl)) ?_
        refine WS_nil ?_
        exact Loop_next (k + 1, xs.getD k Wl.z) ⟨by omega, by simp only; omega, hmem k (by omega), hm2⟩ (by repeat (first | exact trivial | refine ⟨by rfl, ?_⟩)) sbA (by simp only; omega)
      ·
        try simp only [Bool.not_eq_true', Bool.not_eq_false', decide_eq_true_eq, decide_eq_false_iff_not, ne_eq, Classical.not_not, Int.not_lt, Int.not_le] at c7
        have hlt : ¬ (xs.getD k Wl.z).w.lt x.w = true := fun h => by have := ordW_lt.2 h; omega
        have hm2 : ∀ j, j < k + 1 → (xs.getD j Wl.z).w.lt x.w = false := fun j hj => by
          by_cases hjk : j = k
          · subst hjk; simpa using hlt
          · exact hmin j (by omega)
        refine W_skip ?_
        refine InB_normal ?_
        refine Then_normal ?_
        refine W_region_lit (fun ds => ?_)
        refine WS_det hF (by rfl) (y_move (c := .int .i64 _) (by rfl)) ?_
        refine WS_det hF (by rfl) (y_add (by rfl) (by rfl) (by unfold I64; omega)) ?_
        refine WS_det hF (by rfl) (y_assign (c := .int .i64 _) (by rfl)) ?_
        refine WS_nil ?_
        exact Loop_next (k + 1, x) ⟨by omega, by simp only; omega, hxm, hm2⟩ (by repeat (first | exact trivial | refine ⟨by rfl, ?_⟩)) sbA (by simp only; omega)
    ·
      try simp only [Bool.not_eq_true', Bool.not_eq_false', decide_eq_true_eq, decide_eq_false_iff_not, ne_eq, Classical.not_not, Int.not_lt, Int.not_le] at c5
      refine W_exit ?_
      refine Then_exit ?_
      refine Loop_exit ?_
      refine InB_same ?_
      refine Then_normal ?_
      refine W_seq ?_
      refine W_region_lit (fun ds => ?_)
      refine WS_det hF (by rfl) (y_loadN (by rfl) Tryd.isAgg112 Tryd.sizeOf112 (Mem.own (us := [.slice _ _ _, .int .i64 _]) 0 (by rfl) (by rfl)) (by rfl)) ?_
      refine WS_store hF (i := 1) (by rfl) (by rfl) Tryd.sizeOf112 (by rfl) (by rfl) (by rfl) (by first | decide | exact Nat.le_of_ble_eq_true rfl | simp) ?_
      refine WS_nil ?_
      refine Then_normal ?_
      refine W_ret ?_
      refine Fin_ret [_] [] Tryd.results129 ⟨lvN (by rfl) Tryd.isAgg112 Tryd.sizeOf112 (Mem.own (us := [.slice _ _ _, .int .i64 _]) 1 (by rfl) (by rfl)) (by rfl), trivial⟩ HSub.nil ?_
      obtain rfl : k = n := by omega
      refine ⟨x, hxm, rfl, fun y hy => ?_⟩
      obtain ⟨j, hj⟩ := List.getElem?_of_mem hy
      have hjl : j < xs.length := (List.getElem?_eq_some_iff.1 hj).1
      have := hmin j (by omega)
      rw [List.getD_eq_getElem?_getD, hj] at this
      exact this
theorem firstW_any (a : Option Addr) (n cap : Nat) (xs : List Wl) (w : World) (hn0 : 0 < n) (hn : n ≤ 1000000) (hx : Wls w a n cap xs) (hr : ∀ x ∈ xs, x.Rd w) :
    Ct Tryd.prog 97 #[.slice a n cap, .func (.func 98) #[] #[]] w fun v _ => ∃ x ∈ xs, v = .agg x.cells.toArray ∧ ∀ y ∈ xs, y.w.lt x.w = false := by
  have hF := wide_wide
  refine Ct_start (args := [_, _]) Tryd.func97 (by rfl) Tryd.ntmps97 (by rfl) ?_
  refine W_seq ?_
  refine W_region_lit (fun ds => ?_)
  refine WS_new hF (by rfl) (y_alloc Tryd.zeroValue112 (by rfl)) (fun b1 => ?_)
  refine WS_nil ?_
  refine Then_normal ?_
  refine W_seq ?_
  refine W_region_lit (fun ds => ?_)
  refine WS_det hF (by rfl) (y_move (c := .slice _ _ _) (by rfl)) ?_
  refine WS_det hF (by rfl) (y_move (c := _) (by rfl)) ?_
  refine WS_gen hF (by rfl) (y_callL (by rfl) (by rfl) Tryd.call129 (fun w hw => minW_any a n cap xs w hn0 hn (hx.st w hw) (fun x h => (hr x h).st w hw))) ?_
  rintro _ HL ⟨x, hxm, rfl, hmin⟩
  refine WS_back ?_
  refine WS_store hF (i := 0) (by rfl) (by rfl) Tryd.sizeOf112 (by rfl) (by rfl) (by rfl) (by first | decide | exact Nat.le_of_ble_eq_true rfl | simp) ?_
  refine WS_nil ?_
  refine Then_normal ?_
  refine W_ret ?_
  refine Fin_ret [_] [] Tryd.results97 ⟨lvN (by rfl) Tryd.isAgg112 Tryd.sizeOf112 (Mem.own (us := [.slice _ _ _, .int .i64 _]) 0 (by rfl) (by rfl)) (by rfl), trivial⟩ HSub.nil ?_
  exact ⟨x, hxm, rfl, hmin⟩
end Go.Proofs.YtjekjehgmljbgaaDoor.T

/- Arrays of four numbers: equal, as keys of maps. No project text. -/
namespace Go.Eng
open Go.RowKit
set_option linter.unusedSimpArgs false
section
variable {P : Program} {T E : TypeId}
structure Arr4 (P : Program) (T E : TypeId) : Prop where
  t : P.underlying T = some (.array 4 E)
  e : P.underlying E = some (.int .i64)
  agg : ∀ w, (isAgg E).run P w = .ok false w
  sz : ∀ w, (sizeOf E).run P w = .ok 1 w
def arr4 (a b c d : Int) : Value := .agg #[.int .i64 a, .int .i64 b, .int .i64 c, .int .i64 d]
theorem part4 (h : Arr4 P T E) {l : Array Value} {i : Nat} {w : World} {v : Value} (hv : l[i]? = some v) : (part E l i).run P w = .ok v w := by
  unfold part
  simp [h.agg, hv]
theorem eq_arr4 (h : Arr4 P T E) {d : Nat} (a b c e a' b' c' e' : Int) (w : World) :
    (Op.equalIn (d + 2) T (arr4 a b c e) (arr4 a' b' c' e')).run P w = .ok (ieq a a' && ieq b b' && ieq c c' && ieq e e') w := by
  have hE : ∀ w, (underlying E).run P w = .ok (.int .i64) w := run_underlying h.e
  have p0 : ∀ x y z u w, (part E #[.int .i64 x, .int .i64 y, .int .i64 z, .int .i64 u] 0).run P w = .ok (.int .i64 x) w := fun _ _ _ _ _ => part4 h rfl
  have p1 : ∀ x y z u w, (part E #[.int .i64 x, .int .i64 y, .int .i64 z, .int .i64 u] 1).run P w = .ok (.int .i64 y) w := fun _ _ _ _ _ => part4 h rfl
  have p2 : ∀ x y z u w, (part E #[.int .i64 x, .int .i64 y, .int .i64 z, .int .i64 u] 2).run P w = .ok (.int .i64 z) w := fun _ _ _ _ _ => part4 h rfl
  have p3 : ∀ x y z u w, (part E #[.int .i64 x, .int .i64 y, .int .i64 z, .int .i64 u] 3).run P w = .ok (.int .i64 u) w := fun _ _ _ _ _ => part4 h rfl
  have q : ∀ x y w, (Op.equalIn (d + 1) E (.int .i64 x) (.int .i64 y)).run P w = .ok (ieq x y) w := fun x y w => eq_int hE w
  rw [Op.equalIn.eq_def]
  unfold arr4
  simp only [Sem.run_bind, run_underlying h.t, Result.andThen, h.sz]
  simp only [Std.Legacy.Range.forIn_eq_forIn_range', Std.Legacy.Range.size, Nat.sub_zero, Nat.add_sub_cancel, Nat.div_one, List.range'_succ, List.range'_zero, List.forIn_cons, List.forIn_nil, Nat.mul_one, Nat.zero_add, Nat.reduceAdd]
  simp only [Sem.run_bind, p0, p1, p2, p3, q, Result.andThen]
  by_cases h0 : ieq a a' = true <;> by_cases h1 : ieq b b' = true <;> by_cases h2 : ieq c c' = true <;> by_cases h3 : ieq e e' = true
  all_goals simp_all [Result.andThen]
theorem chk_arr4 (h : Arr4 P T E) (em : Bool) {d : Nat} (a b c e : Int) (w : World) : (Instr.checkKey em (d + 2) T (arr4 a b c e)).run P w = .ok () w := by
  have p0 : ∀ x y z u w, (part E #[.int .i64 x, .int .i64 y, .int .i64 z, .int .i64 u] 0).run P w = .ok (.int .i64 x) w := fun _ _ _ _ _ => part4 h rfl
  have p1 : ∀ x y z u w, (part E #[.int .i64 x, .int .i64 y, .int .i64 z, .int .i64 u] 1).run P w = .ok (.int .i64 y) w := fun _ _ _ _ _ => part4 h rfl
  have p2 : ∀ x y z u w, (part E #[.int .i64 x, .int .i64 y, .int .i64 z, .int .i64 u] 2).run P w = .ok (.int .i64 z) w := fun _ _ _ _ _ => part4 h rfl
  have p3 : ∀ x y z u w, (part E #[.int .i64 x, .int .i64 y, .int .i64 z, .int .i64 u] 3).run P w = .ok (.int .i64 u) w := fun _ _ _ _ _ => part4 h rfl
  have q : ∀ x w, (Instr.checkKey em (d + 1) E (.int .i64 x)).run P w = .ok () w := fun x w => by
    rw [Instr.checkKey.eq_def]
    simp only [Sem.run_bind, run_underlying h.e, Result.andThen]
    rfl
  rw [Instr.checkKey.eq_def]
  unfold arr4
  simp only [Sem.run_bind, run_underlying h.t, Result.andThen]
  simp only [Std.Legacy.Range.forIn_eq_forIn_range', Std.Legacy.Range.size, Nat.sub_zero, Nat.add_sub_cancel, Nat.div_one, List.range'_succ, List.range'_zero, List.forIn_cons, List.forIn_nil, Nat.zero_add, Nat.reduceAdd]
  simp [Sem.run_bind, h.sz, p0, p1, p2, p3, q, Result.andThen]
theorem bits_arr4 (a b c e : Int) : Instr.sameBits 10000 (arr4 a b c e) (arr4 a b c e) = true := by
  unfold arr4
  rw [Instr.sameBits.eq_def]
  simp [Instr.sameBits]
theorem keyOk4 {K : Type} [DecidableEq K] (h : Arr4 P T E) {enc : K → Value} (g : Nat → K → Int) (he : ∀ x, enc x = arr4 (g 0 x) (g 1 x) (g 2 x) (g 3 x)) (hi : ∀ x y, g 0 x = g 0 y → g 1 x = g 1 y → g 2 x = g 2 y → g 3 x = g 3 y → x = y) : KeyOk P T enc where
  now := ⟨_, h.t, fun a b => by rw [he, he]; rfl⟩
  eq := fun x y w => by
    rw [he, he]
    unfold Op.equal Op.maxDepth
    rw [eq_arr4 h]
    congr 1
    rw [Bool.eq_iff_iff]
    simp only [Bool.and_eq_true, ieq_iff, decide_eq_true_eq]
    constructor
    · rintro ⟨⟨⟨h0, h1⟩, h2⟩, h3⟩; exact hi x y h0 h1 h2 h3
    · rintro rfl; exact ⟨⟨⟨rfl, rfl⟩, rfl⟩, rfl⟩
  chk := fun b x w => by rw [he]; exact chk_arr4 h b _ _ _ _ w
  bits := fun x => by rw [he]; exact bits_arr4 _ _ _ _
end
end Go.Eng

/- Pourings that can be, in their order; a list of pourings in new memory; a map that is copied: the program's walks. -/
namespace Go.Proofs.YtjekjehgmljbgaaDoor.T
open Go.RowKit Go.Proofs Go.Eng
set_option maxRecDepth 100000
set_option maxHeartbeats 1000000
set_option linter.unusedVariables false
set_option linter.unusedSimpArgs false

theorem bd26_0_1 {x0 : Int} {x1 : Int} : ∀ w, (Instr.build 26 #[(0, .int .i64 x0), (1, .int .i64 x1)]).run Tryd.prog w = .ok (.agg #[.int .i64 x0, .int .i64 x1]) w := fun w => by kernel_rfl

def pA (n i : Nat) : Po := ⟨((i / (n + 1) : Nat) : Int), ((i % (n + 1) : Nat) : Int)⟩
theorem pA_eq {n f t : Nat} (ht : t < n + 1) : pA n (f * (n + 1) + t) = ⟨(f : Int), (t : Int)⟩ := by
  have h1 : (f * (n + 1) + t) / (n + 1) = f := by rw [Nat.mul_comm, Nat.mul_add_div (Nat.succ_pos n), Nat.div_eq_of_lt ht, Nat.add_zero]
  have h2 : (f * (n + 1) + t) % (n + 1) = t := by rw [Nat.mul_comm, Nat.mul_add_mod, Nat.mod_eq_of_lt ht]
  unfold pA
  rw [h1, h2]
def Cn.psJ (c : Cn) (x : Co) (j : Nat) : List Po := ((List.range j).map (pA c.n)).filter fun p => decide (c.pE x p = 0)
def Cn.ps (c : Cn) (x : Co) : List Po := c.psJ x ((c.n + 1) * (c.n + 1))
theorem Cn.psJ_yes {c : Cn} {x : Co} {j : Nat} (h : c.pE x (pA c.n j) = 0) : c.psJ x (j + 1) = c.psJ x j ++ [pA c.n j] := by
  unfold Cn.psJ
  rw [List.range_succ, List.map_append, List.filter_append]
  simp [h]
theorem Cn.psJ_no {c : Cn} {x : Co} {j : Nat} (h : ¬ c.pE x (pA c.n j) = 0) : c.psJ x (j + 1) = c.psJ x j := by
  unfold Cn.psJ
  rw [List.range_succ, List.map_append, List.filter_append]
  simp [h]
theorem Cn.psJ_pre (c : Cn) (x : Co) (j : Nat) : ∀ m, ∃ r, c.psJ x (j + m) = c.psJ x j ++ r
  | 0 => ⟨[], (List.append_nil _).symm⟩
  | m + 1 => by
    obtain ⟨r, hr⟩ := c.psJ_pre x j m
    by_cases h : c.pE x (pA c.n (j + m)) = 0
    · exact ⟨r ++ [pA c.n (j + m)], by rw [← Nat.add_assoc, Cn.psJ_yes h, hr, List.append_assoc]⟩
    · exact ⟨r, by rw [← Nat.add_assoc, Cn.psJ_no h, hr]⟩
theorem Cn.ps_at {c : Cn} {x : Co} {j : Nat} (hj : j < (c.n + 1) * (c.n + 1)) (h : c.pE x (pA c.n j) = 0) : (c.psJ x j).length < (c.ps x).length ∧ (c.ps x).getD (c.psJ x j).length Po.z = pA c.n j := by
  obtain ⟨r, hr⟩ := c.psJ_pre x (j + 1) ((c.n + 1) * (c.n + 1) - (j + 1))
  rw [show j + 1 + ((c.n + 1) * (c.n + 1) - (j + 1)) = (c.n + 1) * (c.n + 1) by omega, Cn.psJ_yes h] at hr
  unfold Cn.ps
  rw [hr]
  refine ⟨by simp, ?_⟩
  simp [List.getD_eq_getElem?_getD]
theorem Cn.ps_ok {c : Cn} {x : Co} {k : Nat} (hk : k < (c.ps x).length) : c.pE x ((c.ps x).getD k Po.z) = 0 := by
  rw [List.getD_eq_getElem?_getD, List.getElem?_eq_getElem hk]
  have := List.getElem_mem hk
  unfold Cn.ps Cn.psJ at this ⊢
  simpa using (List.mem_filter.1 this).2
theorem Cn.ps_mem {c : Cn} {x : Co} {p : Po} (h : c.pE x p = 0) : ∃ k, k < (c.ps x).length ∧ (c.ps x).getD k Po.z = p := by
  obtain ⟨h1, _⟩ := Cn.pE_zero.1 h
  rw [Cn.vld_iff] at h1
  obtain ⟨⟨f0, f1⟩, ⟨t0, t1⟩, _⟩ := h1
  obtain ⟨pf, pt⟩ := p
  simp only at f0 f1 t0 t1
  obtain ⟨f, rfl⟩ := Int.eq_ofNat_of_zero_le f0
  obtain ⟨t, rfl⟩ := Int.eq_ofNat_of_zero_le t0
  have he : pA c.n (f * (c.n + 1) + t) = ⟨(f : Int), (t : Int)⟩ := pA_eq (by omega)
  have hj : f * (c.n + 1) + t < (c.n + 1) * (c.n + 1) := by
    have : f * (c.n + 1) ≤ c.n * (c.n + 1) := Nat.mul_le_mul_right _ (by omega)
    rw [Nat.succ_mul c.n (c.n + 1)]
    omega
  obtain ⟨h2, h3⟩ := Cn.ps_at (x := x) hj (by rw [he]; exact h)
  exact ⟨_, h2, h3.trans he⟩
theorem cloneP_any (l : List Po) (la : Option Addr) (lcap : Nat) (w : World) (hl : l.length ≤ 1000000) (hp : Pos w la l.length lcap l) :
    Ct Tryd.prog 101 #[.slice la l.length lcap] w fun v Hn => ∃ a' cap', v = .slice a' l.length cap' ∧ NewRow 26 2 l.length (rowOf Po.cells (fun k => l.getD k Po.z) l.length) (.slice a' l.length cap') Hn := by
  have hF := wide_wide
  refine Ct_start (args := [_]) Tryd.func101 (by rfl) Tryd.ntmps101 (by rfl) ?_
  refine W_seq ?_
  refine W_region_lit (fun ds => ?_)
  refine WS_det hF (by rfl) (y_assign (c := .slice _ _ _) (by rfl)) ?_
  refine WS_nil ?_
  refine Then_normal ?_
  refine W_seq ?_
  refine W_seq ?_
  refine W_region_lit (fun ds => ?_)
  refine WS_det hF (by rfl) (y_move (c := .slice _ _ _) (by rfl)) ?_
  refine WS_det hF (by rfl) (y_eqlNil (by rfl) (by rfl) Tryd.runUnderlying27) ?_
  refine WS_nil ?_
  refine Then_normal ?_
  refine W_cond (by rfl) (fun c1 => ?_) (fun c1 => ?_)
  ·
    try simp only [Bool.not_eq_true', Bool.not_eq_false', decide_eq_true_eq, decide_eq_false_iff_not, ne_eq, Classical.not_not, Int.not_lt, Int.not_le] at c1
    obtain rfl : la = none := Option.isNone_iff_eq_none.1 c1
    have h0 : l = [] := by
      cases l with
      | nil => rfl
      | cons p l => obtain ⟨b, o, h, _⟩ := hp.cell 0 (Nat.zero_lt_succ _); cases h
    subst h0
    refine W_seq ?_
    refine W_region_lit (fun ds => ?_)
    refine WS_det hF (by rfl) (y_assign (c := .slice _ _ _) (by rfl)) ?_
    refine WS_nil ?_
    refine Then_normal ?_
    refine W_ret ?_
    refine Then_ret ?_
    refine Fin_ret [.slice _ _ _] [] Tryd.results101 ⟨by rfl, trivial⟩ HSub.nil ?_
    exact ⟨none, 0, rfl, none, 0, rfl, Nat.le_refl _, .inr ⟨rfl, rfl, rfl⟩⟩
  ·
    try simp only [Bool.not_eq_true', Bool.not_eq_false', decide_eq_true_eq, decide_eq_false_iff_not, ne_eq, Classical.not_not, Int.not_lt, Int.not_le] at c1
    refine W_skip ?_
    refine Then_normal ?_
    refine W_seq ?_
    refine W_region_lit (fun ds => ?_)
    refine WS_newS hF (by rfl) (y_buildSliceL bs27_0 (by rfl)) (fun b1 => ?_)
    refine WS_det hF (by rfl) (y_move (c := .slice _ _ _) (by rfl)) ?_
    refine WS_gen hF (by rfl) (y_append0 (by rfl) (by rfl) Tryd.underlying27 infPo (by rfl) (Rws.src po_len hp) (rowOf_len po_len _ _) (by omega) (by omega)) ?_
    rintro _ Hc hrow
    have hrow2 := hrow
    obtain ⟨a', cap', rfl, _⟩ := hrow2
    refine WS_det hF (by rfl) (y_assign (c := .slice _ _ _) (by rfl)) ?_
    refine WS_nil ?_
    refine Then_normal ?_
    refine W_ret ?_
    refine Fin_ret [.slice _ _ _] Hc Tryd.results101 ⟨by rfl, trivial⟩ (HSub.sub sbA) ?_
    exact ⟨_, _, rfl, hrow⟩
theorem pourings_any (c : Cn) (a1 : Option Addr) (p1 : Nat) (a2 : Option Addr) (p2 : Nat) (x : Co) (w : World) : Ct Tryd.prog 100 #[.agg #[.slice a1 c.n p1, .slice a2 c.inn.length p2, .int .i64 c.st], .agg x.cells.toArray] w fun v Hn => ∃ bb bx, v = .func (.func 132) #[] #[.pointer (some ⟨bb, 0, none⟩), .pointer (some ⟨bx, 0, none⟩)] ∧ Hn = [(bx, CB x.cells 99), (bb, CB [.slice a1 c.n p1, .slice a2 c.inn.length p2, .int .i64 c.st] 96)] := by
  have hF := wide_wide
  refine Ct_start (args := [_, _]) Tryd.func100 (by rfl) Tryd.ntmps100 (by rfl) ?_
  refine W_seq ?_
  refine W_region_lit (fun ds => ?_)
  refine WS_new hF (by rfl) (y_box (by rfl)) (fun b1 => ?_)
  refine WS_new hF (by rfl) (y_box (by rfl)) (fun b2 => ?_)
  refine WS_det hF (by rfl) (y_assign (c := _) (by rfl)) ?_
  refine WS_nil ?_
  refine Then_normal ?_
  refine W_seq ?_
  refine W_region_lit (fun ds => ?_)
  refine WS_det hF (by rfl) (y_makeFuncL (by rfl) (by rfl)) ?_
  refine WS_det hF (by rfl) (y_assign (c := _) (by rfl)) ?_
  refine WS_nil ?_
  refine Then_normal ?_
  refine W_ret ?_
  refine Fin_ret [_] [(b2, _), (b1, _)] Tryd.results100 ⟨by rfl, trivial⟩ (HSub.sub (by repeat (first | exact List.nil_sublist _ | apply List.Sublist.cons_cons | apply List.Sublist.cons))) ?_
  exact ⟨_, _, rfl, rfl⟩
theorem pourings_it (w0 : World) (ds0 out0 : List Deferred) (bb bx : Nat) (c : Cn) (a1 : Option Addr) (p1 : Nat) (a2 : Option Addr) (p2 : Nat) (x : Co) (hok : c.Ok) (hin : c.In x) (hn : c.n ≤ 1000000) (hm : c.inn.length ≤ 1000000) (h1 : Ints w0 a1 c.n p1 c.sz) (h2 : Ints w0 a2 c.inn.length p2 c.inn) :
    It ⟨Tryd.prog, w0, ds0, out0⟩ 132 [.pointer (some ⟨bb, 0, none⟩), .pointer (some ⟨bx, 0, none⟩)] (fun k => [.agg ((c.ps x).getD k Po.z).cells.toArray, .agg (c.stp x ((c.ps x).getD k Po.z)).cells.toArray]) (c.ps x).length [(bx, CB x.cells 99), (bb, CB [.slice a1 c.n p1, .slice a2 c.inn.length p2, .int .i64 c.st] 96)] := by
  intro lp J Jx hY G hJ
  have hn3 := hok.n3
  have hJ0 : J (c.psJ x (0 * (c.n + 1))).length G := by rw [Nat.zero_mul]; exact hJ
  have hF := wide_wide
  refine Cs_start (args := [_, _, _]) Tryd.func132 (by rfl) Tryd.ntmps132 (by rfl) ?_
  refine W_seq ?_
  refine W_region_lit (fun ds => ?_)
  refine WS_det hF (by rfl) (y_fieldAddr (by rfl) fa96_0) ?_
  refine WS_det hF (by rfl) (y_fieldAddr (by rfl) fa24_0) ?_
  refine WS_det hF (by rfl) (y_load1 (by rfl) Tryd.isAgg22 (Mem.own1 1 (by rfl) (by rfl))) ?_
  refine WS_det hF (by rfl) (y_len (by rfl) Tryd.runUnderlying22) ?_
  refine WS_det hF (by rfl) (y_add (by rfl) (by rfl) (by unfold I64; omega)) ?_
  refine WS_det hF (by rfl) (y_move (c := .int .i64 _) (by rfl)) ?_
  refine WS_nil ?_
  refine Then_normal ?_
  refine W_block ?_
  refine W_loop (γ := Nat × List Blk) (fun p => p.1 ≤ c.n + 1 ∧ J (c.psJ x (p.1 * (c.n + 1))).length p.2) (fun p => [(0, .func (.yield lp) #[] #[]), (1, .pointer (some ⟨bb, 0, none⟩)), (2, .pointer (some ⟨bx, 0, none⟩)), (13, .int .i64 ((c.n : Int) + 1)), (14, .int .i64 (p.1 : Int))]) (fun p => (bx, CB x.cells 99) :: (bb, CB [.slice a1 c.n p1, .slice a2 c.inn.length p2, .int .i64 c.st] 96) :: p.2) (fun p => c.n + 1 - p.1) ((0, G)) ⟨Nat.zero_le _, hJ0⟩ (by repeat (first | exact trivial | refine ⟨by rfl, ?_⟩)) (sbA) ?_
  rintro ⟨f, G1⟩ e ⟨hf, hj1⟩
  refine W_seq ?_
  refine W_region_lit (fun ds => ?_)
  refine WS_det hF (by rfl) (y_lss (by rfl) (by rfl)) ?_
  refine WS_nil ?_
  refine Then_normal ?_
  refine W_seq ?_
  refine W_cond (by rfl) (fun c1 => ?_) (fun c1 => ?_)
  ·
    try simp only [Bool.not_eq_true', Bool.not_eq_false', decide_eq_true_eq, decide_eq_false_iff_not, ne_eq, Classical.not_not, Int.not_lt, Int.not_le] at c1
    refine W_skip ?_
    refine Then_normal ?_
    refine W_seq ?_
    refine W_block ?_
    refine W_seq ?_
    refine W_region_lit (fun ds => ?_)
    refine WS_det hF (by rfl) (y_move (c := .int .i64 _) (by rfl)) ?_
    refine WS_det hF (by rfl) (y_assign (c := .int .i64 _) (by rfl)) ?_
    refine WS_nil ?_
    refine Then_normal ?_
    refine W_seq ?_
    refine W_region_lit (fun ds => ?_)
    refine WS_det hF (by rfl) (y_fieldAddr (by rfl) fa96_0) ?_
    refine WS_det hF (by rfl) (y_fieldAddr (by rfl) fa24_0) ?_
    refine WS_det hF (by rfl) (y_load1 (by rfl) Tryd.isAgg22 (Mem.own1 1 (by rfl) (by rfl))) ?_
    refine WS_det hF (by rfl) (y_len (by rfl) Tryd.runUnderlying22) ?_
    refine WS_det hF (by rfl) (y_add (by rfl) (by rfl) (by unfold I64; omega)) ?_
    refine WS_det hF (by rfl) (y_move (c := .int .i64 _) (by rfl)) ?_
    refine WS_nil ?_
    refine Then_normal ?_
    refine W_block ?_
    refine W_loop (γ := Nat × List Blk) (fun p => p.1 ≤ c.n + 1 ∧ J (c.psJ x (f * (c.n + 1) + p.1)).length p.2) (fun p => [(0, .func (.yield lp) #[] #[]), (1, .pointer (some ⟨bb, 0, none⟩)), (2, .pointer (some ⟨bx, 0, none⟩)), (13, .int .i64 ((c.n : Int) + 1)), (14, .int .i64 (f : Int)), (4, .int .i64 (f : Int)), (21, .int .i64 ((c.n : Int) + 1)), (22, .int .i64 (p.1 : Int))]) (fun p => (bx, CB x.cells 99) :: (bb, CB [.slice a1 c.n p1, .slice a2 c.inn.length p2, .int .i64 c.st] 96) :: p.2) (fun p => c.n + 1 - p.1) ((0, G1)) ⟨Nat.zero_le _, hj1⟩ (by repeat (first | exact trivial | refine ⟨by rfl, ?_⟩)) (sbA) ?_
    rintro ⟨t, G2⟩ e ⟨ht, hj2⟩
    refine W_seq ?_
    refine W_region_lit (fun ds => ?_)
    refine WS_det hF (by rfl) (y_lss (by rfl) (by rfl)) ?_
    refine WS_nil ?_
    refine Then_normal ?_
    refine W_seq ?_
    refine W_cond (by rfl) (fun c4 => ?_) (fun c4 => ?_)
    ·
      try simp only [Bool.not_eq_true', Bool.not_eq_false', decide_eq_true_eq, decide_eq_false_iff_not, ne_eq, Classical.not_not, Int.not_lt, Int.not_le] at c4
      have hje : pA c.n (f * (c.n + 1) + t) = ⟨(f : Int), (t : Int)⟩ := pA_eq (by omega)
      have hjm : f * (c.n + 1) + t < (c.n + 1) * (c.n + 1) := by
        have : f * (c.n + 1) ≤ c.n * (c.n + 1) := Nat.mul_le_mul_right _ (by omega)
        rw [Nat.succ_mul c.n (c.n + 1)]
        omega
      refine W_skip ?_
      refine Then_normal ?_
      refine W_seq ?_
      refine W_block ?_
      refine W_seq ?_
      refine W_region_lit (fun ds => ?_)
      refine WS_det hF (by rfl) (y_move (c := .int .i64 _) (by rfl)) ?_
      refine WS_det hF (by rfl) (y_assign (c := .int .i64 _) (by rfl)) ?_
      refine WS_nil ?_
      refine Then_normal ?_
      refine W_seq ?_
      refine W_region_lit (fun ds => ?_)
      refine WS_det hF (by rfl) (y_move (c := .int .i64 _) (by rfl)) ?_
      refine WS_det hF (by rfl) (y_move (c := .int .i64 _) (by rfl)) ?_
      refine WS_det hF (by rfl) (y_buildL bd26_0_1 (by rfl)) ?_
      refine WS_new hF (by rfl) (y_alloc Tryd.zeroValue26 (by rfl)) (fun b1 => ?_)
      refine WS_store hF (i := 0) (by rfl) (by rfl) Tryd.sizeOf26 (by rfl) (by rfl) (by rfl) (by first | decide | exact Nat.le_of_ble_eq_true rfl | simp) ?_
      refine WS_nil ?_
      refine Then_normal ?_
      refine W_seq ?_
      refine W_seq ?_
      refine W_region_lit (fun ds => ?_)
      refine WS_det hF (by rfl) (y_loadN (by rfl) Tryd.isAgg96 Tryd.sizeOf96 (Mem.own (us := [.slice _ _ _, .slice _ _ _, .int .i64 _]) 2 (by rfl) (by rfl)) (by rfl)) ?_
      refine WS_det hF (by rfl) (y_loadN (by rfl) Tryd.isAgg26 Tryd.sizeOf26 (Mem.own (us := [.int .i64 _, .int .i64 _]) 0 (by rfl) (by rfl)) (by rfl)) ?_
      refine WS_det hF (by rfl) (y_callL (by rfl) (by rfl) Tryd.call48 (fun w hw => bvalid_any c a1 p1 a2 p2 ⟨(f : Int), (t : Int)⟩ w)) ?_
      refine WS_det hF (by rfl) (y_not (by rfl)) ?_
      refine WS_nil ?_
      refine Then_normal ?_
      refine W_cond (by rfl) (fun c7 => ?_) (fun c7 => ?_)
      ·
        try simp only [Bool.not_eq_true', Bool.not_eq_false', decide_eq_true_eq, decide_eq_false_iff_not, ne_eq, Classical.not_not, Int.not_lt, Int.not_le] at c7
        have hpe : ¬ c.pE x (pA c.n (f * (c.n + 1) + t)) = 0 := by rw [hje, Cn.pE_zero, c7]; simp
        have hj4 : J (c.psJ x (f * (c.n + 1) + (t + 1))).length G2 := by rw [← Nat.add_assoc, Cn.psJ_no hpe]; exact hj2
        refine W_exit ?_
        refine Then_exit ?_
        refine InB_same ?_
        refine Then_normal ?_
        refine W_region_lit (fun ds => ?_)
        refine WS_det hF (by rfl) (y_add (by rfl) (by rfl) (by unfold I64; omega)) ?_
        refine WS_det hF (by rfl) (y_move (c := .int .i64 _) (by rfl)) ?_
        refine WS_nil ?_
        exact Loop_next (t + 1, G2) ⟨by simp only; omega, hj4⟩ (by repeat (first | exact trivial | refine ⟨by rfl, ?_⟩)) sbA (by simp only; omega)
      ·
        try simp only [Bool.not_eq_true', Bool.not_eq_false', decide_eq_true_eq, decide_eq_false_iff_not, ne_eq, Classical.not_not, Int.not_lt, Int.not_le] at c7
        have hv := Cn.vld_iff.1 c7
        simp only at hv
        refine W_skip ?_
        refine Then_normal ?_
        refine W_seq ?_
        refine W_region_lit (fun ds => ?_)
        refine WS_det hF (by rfl) (y_loadN (by rfl) Tryd.isAgg96 Tryd.sizeOf96 (Mem.own (us := [.slice _ _ _, .slice _ _ _, .int .i64 _]) 2 (by rfl) (by rfl)) (by rfl)) ?_
        refine WS_det hF (by rfl) (y_loadN (by rfl) Tryd.isAgg99 Tryd.sizeOf99 (Mem.own (us := [.int .i64 _, .int .i64 _, .int .i64 _, .int .i64 _]) 1 (by rfl) (by rfl)) (by rfl)) ?_
        refine WS_det hF (by rfl) (y_loadN (by rfl) Tryd.isAgg26 Tryd.sizeOf26 (Mem.own (us := [.int .i64 _, .int .i64 _]) 0 (by rfl) (by rfl)) (by rfl)) ?_
        refine WS_det hF (by rfl) (y_callL (by rfl) (by rfl) Tryd.call49 (fun w hw => bpour_any c a1 p1 a2 p2 x f t w hok hn hm (h1.st w hw) (h2.st w hw) hin (by omega) (by omega) (by omega))) ?_
        refine WS_det hF (by rfl) (y_move (c := .tuple _) (by rfl)) ?_
        refine WS_det hF (by rfl) (y_extract (c := .agg _) (by rfl) (by rfl)) ?_
        refine WS_det hF (by rfl) (y_extract (c := .bool _) (by rfl) (by rfl)) ?_
        refine WS_new hF (by rfl) (y_alloc Tryd.zeroValue99 (by rfl)) (fun b2 => ?_)
        refine WS_store hF (i := 0) (by rfl) (by rfl) Tryd.sizeOf99 (by rfl) (by rfl) (by rfl) (by first | decide | exact Nat.le_of_ble_eq_true rfl | simp) ?_
        refine WS_det hF (by rfl) (y_assign (c := .bool _) (by rfl)) ?_
        refine WS_nil ?_
        refine Then_normal ?_
        refine W_seq ?_
        refine W_region_lit (fun ds => ?_)
        refine WS_det hF (by rfl) (y_move (c := .bool _) (by rfl)) ?_
        refine WS_det hF (by rfl) (y_move (c := .bool _) (by rfl)) ?_
        refine WS_split 40 (by rfl) (fun g9_1 => ?_) (fun g9_1 => ?_)
        ·
          try simp only [Bool.not_eq_true', Bool.not_eq_false', decide_eq_true_eq, decide_eq_false_iff_not, ne_eq, Classical.not_not, Int.not_lt, Int.not_le] at g9_1
          rw [Cn.can_to g9_1]
          have hpe : c.pE x (pA c.n (f * (c.n + 1) + t)) = 0 := by rw [hje]; exact Cn.pE_zero.2 ⟨c7, g9_1⟩
          obtain ⟨hlt, hat⟩ := Cn.ps_at hjm hpe
          rw [hje] at hat
          have hYk := hY _ hlt
          simp only [hat] at hYk
          refine WS_det hF (by rfl) (y_move (c := _) (by rfl)) ?_
          refine WS_det hF (by rfl) (y_loadN (by rfl) Tryd.isAgg26 Tryd.sizeOf26 (Mem.own (us := [.int .i64 _, .int .i64 _]) 1 (by rfl) (by rfl)) (by rfl)) ?_
          refine WS_det hF (by rfl) (y_loadN (by rfl) Tryd.isAgg99 Tryd.sizeOf99 (Mem.own (us := [.int .i64 _, .int .i64 _, .int .i64 _, .int .i64 _]) 0 (by rfl) (by rfl)) (by rfl)) ?_
          refine WS_yield (by rfl) (by rfl) (by rfl) (hYk ds [_, _, _, _] G2 hj2) ?_
          rintro yb _ ⟨G3, rfl, hb⟩
          refine WS_det hF (by rfl) (y_not (by rfl)) ?_
          refine WS_det hF (by rfl) (by first | exact y_pick_t (c := .bool _) (by rfl) (by rfl) | exact y_pick_f (c := .bool _) (by rfl) (by rfl)) ?_
          refine WS_nil ?_
          refine Then_normal ?_
          refine W_cond (by rfl) (fun c9 => ?_) (fun c9 => ?_)
          ·
            try simp only [Bool.not_eq_true', Bool.not_eq_false', decide_eq_true_eq, decide_eq_false_iff_not, ne_eq, Classical.not_not, Int.not_lt, Int.not_le] at c9
            obtain ⟨rfl, hj5⟩ | ⟨_, hj5⟩ := hb
            · cases c9
            refine W_ret ?_
            refine InB_ret ?_
            refine Then_ret ?_
            refine Loop_ret ?_
            refine InB_ret ?_
            refine InB_ret ?_
            refine Then_ret ?_
            refine Loop_ret ?_
            refine InB_ret ?_
            refine Fin_ret [] ((bx, _) :: (bb, _) :: G3) Tryd.results132 trivial (HSub.sub sbA) ?_
            exact ⟨G3, rfl, .inr ⟨_, hlt, hj5⟩⟩
          ·
            try simp only [Bool.not_eq_true', Bool.not_eq_false', decide_eq_true_eq, decide_eq_false_iff_not, ne_eq, Classical.not_not, Int.not_lt, Int.not_le] at c9
            obtain ⟨_, hj5⟩ | ⟨rfl, hj5⟩ := hb
            case inr => cases c9
            have hj4 : J (c.psJ x (f * (c.n + 1) + (t + 1))).length G3 := by rw [← Nat.add_assoc, Cn.psJ_yes hpe, List.length_append]; exact hj5
            refine W_skip ?_
            refine InB_normal ?_
            refine Then_normal ?_
            refine W_region_lit (fun ds => ?_)
            refine WS_det hF (by rfl) (y_add (by rfl) (by rfl) (by unfold I64; omega)) ?_
            refine WS_det hF (by rfl) (y_move (c := .int .i64 _) (by rfl)) ?_
            refine WS_nil ?_
            exact Loop_next (t + 1, G3) ⟨by simp only; omega, hj4⟩ (by repeat (first | exact trivial | refine ⟨by rfl, ?_⟩)) sbA (by simp only; omega)
        ·
          try simp only [Bool.not_eq_true', Bool.not_eq_false', decide_eq_true_eq, decide_eq_false_iff_not, ne_eq, Classical.not_not, Int.not_lt, Int.not_le] at g9_1
          have hpe : ¬ c.pE x (pA c.n (f * (c.n + 1) + t)) = 0 := by rw [hje, Cn.pE_zero]; rintro ⟨_, h⟩; change c.canB x f t = true at h; rw [g9_1] at h; cases h
          have hj4 : J (c.psJ x (f * (c.n + 1) + (t + 1))).length G2 := by rw [← Nat.add_assoc, Cn.psJ_no hpe]; exact hj2
          refine WS_no hF (by rfl) ?_
          refine WS_no hF (by rfl) ?_
          refine WS_no hF (by rfl) ?_
          refine WS_no hF (by rfl) ?_
          refine WS_no hF (by rfl) ?_
          refine WS_det hF (by rfl) (by first | exact y_pick_t (c := .bool _) (by rfl) (by rfl) | exact y_pick_f (c := .bool _) (by rfl) (by rfl)) ?_
          refine WS_nil ?_
          refine Then_normal ?_
          refine W_cond (by rfl) (fun c9 => ?_) (fun c9 => ?_)
          · cases c9
          ·
            try simp only [Bool.not_eq_true', Bool.not_eq_false', decide_eq_true_eq, decide_eq_false_iff_not, ne_eq, Classical.not_not, Int.not_lt, Int.not_le] at c9
            refine W_skip ?_
            refine InB_normal ?_
            refine Then_normal ?_
            refine W_region_lit (fun ds => ?_)
            refine WS_det hF (by rfl) (y_add (by rfl) (by rfl) (by unfold I64; omega)) ?_
            refine WS_det hF (by rfl) (y_move (c := .int .i64 _) (by rfl)) ?_
            refine WS_nil ?_
            exact Loop_next (t + 1, G2) ⟨by simp only; omega, hj4⟩ (by repeat (first | exact trivial | refine ⟨by rfl, ?_⟩)) sbA (by simp only; omega)
    ·
      try simp only [Bool.not_eq_true', Bool.not_eq_false', decide_eq_true_eq, decide_eq_false_iff_not, ne_eq, Classical.not_not, Int.not_lt, Int.not_le] at c4
      have hj3 : J (c.psJ x ((f + 1) * (c.n + 1))).length G2 := by
        have : t = c.n + 1 := by omega
        rw [Nat.succ_mul, ← this]; rw [this] at hj2 ⊢; exact hj2
      refine W_exit ?_
      refine Then_exit ?_
      refine Loop_exit ?_
      refine InB_same ?_
      refine InB_normal ?_
      refine Then_normal ?_
      refine W_region_lit (fun ds => ?_)
      refine WS_det hF (by rfl) (y_add (by rfl) (by rfl) (by unfold I64; omega)) ?_
      refine WS_det hF (by rfl) (y_move (c := .int .i64 _) (by rfl)) ?_
      refine WS_nil ?_
      exact Loop_next (f + 1, G2) ⟨by simp only; omega, hj3⟩ (by repeat (first | exact trivial | refine ⟨by rfl, ?_⟩)) sbA (by simp only; omega)
  ·
    try simp only [Bool.not_eq_true', Bool.not_eq_false', decide_eq_true_eq, decide_eq_false_iff_not, ne_eq, Classical.not_not, Int.not_lt, Int.not_le] at c1
    refine W_exit ?_
    refine Then_exit ?_
    refine Loop_exit ?_
    refine InB_same ?_
    refine Fin_norm [] ((bx, _) :: (bb, _) :: G1) Tryd.results132 trivial (HSub.sub sbA) ?_
    obtain rfl : f = c.n + 1 := by omega
    exact ⟨G1, rfl, .inl hj1⟩
end Go.Proofs.YtjekjehgmljbgaaDoor.T

/- Loops over maps: what is left. No project text. -/
namespace Go.Eng
open Go.RowKit
section
variable {K : Type} [DecidableEq K] {l : List (EntK K)} {seen : Array Nat} {y : EntK K}
def leftL (l : List (EntK K)) (seen : Array Nat) : Nat := (l.filter fun x => !decide (x.2.2 ∈ seen)).length
omit [DecidableEq K] in
theorem leftL_lt (hy : y ∈ l) (hns : y.2.2 ∉ seen) : leftL l (seen.push y.2.2) < leftL l seen := by
  unfold leftL
  induction l with
  | nil => cases hy
  | cons x l ih =>
    have hle : ∀ l : List (EntK K), (l.filter fun x => !decide (x.2.2 ∈ seen.push y.2.2)).length ≤ (l.filter fun x => !decide (x.2.2 ∈ seen)).length := fun l => by
      induction l with
      | nil => exact Nat.le_refl _
      | cons z l ih =>
        by_cases h : z.2.2 ∈ seen
        · simpa [h] using ih
        · by_cases h2 : z.2.2 = y.2.2
          · simp [h2, hns]; simp at ih; omega
          · simp [h, h2]; simp at ih; omega
    have := hle l
    rcases List.mem_cons.1 hy with rfl | hy
    · simp [hns]; simp at this; omega
    · have ih := ih hy
      by_cases h : x.2.2 ∈ seen
      · simpa [h] using ih
      · by_cases h2 : x.2.2 = y.2.2
        · simp [h2, hns]; simp at this; omega
        · simp [h, h2]; simp at ih; omega
/-- The entries that were seen are copied into a map. -/
structure Copied (ls ld l : List (EntK K)) (seen : Array Nat) : Prop where
  yes : ∀ y ∈ ls, y.2.2 ∈ seen → lookK y.1 l = some y.2.1
  no : ∀ k, (∀ y ∈ ls, y.1 = k → y.2.2 ∉ seen) → lookK k l = lookK k ld
theorem Copied.nil (ls ld : List (EntK K)) : Copied ls ld ld #[] := ⟨fun _ _ h => (by simp at h), fun _ _ => rfl⟩
theorem Copied.step {ls ld l : List (EntK K)} {seen : Array Nat} {c : Nat} (h : Copied ls ld l seen) (hk : (ls.map (·.1)).Nodup) (hb : (ls.map (·.2.2)).Nodup) {y : EntK K} (hy : y ∈ ls) : Copied ls ld (putL y.1 y.2.1 l c) (seen.push y.2.2) := by
  have hkey : ∀ {x z : EntK K}, x ∈ ls → z ∈ ls → x.1 = z.1 → x.2.1 = z.2.1 := fun {x z} hx hz he => by
    have h1 := lookK_mem hk hx
    have h2 := lookK_mem hk hz
    rw [he] at h1
    exact Option.some.inj (h1.symm.trans h2)
  refine ⟨fun z hz hs => ?_, fun k hno => ?_⟩
  · rw [lookK_put]
    by_cases he : z.1 = y.1
    · rw [if_pos he, hkey hz hy he]
    · rw [if_neg he]
      refine h.yes z hz ?_
      rcases Array.mem_push.1 hs with hs | hs
      · exact hs
      · have : z = y := by
          have : ∀ {l : List (EntK K)}, (l.map (·.2.2)).Nodup → z ∈ l → y ∈ l → z = y := by
            intro l
            induction l with
            | nil => intro _ h; cases h
            | cons x l ih =>
              intro hn h1 h2
              rw [List.map_cons, List.nodup_cons] at hn
              rcases List.mem_cons.1 h1 with e1 | e1
              · rcases List.mem_cons.1 h2 with e2 | e2
                · rw [e1, e2]
                · exact absurd (List.mem_map.2 ⟨y, e2, by rw [← e1]; exact hs.symm⟩) hn.1
              · rcases List.mem_cons.1 h2 with e2 | e2
                · exact absurd (List.mem_map.2 ⟨z, e1, by rw [← e2]; exact hs⟩) hn.1
                · exact ih hn.2 e1 e2
          exact this hb hz hy
        exact absurd (by rw [this]) he
  · rw [lookK_put]
    have hne : ¬ k = y.1 := fun he => hno y hy he.symm (by simp)
    rw [if_neg hne]
    exact h.no k fun z hz he hs => hno z hz he (by simp [hs])
theorem Copied.done {ls ld l : List (EntK K)} {seen : Array Nat} (h : Copied ls ld l seen) (hall : ∀ x ∈ ls, x.2.2 ∈ seen) (k : K) : lookK k l = (lookK k ls).or (lookK k ld) := by
  cases hl : lookK k ls with
  | some v =>
    obtain ⟨x, hx, rfl, rfl⟩ := lookK_some hl
    exact h.yes x hx (hall x hx)
  | none =>
    rw [lookK_none] at hl
    exact h.no k fun y hy he => absurd (List.mem_map.2 ⟨y, hy, he⟩) hl
end
end Go.Eng

/- Maps of contents: keys, and the walk of maps.Copy. -/
namespace Go.Proofs.YtjekjehgmljbgaaDoor.T
open Go.RowKit Go.Proofs Go.Eng
set_option maxRecDepth 100000
set_option maxHeartbeats 1000000
set_option linter.unusedVariables false
set_option linter.unusedSimpArgs false



def encC (x : Co) : Value := .agg x.cells.toArray
def Wl.v (x : Wl) : Value := .agg x.cells.toArray
theorem keyC : KeyOk Tryd.prog 99 encC :=
  keyOk4 (E := 3) ⟨Tryd.underlying99, Tryd.underlying3, Tryd.isAgg3, Tryd.sizeOf3⟩ (fun n x => x.g n) (fun x => rfl) fun x y h0 h1 h2 h3 => Co.ext4 fun k hk => by
    obtain rfl | rfl | rfl | rfl := lt4 hk
    · exact h0
    · exact h1
    · exact h2
    · exact h3
theorem copy_cs (w0 : World) (ds0 out0 : List Deferred) (md ms : Nat) (ld ls : List (EntK Co)) (cd cs : Nat) (G : List Blk) (hd : GoodM ld cd) (hs : GoodM ls cs) (hv : ∀ y ∈ ls, ∃ x : Wl, y.2.1 = x.v) :
    Cs ⟨Tryd.prog, w0, ds0, out0⟩ 99 #[.map (some md), .map (some ms)] ((md, MK encC ld cd) :: (ms, MK encC ls cs) :: G) fun v Hn => v = .tuple #[] ∧ ∃ l c, GoodM l c ∧ (∀ k, lookK k l = (lookK k ls).or (lookK k ld)) ∧ Hn = (md, MK encC l c) :: (ms, MK encC ls cs) :: G := by
  have hF := wide_wide
  refine Cs_start (args := [_, _]) Tryd.func99 (by rfl) Tryd.ntmps99 (by rfl) ?_
  refine W_seq ?_
  refine W_region_lit (fun ds => ?_)
  refine WS_det hF (by rfl) (y_move (c := .map _) (by rfl)) ?_
  refine WS_new hF (by rfl) (y_rangeK (enc := encC) (i := 1) (by rfl) Tryd.underlying115 (by rfl)) (fun it => ?_)
  refine WS_nil ?_
  refine Then_normal ?_
  refine W_block ?_
  refine W_loop (γ := List (EntK Co) × Nat × Array Nat × Nat) (fun q => GoodM q.1 q.2.1 ∧ Copied ls ld q.1 q.2.2.1 ∧ cs ≤ q.2.2.2) (fun q => [(0, .map (some md)), (7, .pointer (some ⟨it, 0, none⟩))]) (fun q => (it, .mapIter (some ms) cs q.2.2.1 q.2.2.2) :: (md, MK encC q.1 q.2.1) :: (ms, MK encC ls cs) :: G) (fun q => leftL ls q.2.2.1) ((ld, cd, #[], cs)) ⟨hd, Copied.nil ls ld, Nat.le_refl _⟩ (by repeat (first | exact trivial | refine ⟨by rfl, ?_⟩)) (sbA) ?_
  rintro ⟨l, c, seen, c0⟩ e ⟨hg, hc, hc0⟩
  refine W_seq ?_
  refine W_region_lit (fun ds => ?_)
  refine WS_nextK hF (enc := encC) (i := 0) (j := 2) (by rfl) (by rfl) (by rfl) (by rfl) hs.old hc0 (fun hov => ?_) (fun y hy hns => ?_)
  ·
    refine WS_det hF (by rfl) (y_extract (c := .bool _) (by rfl) (by rfl)) ?_
    refine WS_nil ?_
    refine Then_normal ?_
    refine W_seq ?_
    refine W_cond (by rfl) (fun c1 => ?_) (fun c1 => ?_)
    · cases c1
    ·
      try simp only [Bool.not_eq_true', Bool.not_eq_false', decide_eq_true_eq, decide_eq_false_iff_not, ne_eq, Classical.not_not, Int.not_lt, Int.not_le] at c1
      refine W_exit ?_
      refine Then_exit ?_
      refine Loop_exit ?_
      refine InB_same ?_
      refine Fin_norm [] ((md, _) :: (ms, _) :: G) Tryd.results99 trivial (HSub.sub sbA) ?_
      exact ⟨rfl, l, c, hg, hc.done hov, rfl⟩
  ·
    obtain ⟨k, v, bn⟩ := y
    obtain ⟨x, hvx⟩ := hv _ hy
    change v = x.v at hvx
    subst hvx
    refine WS_det hF (by rfl) (y_extract (c := .bool _) (by rfl) (by rfl)) ?_
    refine WS_nil ?_
    refine Then_normal ?_
    refine W_seq ?_
    refine W_cond (by rfl) (fun c1 => ?_) (fun c1 => ?_)
    ·
      try simp only [Bool.not_eq_true', Bool.not_eq_false', decide_eq_true_eq, decide_eq_false_iff_not, ne_eq, Classical.not_not, Int.not_lt, Int.not_le] at c1
      refine W_skip ?_
      refine Then_normal ?_
      refine W_block ?_
      refine W_seq ?_
      refine W_region_lit (fun ds => ?_)
      refine WS_det hF (by rfl) (y_entryK (enc := encC) (y := (k, x.v, bn)) (i := 0) (j := 2) (by rfl) (by rfl) (by rfl) hy hs.born) ?_
      refine WS_det hF (by rfl) (y_extract (c := .agg _) (by rfl) (by rfl)) ?_
      refine WS_det hF (by rfl) (y_extract (c := .agg _) (by rfl) (by rfl)) ?_
      refine WS_new hF (by rfl) (y_alloc Tryd.zeroValue99 (by rfl)) (fun b1 => ?_)
      refine WS_new hF (by rfl) (y_alloc Tryd.zeroValue112 (by rfl)) (fun b2 => ?_)
      refine WS_store hF (i := 1) (by rfl) (by rfl) Tryd.sizeOf99 (by rfl) (by rfl) (by rfl) (by first | decide | exact Nat.le_of_ble_eq_true rfl | simp) ?_
      refine WS_store hF (i := 0) (by rfl) (by rfl) Tryd.sizeOf112 (by rfl) (by rfl) (by rfl) (by first | decide | exact Nat.le_of_ble_eq_true rfl | simp) ?_
      refine WS_nil ?_
      refine Then_normal ?_
      refine W_region_lit (fun ds => ?_)
      refine WS_det hF (by rfl) (y_move (c := .map _) (by rfl)) ?_
      refine WS_det hF (by rfl) (y_loadN (by rfl) Tryd.isAgg99 Tryd.sizeOf99 (Mem.own (us := [.int .i64 _, .int .i64 _, .int .i64 _, .int .i64 _]) 1 (by rfl) (by rfl)) (by rfl)) ?_
      refine WS_det hF (by rfl) (y_loadN (by rfl) Tryd.isAgg112 Tryd.sizeOf112 (Mem.own (us := [.slice _ _ _, .int .i64 _]) 0 (by rfl) (by rfl)) (by rfl)) ?_
      refine WS_mapUpdK hF (enc := encC) (k := k) (u := x.v) (i := 3) keyC (by rfl) (by rfl) (by rfl) Tryd.underlying115 (by rfl) ?_
      refine WS_nil ?_
      refine InB_normal ?_
      exact Loop_next (putL k x.v l c, putC k l c, seen.push bn, cs) ⟨hg.put k x.v, hc.step hs.keys hs.born hy, Nat.le_refl _⟩ (by repeat (first | exact trivial | refine ⟨by rfl, ?_⟩)) sbA (leftL_lt hy hns)
    · cases c1
end Go.Proofs.YtjekjehgmljbgaaDoor.T

/- A region whose order is open, order by order: what the memory of the start settles is settled first. No project text. -/
namespace Go.Eng
open Go.RowKit
set_option linter.unusedVariables false
section
variable {F : Fence} {n : Nat} {P : Program} {ops : Array Oper} {Q : Exit → Act → World → Prop} {S : World → Prop}
/-- What an operation leaves: the same values, but for its own slot. -/
def Off (d : Option Tmp) (a a' : Act) : Prop := ∃ u ds, a' = { a.put d u with defers := ds }
theorem wpOpIn_off {j : Nat} {o : Oper} {K : Act → World → Prop} {a : Act} {w : World} (hj : ops[j]? = some o) (h : wpOpIn F n P ops Q j K a w) :
    wpOpIn F n P ops Q j (fun a' w' => K a' w' ∧ Off o.dst a a') a w := by
  unfold wpOpIn at *
  simp only [hj] at *
  split
  · rename_i hw
    simp only [hw, if_true] at h
    unfold Oper.wpIn at *
    obtain ⟨h0, h⟩ := h
    refine ⟨h0, ?_⟩
    clear h0
    generalize (o.semAt F.round a.eval).run P w = r at *
    cases r with
    | ok x w' =>
      cases x <;> simp only [Oper.uponIn] at h ⊢
      case value u => exact ⟨h, u, _, rfl⟩
      case skip => exact ⟨h, undef, _, rfl⟩
      case defer d => exact ⟨h, undef, d :: a.defers, by cases o.dst <;> rfl⟩
      case enter f args =>
        refine ⟨h.1, CallsIn.mono h.2 fun e w'' he => ?_⟩
        cases e with
        | returned u => exact ⟨he, u, _, rfl⟩
        | panicked c => exact he
        | outgrown => exact he
      case row row args => exact ⟨h.1, RowsIn.mono h.2 fun u w'' he => ⟨he, u, _, rfl⟩⟩
      case round l f tmps assign body =>
        refine ⟨h.1, RoundIn.mono h.2 fun e w'' he => ?_⟩
        cases e with
        | returned u => exact ⟨he, u, _, rfl⟩
        | panicked c => exact he
        | outgrown => exact he
    | halt x w' => cases x <;> simp only [Oper.uponIn] at h ⊢ <;> exact h
  · rename_i hw
    simp only [hw] at h
    exact ⟨h.1, h.2, undef, _, rfl⟩
/-- Whether another slot is filled already makes no difference to an operation that does not look at it. -/
theorem wpOpIn_putR {j : Nat} {oj : Oper} {d : Option Tmp} {v : Value} (hnd : noDefer oj = true) (hj : ops[j]? = some oj) (h1 : ∀ t, d = some t → t ∉ oj.looksAt ops) (h2 : ∀ t, d = some t → oj.dst ≠ some t)
    (hsj : ∀ cs b, oj.op ≠ .select cs b) {a : Act} {w : World} {K : Act → World → Prop} (hQ : ∀ c a w, Q (.panic c) (a.put d v) w → Q (.panic c) a w) (h : wpOpIn F n P ops Q j K (a.put d v) w) :
    wpOpIn F n P ops Q j (fun a' w' => K (a'.put d v) w') a w := by
  unfold wpOpIn at *
  simp only [hj] at *
  rw [wanted_put oj a d v h1, about_put oj w a d v h1] at h
  split
  · rename_i hw
    simp only [hw, if_true] at h
    unfold Oper.wpIn at *
    rw [about_put oj w a d v h1] at h
    obtain ⟨h0, h⟩ := h
    refine ⟨h0, ?_⟩
    clear h0
    rw [semAt_of hnd, execOp_put oj hsj a d v h1] at h
    rw [semAt_of hnd]
    generalize (execOp a.eval oj).run P w = r at *
    cases r with
    | ok x w' =>
      cases x <;> simp only [Oper.uponIn] at h ⊢
      case value u => rw [← Act.put_comm a v u h2]; exact h
      case skip => rw [← Act.put_comm a v undef h2]; exact h
      case defer dd => rw [← Act.put_comm _ v undef h2, ← Act.put_defers]; exact h
      case enter f args =>
        refine ⟨h.1, CallsIn.mono h.2 fun e w'' he => ?_⟩
        cases e with
        | returned u => simp only at he ⊢; rw [← Act.put_comm a v u h2]; exact he
        | panicked c => exact hQ _ _ _ he
        | outgrown => exact he
      case row row args => exact ⟨h.1, RowsIn.mono h.2 fun u w'' he => by rw [← Act.put_comm a v u h2]; exact he⟩
      case round l f tmps assign body =>
        refine ⟨h.1, RoundIn.mono h.2 fun e w'' he => ?_⟩
        cases e with
        | returned u => simp only at he ⊢; rw [← Act.put_comm a v u h2]; exact he
        | panicked c => exact hQ _ _ _ he
        | outgrown => exact he
    | halt x w' =>
      cases x <;> simp only [Oper.uponIn] at h ⊢
      case panic u => exact hQ _ _ _ h
  · rename_i hw
    simp only [hw] at h
    exact ⟨h.1, by rw [← Act.put_comm a v undef h2]; exact h.2⟩
/-- In any order, and what is said of the memory stays so. -/
def anyS (F : Fence) (n : Nat) (P : Program) (ops : Array Oper) (Q : Exit → Act → World → Prop) (S : World → Prop) : Nat → Array Bool → Act → World → Prop
  | 0, listed, a, w => Region.ready .any ops listed = [] ∧ Q .normal a w
  | fuel + 1, listed, a, w => (Region.ready .any ops listed = [] → Q .normal a w) ∧
    ∀ j ∈ Region.ready .any ops listed, wpOpIn F n P ops Q j (fun a' w' => S w' ∧ anyS F n P ops Q S fuel (listed.setIfInBounds j true) a' w') a w
theorem anyS_in : ∀ {fuel : Nat} {listed : Array Bool} {a : Act} {w : World}, anyS F n P ops Q S fuel listed a w → wpAnyIn F n P .any ops Q fuel listed a w
  | 0, _, _, _, h => h
  | fuel + 1, listed, a, w, h => ⟨h.1, fun j hj => wpOpIn_mono (fun a' w' h => anyS_in h.2) (h.2 j hj)⟩
structure YieldsS (P : Program) (ops : Array Oper) (S : World → Prop) (o : Oper) (v : Value) (a : Act) : Prop where
  run : ∀ w, S w → (execOp a.eval o).run P w = .ok (.value v) w
  about : ∀ w, o.about P w a.eval = none
theorem anyS_first {i : Nat} {oi : Oper} {v : Value} (hnd : ∀ (j : Nat) (o : Oper), ops[j]? = some o → noDefer o = true) (hi : ops[i]? = some oi) (hg : oi.guard = none) (hsel : ∀ (j : Nat) (o : Oper) cs b, ops[j]? = some o → o.op ≠ .select cs b)
    (hself : ∀ d, oi.dst = some d → d ∉ oi.looksAt ops) (hQ : ∀ c a w, Q (.panic c) (a.put oi.dst v) w → Q (.panic c) a w) :
    ∀ (fuel : Nat) (listed : Array Bool) (a : Act) (w : World),
      (∀ j oj, ops[j]? = some oj → j ≠ i → listed.getD j true = false → (∀ e ∈ oj.after, Region.binds .any e = true → e.on ≠ i) → oi.apart ops oj = true) →
      i ∈ Region.ready .any ops listed → S w → YieldsS P ops S oi v a →
      anyS F n P ops Q S fuel (listed.setIfInBounds i true) (a.put oi.dst v) w → anyS F n P ops Q S (fuel + 1) listed a w := by
  have hmine : ∀ {listed : Array Bool} {fuel : Nat} {a : Act} {w : World}, S w → YieldsS P ops S oi v a → anyS F n P ops Q S fuel (listed.setIfInBounds i true) (a.put oi.dst v) w →
      wpOpIn F n P ops Q i (fun a' w' => S w' ∧ anyS F n P ops Q S fuel (listed.setIfInBounds i true) a' w') a w := fun {listed fuel a w} hS hy H => by
    unfold wpOpIn
    simp only [hi]
    rw [if_pos (by unfold Region.wanted; rw [hg])]
    refine ⟨fun f hf => (by rw [hy.about] at hf; cases hf), ?_⟩
    rw [semAt_of (hnd i oi hi), hy.run w hS]
    exact ⟨hS, H⟩
  intro fuel
  induction fuel with
  | zero =>
    intro listed a w _ hr hS hy H
    refine ⟨fun h => (by rw [h] at hr; cases hr), fun j hj => ?_⟩
    by_cases hji : j = i
    · subst hji; exact hmine hS hy H
    · have := ready_mono hj hji
      rw [H.1] at this
      cases this
  | succ fuel ih =>
    intro listed a w hfree hr hS hy H
    refine ⟨fun h => (by rw [h] at hr; cases hr), fun j hj => ?_⟩
    by_cases hji : j = i
    · subst hji; exact hmine hS hy H
    · have h1 := H.2 j (ready_mono hj hji)
      obtain ⟨hjun, oj, hoj, hall⟩ := mem_ready.1 hj
      have hnot : ∀ e ∈ oj.after, Region.binds .any e = true → e.on ≠ i := fun e he hb heq => by
        have h1 := hall e he hb
        have h0 := (mem_ready.1 hr).1
        rw [heq] at h1
        rcases Nat.lt_or_ge i listed.size with h' | h'
        · simp [h'] at h0 h1; rw [h0] at h1; cases h1
        · simp [Array.getElem?_eq_none h'] at h1
      have hap := hfree j oj hoj hji hjun hnot
      obtain ⟨ap1, ap2, ap3⟩ := Oper.apart_spec hap
      have h2 := wpOpIn_putR (hnd j oj hoj) hoj ap1 ap2 (fun cs b => hsel j oj cs b hoj) hQ (wpOpIn_off hoj h1)
      have hfree' : ∀ k ok, ops[k]? = some ok → k ≠ i → (listed.setIfInBounds j true).getD k true = false →
          (∀ e ∈ ok.after, Region.binds .any e = true → e.on ≠ i) → oi.apart ops ok = true := fun k ok hk hki hun hno => by
        refine hfree k ok hk hki ?_ hno
        by_cases hjk : j = k
        · subst hjk; exact hjun
        · rw [getD_set_ne true hjk] at hun; exact hun
      refine wpOpIn_mono (fun a' w' h3 => ?_) h2
      obtain ⟨⟨hS', hk⟩, u, ds, hoff⟩ := h3
      refine ⟨hS', ih (listed.setIfInBounds j true) a' w' hfree' (ready_mono hr (Ne.symm hji)) hS' ?_ (by rw [Array.setIfInBounds_comm _ _ hji]; exact hk)⟩
      have hev : (a'.put oi.dst v).eval = ((a.put oi.dst v).put oj.dst u).eval := by rw [hoff]; rfl
      refine ⟨fun w hw => ?_, fun w => ?_⟩
      · rw [← execOp_put oi (fun cs b => hsel i oi cs b hi) a' oi.dst v hself, hev, execOp_put oi (fun cs b => hsel i oi cs b hi) _ oj.dst u ap3, execOp_put oi (fun cs b => hsel i oi cs b hi) a oi.dst v hself]
        exact hy.run w hw
      · rw [← about_put oi w a' oi.dst v hself, hev, about_put oi w _ oj.dst u ap3, about_put oi w a oi.dst v hself]
        exact hy.about w
end
section
variable {C : Ctx} {F : Fence} {n : Nat} {ds : List Deferred} {ops : Array Oper} {fuel : Nat} {listed : Array Bool} {e : Env} {H H0 : List Blk} {M : Env → List Blk → Prop}
/-- In any order; the blocks H0 of the start stay as they are. -/
def WH (C : Ctx) (F : Fence) (n : Nat) (ds : List Deferred) (ops : Array Oper) (M : Env → List Blk → Prop) (H0 : List Blk) (fuel : Nat) (listed : Array Bool) (e : Env) (H : List Blk) : Prop :=
  (∀ w, St C H w → St C H0 w) ∧ ∀ w, St C H w → ∀ a, Rep n ds a e → anyS F 0 C.P ops (lift C n ds (OnlyQ M)) (St C H0) fuel listed a w
theorem WH_in (h : WH C F n ds ops M H0 fuel listed e H) : WA C F n ds ops (OnlyQ M) fuel listed e H := fun w hw a ha => anyS_in (h.2 w hw a ha)
/-- What the blocks of the start settle. -/
def YE (C : Ctx) (o : Oper) (e : Env) (H0 : List Blk) (c : Value) : Prop := (∀ w, St C H0 w → (execOp (ev e) o).run C.P w = .ok (.value c) w) ∧ ∀ w, o.about C.P w (ev e) = none
theorem WH_take (i : Nat) {o : Oper} {c : Value} (hnd : ops.all noDefer = true) (hi : ops[i]? = some o) (hs : Region.noSelect ops = true)
    (hf : (Region.free .any ops listed i && (Region.ready .any ops listed).contains i && dOk n o.dst && (match o.dst with | some d => !(o.looksAt ops).contains d | none => true)) = true) (hg : o.guard = none)
    (hp : YE C o e H0 c) (h : WH C F n ds ops M H0 fuel (listed.setIfInBounds i true) (updo e o.dst c) H) : WH C F n ds ops M H0 (fuel + 1) listed e H := by
  simp only [Bool.and_eq_true] at hf
  refine ⟨h.1, fun w hw a ha => ?_⟩
  refine anyS_first (fun j o ho => by rw [Array.all_eq_true] at hnd; have := hnd j (Array.getElem?_eq_some_iff.1 ho).1; rwa [(Array.getElem?_eq_some_iff.1 ho).2] at this) hi hg (fun j o cs b ho => Region.noSelect_spec hs j o cs b ho) (fun d hd => ?_) (fun c a w hq => ?_) fuel listed a w (fun j oj hj hne hun hno => Region.free_spec hi hf.1.1.1 j oj hj hne hun hno) (by simpa using hf.1.1.2) (h.1 w hw) ⟨fun w hw => ?_, fun w => ?_⟩ (h.2 w hw _ (ha.put o.dst hf.1.2))
  · have h4 := hf.2
    rw [hd] at h4
    simpa using h4
  · obtain ⟨_, _, _, _, hq⟩ := hq; exact hq.elim
  · rw [ha.eval]; exact hp.1 w hw
  · rw [ha.eval]; exact hp.2 w
theorem WH_op {i : Nat} {o : Oper} (hi : ops[i]? = some o) (h : WS C F n ds ops (NextQ M fun e H => WH C F n ds ops M H0 fuel (listed.setIfInBounds i true) e H) [o] e H) (w : World) (hw : St C H w) (a : Act) (ha : Rep n ds a e) :
    wpOpIn F 0 C.P ops (lift C n ds (OnlyQ M)) i (fun a' w' => St C H0 w' ∧ anyS F 0 C.P ops (lift C n ds (OnlyQ M)) (St C H0) fuel (listed.setIfInBounds i true) a' w') a w := by
  have h1 := h w hw a ha
  unfold wpOpIn
  rw [hi]
  simp only []
  have hk : ∀ a w, lift C n ds (NextQ M fun e H => WH C F n ds ops M H0 fuel (listed.setIfInBounds i true) e H) .normal a w → St C H0 w ∧ anyS F 0 C.P ops (lift C n ds (OnlyQ M)) (St C H0) fuel (listed.setIfInBounds i true) a w := fun a w ⟨e', H', g1, g2, g3⟩ => ⟨g3.1 w g2, g3.2 w g2 a g1⟩
  have hq : ∀ x, x ≠ .normal → ∀ a w, lift C n ds (NextQ M fun e H => WH C F n ds ops M H0 fuel (listed.setIfInBounds i true) e H) x a w → lift C n ds (OnlyQ M) x a w := fun x hx a w ⟨e', H', g1, g2, g3⟩ => ⟨e', H', g1, g2, by cases x <;> first | exact g3 | exact absurd rfl hx⟩
  unfold wpListIn at h1
  split at h1
  · rename_i hwt
    rw [if_pos hwt]
    exact wpIn_to hk hq h1
  · rename_i hwt
    rw [if_neg hwt]
    exact ⟨h1.1, hk _ _ h1.2⟩
theorem WH_all {rs : List Nat} (hne : rs ≠ []) (hr : Region.ready .any ops listed = rs) (h0 : ∀ w, St C H w → St C H0 w)
    (h : ∀ i ∈ rs, ∃ o, ops[i]? = some o ∧ WS C F n ds ops (NextQ M fun e H => WH C F n ds ops M H0 fuel (listed.setIfInBounds i true) e H) [o] e H) : WH C F n ds ops M H0 (fuel + 1) listed e H :=
  ⟨h0, fun w hw a ha => ⟨fun hn => absurd (hr.symm.trans hn) hne, fun j hj => by
    rw [hr] at hj
    obtain ⟨o, ho, hs⟩ := h j hj
    exact WH_op ho hs w hw a ha⟩⟩
theorem WH_step1 (i : Nat) {o : Oper} (hr : Region.ready .any ops listed = [i]) (h0 : ∀ w, St C H w → St C H0 w) (hi : ops[i]? = some o)
    (h : WS C F n ds ops (NextQ M fun e H => WH C F n ds ops M H0 fuel (listed.setIfInBounds i true) e H) [o] e H) : WH C F n ds ops M H0 (fuel + 1) listed e H :=
  WH_all (by simp) hr h0 fun k hk => by
    obtain rfl := List.mem_singleton.1 hk
    exact ⟨o, hi, h⟩
theorem WH_step2 (i j : Nat) {o p : Oper} (hr : Region.ready .any ops listed = [i, j]) (h0 : ∀ w, St C H w → St C H0 w) (hi : ops[i]? = some o) (hj : ops[j]? = some p)
    (h : WS C F n ds ops (NextQ M fun e H => WH C F n ds ops M H0 fuel (listed.setIfInBounds i true) e H) [o] e H)
    (h' : WS C F n ds ops (NextQ M fun e H => WH C F n ds ops M H0 fuel (listed.setIfInBounds j true) e H) [p] e H) : WH C F n ds ops M H0 (fuel + 1) listed e H :=
  WH_all (by simp) hr h0 fun k hk => by
    rcases List.mem_cons.1 hk with rfl | hk
    · exact ⟨o, hi, h⟩
    · obtain rfl := List.mem_singleton.1 hk
      exact ⟨p, hj, h'⟩
theorem WH_step3 (i j k : Nat) {o p q : Oper} (hr : Region.ready .any ops listed = [i, j, k]) (h0 : ∀ w, St C H w → St C H0 w) (hi : ops[i]? = some o) (hj : ops[j]? = some p) (hk : ops[k]? = some q)
    (h : WS C F n ds ops (NextQ M fun e H => WH C F n ds ops M H0 fuel (listed.setIfInBounds i true) e H) [o] e H)
    (h' : WS C F n ds ops (NextQ M fun e H => WH C F n ds ops M H0 fuel (listed.setIfInBounds j true) e H) [p] e H)
    (h'' : WS C F n ds ops (NextQ M fun e H => WH C F n ds ops M H0 fuel (listed.setIfInBounds k true) e H) [q] e H) : WH C F n ds ops M H0 (fuel + 1) listed e H :=
  WH_all (by simp) hr h0 fun t ht => by
    rcases List.mem_cons.1 ht with rfl | ht
    · exact ⟨o, hi, h⟩
    · rcases List.mem_cons.1 ht with rfl | ht
      · exact ⟨p, hj, h'⟩
      · obtain rfl := List.mem_singleton.1 ht
        exact ⟨q, hk, h''⟩
theorem WH_done (hr : Region.ready .any ops listed = []) (h0 : ∀ w, St C H w → St C H0 w) (h : M e H) : WH C F n ds ops M H0 fuel listed e H :=
  ⟨h0, fun w hw a ha => by
    cases fuel with
    | zero => exact ⟨hr, e, H, ha, hw, h⟩
    | succ k => exact ⟨fun _ => ⟨e, H, ha, hw, h⟩, by rw [hr]; simp⟩⟩
theorem W_tailH {Q : Exit → Env → List Blk → Prop} {id : Nat} {l : List Oper} (m : Nat) (hm : C.P.follows .mixedOrders = true) (M : Env → List Blk → Prop)
    (hph : (tailB l.toArray m && Nat.ble m l.length) = true)
    (hrest : ∀ ds e H, M e H → WS (C.at ds) F n ds l.toArray Q (l.drop m) e H) (hp : ∀ ds, WH (C.at ds) F n ds (l.take m).toArray M H m (Array.replicate m false) e H) :
    W C F n ds (.region id l.toArray true) Q e H := W_tailA m hm M hph hrest fun ds => WH_in (hp ds)
end
end Go.Eng

/- Operations that the memory of the start settles. No project text. -/
namespace Go.Eng
open Go.RowKit
section
variable {C : Ctx} {e : Env} {H : List Blk} {d : Option Tmp} {ty : TypeId} {pos : String} {af : Array Edge}
theorem ye_move {x : Operand} {c : Value} (h : ev e x = c) : YE C ⟨d, .move x, ty, pos, af, none⟩ e H c := ⟨fun w _ => by simp [execOp, h], fun w => rfl⟩
theorem ye_assign {x : Operand} {c : Value} (h : ev e x = c) : YE C ⟨d, .assign x, ty, pos, af, none⟩ e H c := ⟨fun w _ => by simp [execOp, h], fun w => rfl⟩
section
variable {x y : Operand} {t t' : TypeId} {m n : Int} {k : IntKind}
theorem ye_add (hx : ev e x = .int .i64 m) (hy : ev e y = .int .i64 n) (h : I64 (m + n)) : YE C ⟨d, .binOp .add t x y t', ty, pos, af, none⟩ e H (.int .i64 (m + n)) :=
  ⟨fun w _ => by simp [execOp, hx, hy, eqGuard, binOp, Op.intArith, wrapI h], fun w => rfl⟩
theorem ye_sub (hx : ev e x = .int .i64 m) (hy : ev e y = .int .i64 n) (h : I64 (m - n)) : YE C ⟨d, .binOp .sub t x y t', ty, pos, af, none⟩ e H (.int .i64 (m - n)) :=
  ⟨fun w _ => by simp [execOp, hx, hy, eqGuard, binOp, Op.intArith, wrapI h], fun w => rfl⟩
theorem ye_max {ats : Array TypeId} (hx : ev e x = .int k m) (hy : ev e y = .int k n) : YE C ⟨d, .call ⟨.builtin .max, #[x, y], ats⟩, ty, pos, af, none⟩ e H (.int k (max m n)) :=
  ⟨fun w _ => by
    have h : (if m < n then n else m) = max m n := by omega
    simp [execOp, resolve, invoke, builtin, Builtin.max_, Builtin.max2, hx, hy, h], fun w => rfl⟩
end
theorem ye_load1 {x : Operand} {T : TypeId} {b o : Nat} {v : Value} (hx : ev e x = .pointer (some ⟨b, o, none⟩)) (hT : ∀ w, (isAgg T).run C.P w = .ok false w) (hm : Mem C H b o [v]) :
    YE C ⟨d, .load T x, ty, pos, af, none⟩ e H v := ⟨fun w hw => by
  have := (hm w hw).1
  simp [execOp, hx, Instr.loadAt, Instr.sureAddr, loadVar, hT, this], fun w => rfl⟩
theorem ye_loadN {x : Operand} {T : TypeId} {b o n : Nat} {us : List Value} (hx : ev e x = .pointer (some ⟨b, o, none⟩)) (hT : ∀ w, (isAgg T).run C.P w = .ok true w) (hs : ∀ w, (sizeOf T).run C.P w = .ok n w)
    (hm : Mem C H b o us) (hn : us.length = n) : YE C ⟨d, .load T x, ty, pos, af, none⟩ e H (.agg us.toArray) := ⟨fun w hw => by
  subst hn
  have := run_loads (P := C.P) (i := 0) (acc := #[]) (by simpa using hm w hw)
  simp [execOp, hx, Instr.loadAt, Instr.sureAddr, loadVar, hT, hs, loadCells, this], fun w => rfl⟩
theorem ye_fieldAddr {x : Operand} {T : TypeId} {f b o o' : Nat} (hx : ev e x = .pointer (some ⟨b, o, none⟩)) (hf : ∀ b o w, (Instr.fieldAt T (.pointer (some ⟨b, o, none⟩)) f).run C.P w = .ok (.pointer (some ⟨b, o + o', none⟩)) w) :
    YE C ⟨d, .fieldAddr T x f, ty, pos, af, none⟩ e H (.pointer (some ⟨b, o + o', none⟩)) := ⟨fun w _ => by simp [execOp, hx, hf], fun w => rfl⟩
theorem ye_index {x i : Operand} {T E : TypeId} {b o len cap sz k : Nat} {n : Int} {kk : IntKind} (hx : ev e x = .slice (some ⟨b, o, none⟩) len cap) (hi : ev e i = .int kk n) (hn : n = (k : Int)) (hk : k < len)
    (hT : ∀ w, (underlying T).run C.P w = .ok (.slice E) w) (hE : ∀ w, (sizeOf E).run C.P w = .ok sz w) : YE C ⟨d, .indexAddr T x i, ty, pos, af, none⟩ e H (.pointer (some ⟨b, o + k * sz, none⟩)) := ⟨fun w _ => by
  subst hn
  have h3 : (⟨b, o, none⟩ : Addr).add (k * sz) = ⟨b, o + k * sz, none⟩ := by unfold Addr.add; split <;> simp_all
  simp [execOp, hx, hi, Instr.indexAt, asIntOf, hT, hE, h3]
  exact fun h => absurd h (by omega), fun w => rfl⟩
theorem ye_indexA {x i : Operand} {T E : TypeId} {b o len sz k : Nat} {n : Int} {kk : IntKind} (hx : ev e x = .pointer (some ⟨b, o, none⟩)) (hi : ev e i = .int kk n) (hn : n = (k : Int)) (hk : k < len)
    (hT : ∀ w, (underlying T).run C.P w = .ok (.array len E) w) (hE : ∀ w, (sizeOf E).run C.P w = .ok sz w) : YE C ⟨d, .indexAddr T x i, ty, pos, af, none⟩ e H (.pointer (some ⟨b, o + k * sz, none⟩)) := ⟨fun w _ => by
  subst hn
  have h3 : (⟨b, o, none⟩ : Addr).add (k * sz) = ⟨b, o + k * sz, none⟩ := by unfold Addr.add; split <;> simp_all
  simp [execOp, hx, hi, Instr.indexAt, Instr.sureAddr, asIntOf, hT, hE, h3]
  exact fun h => absurd h (by omega), fun w => rfl⟩
theorem ye_buildL {T : TypeId} {parts : List (Nat × Operand)} {ps : List (Nat × Value)} {c : Value} (hb : ∀ w, (Instr.build T ps.toArray).run C.P w = .ok c w) (hp : parts.map (fun x => (x.1, ev e x.2)) = ps) :
    YE C ⟨d, .build T parts.toArray, ty, pos, af, none⟩ e H c := ⟨fun w _ => by
  have : parts.toArray.map (fun x => (x.1, ev e x.2)) = ps.toArray := by subst hp; simp
  simp [execOp, this, hb], fun w => rfl⟩
end
end Go.Eng

/- What a map of ways tells; pure. -/
namespace Go.Proofs.YtjekjehgmljbgaaDoor.T
open Go.RowKit Go.Proofs Go.Eng
set_option linter.unusedVariables false

open Classical in
/-- The best way to some content, if there is one. -/
noncomputable def Cn.bestO (c : Cn) (y : Co) : Option Wy := if h : ∃ w, c.Best w y then some h.choose else none
theorem Cn.bestO_iff {c : Cn} {y : Co} {w : Wy} : c.bestO y = some w ↔ c.Best w y := by
  unfold Cn.bestO
  constructor
  · intro h
    split at h
    · rename_i hx
      cases h
      exact hx.choose_spec
    · cases h
  · intro h
    have hx : ∃ w, c.Best w y := ⟨w, h⟩
    rw [dif_pos hx, hx.choose_spec.uniq h]
noncomputable def Cn.ltO (c : Cn) (n : Nat) (y : Co) : Option Wy := (c.bestO y).filter fun w => decide (w.l.length < n)
noncomputable def Cn.eqO (c : Cn) (n : Nat) (y : Co) : Option Wy := (c.bestO y).filter fun w => decide (w.l.length = n)
theorem Cn.ltO_iff {c : Cn} {n : Nat} {y : Co} {w : Wy} : c.ltO n y = some w ↔ c.Best w y ∧ w.l.length < n := by
  unfold Cn.ltO
  rw [Option.filter_eq_some_iff, Cn.bestO_iff, decide_eq_true_eq]
theorem Cn.eqO_iff {c : Cn} {n : Nat} {y : Co} {w : Wy} : c.eqO n y = some w ↔ c.Lv n w y := by
  unfold Cn.eqO
  rw [Option.filter_eq_some_iff, Cn.bestO_iff, decide_eq_true_eq]
  rfl
theorem Cn.ltO_zero (c : Cn) (y : Co) : c.ltO 0 y = none := by
  cases h : c.ltO 0 y with
  | none => rfl
  | some w => exact absurd (Cn.ltO_iff.1 h).2 (Nat.not_lt_zero _)
theorem Cn.ltO_succ (c : Cn) (n : Nat) (y : Co) : c.ltO (n + 1) y = (c.eqO n y).or (c.ltO n y) := by
  unfold Cn.ltO Cn.eqO
  cases c.bestO y with
  | none => rfl
  | some w =>
    simp only [Option.filter_some]
    by_cases h : w.l.length = n
    · simp [h]
    · by_cases h2 : w.l.length < n
      · simp [h, h2, Nat.lt_succ_of_lt h2]
      · have : ¬ w.l.length < n + 1 := by omega
        simp [h, h2, this]
theorem Cn.ltO_kn {c : Cn} {n : Nat} {y : Co} : (c.ltO (n + 1) y).isSome = true ↔ c.Kn n y := by
  rw [Option.isSome_iff_exists]
  constructor
  · rintro ⟨w, h⟩; exact ⟨w, (Cn.ltO_iff.1 h).1, by have := (Cn.ltO_iff.1 h).2; omega⟩
  · rintro ⟨w, h1, h2⟩; exact ⟨w, Cn.ltO_iff.2 ⟨h1, by omega⟩⟩
theorem Cn.ltO_end {c : Cn} {n : Nat} (h : ∀ w y, ¬ c.Lv n w y) (y : Co) : c.ltO n y = c.bestO y := by
  unfold Cn.ltO
  cases hb : c.bestO y with
  | none => rfl
  | some w =>
    have := Cn.no_more h (Cn.bestO_iff.1 hb)
    simp [this]
/-- A way that can be read wherever some blocks lie. -/
def Wl.RdH (HH : List Blk) (x : Wl) : Prop := ∀ (C : Ctx) (H : List Blk) (w : World), HH.Sublist H → St C H w → x.Rd w
theorem Wl.RdH.mono {HH HH' : List Blk} {x : Wl} (h : x.RdH HH) (hs : HH.Sublist HH') : x.RdH HH' := fun C H w h2 hw => h C H w (hs.trans h2) hw
theorem Wl.RdH.z (HH : List Blk) : Wl.z.RdH HH := fun C H w _ _ => ⟨Rws.nil _ _ _, Nat.zero_le _⟩
theorem Wl.RdH.new {w : Wy} {a : Option Addr} {k : Nat} {Hn HH : List Blk} (h : NewRow 26 2 w.l.length (rowOf Po.cells (fun k => w.l.getD k Po.z) w.l.length) (.slice a w.l.length k) Hn) (hs : Hn.Sublist HH) (hn : w.l.length ≤ 1000000) : Wl.RdH HH ⟨w, a, k⟩ :=
  fun C H w' h2 hw => ⟨NewRow.rws po_len h rfl (hs.trans h2) w' hw, hn⟩
/-- What a map tells of a content, and what is so. -/
def TabE (HH : List Blk) : Option Value → Option Wy → Prop
  | none, none => True
  | some v, some w => ∃ x : Wl, v = x.v ∧ x.w = w ∧ x.RdH HH
  | _, _ => False
def Tab (HH : List Blk) (l : List (EntK Co)) (look : Co → Option Wy) : Prop := ∀ k, TabE HH (lookK k l) (look k)
theorem TabE.mono {HH HH' : List Blk} (hs : HH.Sublist HH') : ∀ {a : Option Value} {b : Option Wy}, TabE HH a b → TabE HH' a b
  | none, none, _ => trivial
  | some v, some w, ⟨x, h1, h2, h3⟩ => ⟨x, h1, h2, h3.mono hs⟩
  | none, some _, h => h.elim
  | some _, none, h => h.elim
theorem Tab.mono {HH HH' : List Blk} {l : List (EntK Co)} {look : Co → Option Wy} (h : Tab HH l look) (hs : HH.Sublist HH') : Tab HH' l look := fun k => (h k).mono hs
theorem TabE.or {HH : List Blk} : ∀ {a a' : Option Value} {b b' : Option Wy}, TabE HH a b → TabE HH a' b' → TabE HH (a.or a') (b.or b')
  | none, _, none, _, _, h => h
  | some _, _, some _, _, h, _ => h
  | none, _, some _, _, h, _ => h.elim
  | some _, _, none, _, h, _ => h.elim
theorem Tab.nil (HH : List Blk) {look : Co → Option Wy} (h : ∀ k, look k = none) : Tab HH [] look := fun k => by rw [lookK_nil, h]; trivial
theorem Tab.put {HH : List Blk} {l : List (EntK Co)} {look : Co → Option Wy} (h : Tab HH l look) (k : Co) (x : Wl) (c : Nat) (hx : x.RdH HH) : Tab HH (putL k x.v l c) (fun y => if y = k then some x.w else look y) := fun y => by
  rw [lookK_put]
  by_cases hy : y = k
  · simp only [if_pos hy]; exact ⟨x, rfl, rfl, hx⟩
  · simp only [if_neg hy]; exact h y
theorem Tab.mem {HH : List Blk} {l : List (EntK Co)} {c : Nat} {look : Co → Option Wy} (h : Tab HH l look) (hg : GoodM l c) {y : EntK Co} (hy : y ∈ l) : ∃ x : Wl, y.2.1 = x.v ∧ look y.1 = some x.w ∧ x.RdH HH := by
  have h1 := h y.1
  rw [lookK_mem hg.keys hy] at h1
  cases hl : look y.1 with
  | none => rw [hl] at h1; exact h1.elim
  | some w =>
    rw [hl] at h1
    obtain ⟨x, e1, e2, e3⟩ := h1
    exact ⟨x, e1, by rw [e2], e3⟩
theorem Tab.has {HH : List Blk} {l : List (EntK Co)} {look : Co → Option Wy} (h : Tab HH l look) {k : Co} {w : Wy} (hk : look k = some w) : ∃ y ∈ l, y.1 = k := by
  have h1 := h k
  rw [hk] at h1
  cases hl : lookK k l with
  | none => rw [hl] at h1; exact h1.elim
  | some v =>
    obtain ⟨y, h2, h3, _⟩ := lookK_some hl
    exact ⟨y, h2, h3⟩
theorem Tab.look {HH : List Blk} {l : List (EntK Co)} {look : Co → Option Wy} (h : Tab HH l look) (k : Co) : ∃ (x : Wl), lookV Wl.z.v (lookK k l) = .tuple #[x.v, .bool (look k).isSome] ∧ x.RdH HH ∧ ∀ w, look k = some w → x.w = w := by
  have h1 := h k
  cases hl : lookK k l with
  | none =>
    cases hk : look k with
    | none => exact ⟨Wl.z, rfl, Wl.RdH.z HH, fun w h => by cases h⟩
    | some w => rw [hl, hk] at h1; exact h1.elim
  | some v =>
    cases hk : look k with
    | none => rw [hl, hk] at h1; exact h1.elim
    | some w =>
      rw [hl, hk] at h1
      obtain ⟨x, rfl, rfl, h3⟩ := h1
      exact ⟨x, rfl, h3, fun w h => by cases h; rfl⟩
end Go.Proofs.YtjekjehgmljbgaaDoor.T

/- How all that can be reached is found: the program's walk. -/
namespace Go.Proofs.YtjekjehgmljbgaaDoor.T
open Go.RowKit Go.Proofs Go.Eng
set_option maxRecDepth 100000
set_option maxHeartbeats 1000000
set_option linter.unusedVariables false
set_option linter.unusedSimpArgs false

theorem bd112  : ∀ w, (Instr.build 112 #[]).run Tryd.prog w = .ok (.agg #[.slice none 0 0, .int .i64 0]) w := fun w => by kernel_rfl
theorem bd112_0_1 {x0a : Option Addr} {x0l x0c : Nat} {x1 : Int} : ∀ w, (Instr.build 112 #[(0, .slice x0a x0l x0c), (1, .int .i64 x1)]).run Tryd.prog w = .ok (.agg #[.slice x0a x0l x0c, .int .i64 x1]) w := fun w => by kernel_rfl
theorem bs162_2_0_1 {x0_0a : Option Addr} {x0_0l x0_0c : Nat} {x0_1 : Int} {x1_0a : Option Addr} {x1_0l x1_0c : Nat} {x1_1 : Int} : ∀ w, (Instr.buildSlice 162 2 #[(0, .agg #[.slice x0_0a x0_0l x0_0c, .int .i64 x0_1]), (1, .agg #[.slice x1_0a x1_0l x1_0c, .int .i64 x1_1])]).run Tryd.prog w = .ok (.slice (some ⟨w.heap.size, 0, none⟩) 2 2) (w.alloc (CB [.slice x0_0a x0_0l x0_0c, .int .i64 x0_1, .slice x1_0a x1_0l x1_0c, .int .i64 x1_1] 112)) := fun w => by kernel_rfl
theorem bs27_1_0 {x0_0 : Int} {x0_1 : Int} : ∀ w, (Instr.buildSlice 27 1 #[(0, .agg #[.int .i64 x0_0, .int .i64 x0_1])]).run Tryd.prog w = .ok (.slice (some ⟨w.heap.size, 0, none⟩) 1 1) (w.alloc (CB [.int .i64 x0_0, .int .i64 x0_1] 26)) := fun w => by kernel_rfl

/-- Some ways of the next level, and the least of them. -/
structure Cn.Stp (c : Cn) (n : Nat) (P : Co → Wy → Prop) (look : Co → Option Wy) : Prop where
  min : ∀ y, IsMin (P y) (look y)
  snd : ∀ y v, P y v → ¬ c.Kn n y ∧ ∃ x w p, c.Lv n w x ∧ c.pE x p = 0 ∧ y = c.stp x p ∧ v = c.nx w x p
theorem Cn.Stp.nil (c : Cn) (n : Nat) : c.Stp n (fun _ _ => False) (fun _ => none) := ⟨fun y v h => h, fun y v h => h.elim⟩
theorem Cn.Stp.put {c : Cn} {n : Nat} {P : Co → Wy → Prop} {look : Co → Option Wy} (h : c.Stp n P look) {x : Co} {w : Wy} {p : Po} (hw : c.Lv n w x) (hp : c.pE x p = 0) (hk : ¬ c.Kn n (c.stp x p)) :
    c.Stp n (fun y v => P y v ∨ (y = c.stp x p ∧ v = c.nx w x p)) (fun y => if y = c.stp x p then some (pickW (look (c.stp x p)) (c.nx w x p)) else look y) := by
  refine ⟨fun y => ?_, fun y v hv => ?_⟩
  · by_cases hy : y = c.stp x p
    · subst hy
      simp only [if_true, true_and]
      exact (h.min _).step _
    · simp only [if_neg hy, hy, false_and, or_false]
      exact h.min y
  · rcases hv with hv | ⟨rfl, rfl⟩
    · exact h.snd y v hv
    · exact ⟨hk, x, w, p, hw, hp, rfl, rfl⟩
/-- All ways on from some content are among these. -/
def Cn.Dn (c : Cn) (n : Nat) (P : Co → Wy → Prop) (x : Co) (w : Wy) (k : Nat) : Prop := ∀ j, j < k → ¬ c.Kn n (c.stp x ((c.ps x).getD j Po.z)) → P (c.stp x ((c.ps x).getD j Po.z)) (c.nx w x ((c.ps x).getD j Po.z))
theorem Cn.Stp.level {c : Cn} {n : Nat} (hn : c.n ≤ 3) {P : Co → Wy → Prop} {look : Co → Option Wy} (h : c.Stp n P look) (hd : ∀ x w, c.Lv n w x → c.Dn n P x w (c.ps x).length) (y : Co) : look y = c.eqO (n + 1) y := by
  have hl := Cn.level hn h.min h.snd fun x w p hw hp hk => by
    obtain ⟨j, hj, rfl⟩ := Cn.ps_mem hp
    exact hd x w hw j hj hk
  cases he : c.eqO (n + 1) y with
  | some w => exact (hl y w).2 (Cn.eqO_iff.1 he)
  | none =>
    cases hk : look y with
    | none => rfl
    | some w => rw [Cn.eqO_iff.2 ((hl y w).1 hk)] at he; cases he
/-- The open map while it is walked: what is left of it was not seen, what was taken out is done. -/
structure OpenM (c : Cn) (n : Nat) (P : Co → Wy → Prop) (HX : List Blk) (lo : List (EntK Co)) (co : Nat) (seen : Array Nat) : Prop where
  good : GoodM lo co
  ent : ∀ y ∈ lo, ∃ x : Wl, y.2.1 = x.v ∧ x.RdH HX ∧ c.Lv n x.w y.1
  un : ∀ y ∈ lo, y.2.2 ∉ seen
  dn : ∀ x w, c.Lv n w x → (∃ y ∈ lo, y.1 = x) ∨ c.Dn n P x w (c.ps x).length
theorem OpenM.start {c : Cn} {n : Nat} {P : Co → Wy → Prop} {HX : List Blk} {lo : List (EntK Co)} {co : Nat} (hg : GoodM lo co) (ht : Tab HX lo (c.eqO n)) : OpenM c n P HX lo co #[] := by
  refine ⟨hg, fun y hy => ?_, fun y hy => by simp, fun x w hw => .inl (ht.has (Cn.eqO_iff.2 hw))⟩
  obtain ⟨x, h1, h2, h3⟩ := ht.mem hg hy
  exact ⟨x, h1, h3, Cn.eqO_iff.1 h2⟩
theorem OpenM.step {c : Cn} {n : Nat} {P P' : Co → Wy → Prop} {HX HX' : List Blk} {lo : List (EntK Co)} {co : Nat} {seen : Array Nat} (h : OpenM c n P HX lo co seen) (hP : ∀ y v, P y v → P' y v) (hs : HX.Sublist HX') {k : Co} {x : Wl} {bn : Nat} (hy : (k, x.v, bn) ∈ lo)
    (hd : ∀ w, c.Lv n w k → c.Dn n P' k w (c.ps k).length) : OpenM c n P' HX' (delK k lo) co (seen.push bn) := by
  refine ⟨h.good.del k, fun y hm => ?_, fun y hm => ?_, fun z w hw => ?_⟩
  · obtain ⟨h1, _⟩ := (mem_delK h.good.keys).1 hm
    obtain ⟨x, e1, e2, e3⟩ := h.ent y h1
    exact ⟨x, e1, e2.mono hs, e3⟩
  · obtain ⟨h1, h2⟩ := (mem_delK h.good.keys).1 hm
    rw [Array.mem_push]
    rintro (h3 | h3)
    · exact h.un y h1 h3
    · have : ∀ {l : List (EntK Co)}, (l.map (·.2.2)).Nodup → y ∈ l → (k, x.v, bn) ∈ l → y = (k, x.v, bn) := by
        intro l
        induction l with
        | nil => intro _ h; cases h
        | cons z l ih =>
          intro hn a1 a2
          rw [List.map_cons, List.nodup_cons] at hn
          rcases List.mem_cons.1 a1 with e1 | e1
          · rcases List.mem_cons.1 a2 with e2 | e2
            · rw [e1, e2]
            · exact absurd (List.mem_map.2 ⟨_, e2, by rw [← e1]; exact h3.symm⟩) hn.1
          · rcases List.mem_cons.1 a2 with e2 | e2
            · exact absurd (List.mem_map.2 ⟨_, e1, by rw [← e2]; exact h3⟩) hn.1
            · exact ih hn.2 e1 e2
      have he := this h.good.born h1 hy
      exact h2 (by rw [he])
  · rcases h.dn z w hw with ⟨y, h1, rfl⟩ | h1
    · by_cases hk : y.1 = k
      · right
        rw [hk] at hw ⊢
        exact hd w hw
      · exact .inl ⟨y, (mem_delK h.good.keys).2 ⟨h1, hk⟩, rfl⟩
    · exact .inr fun j hj hn => hP _ _ (h1 j hj hn)
theorem OpenM.all {c : Cn} {n : Nat} {P : Co → Wy → Prop} {HX : List Blk} {lo : List (EntK Co)} {co : Nat} {seen : Array Nat} (h : OpenM c n P HX lo co seen) (hov : ∀ x ∈ lo, x.2.2 ∈ seen) (x : Co) (w : Wy) (hw : c.Lv n w x) : c.Dn n P x w (c.ps x).length := by
  rcases h.dn x w hw with ⟨y, h1, _⟩ | h1
  · exact absurd (hov y h1) (h.un y h1)
  · exact h1
theorem HSub.swap3 {A F X R T : List Blk} (h : (F ++ (X ++ (R ++ T))).Sublist A) : HSub A (F ++ (X ++ (T ++ R))) := fun N w hA => (HSub.sub h N w hA).perm ((List.perm_append_comm.append_left X).append_left F)
theorem Cn.nx_len (c : Cn) (w : Wy) (x : Co) (p : Po) : (c.nx w x p).l.length = w.l.length + 1 := by unfold Cn.nx; simp
theorem Cn.nx_row (c : Cn) (w : Wy) (x : Co) (p : Po) : rowOf Po.cells (fun k => (c.nx w x p).l.getD k Po.z) (c.nx w x p).l.length = rowOf Po.cells (fun k => w.l.getD k Po.z) w.l.length ++ p.cells := by
  rw [c.nx_len, rowOf_succ]
  unfold Cn.nx
  congr 1
  · exact rowOf_congr _ fun k hk => by simp [List.getD_eq_getElem?_getD, List.getElem?_append_left hk]
  · simp [List.getD_eq_getElem?_getD]
theorem Wls.two {C : Ctx} {H : List Blk} {b T : Nat} {x y : Wl} (i : Nat) (hi : H[i]? = some (b, CB [.slice x.a x.w.l.length x.k, .int .i64 x.w.back, .slice y.a y.w.l.length y.k, .int .i64 y.w.back] T)) (w : World) (hw : St C H w) : Wls w (some ⟨b, 0, none⟩) 2 2 [x, y] := by
  refine ⟨rfl, Nat.le_refl _, fun k hk => ⟨b, 0, rfl, ?_⟩⟩
  have hb := hw.get hi
  obtain rfl | rfl : k = 0 ∨ k = 1 := by omega
  · exact at_block (rest := [.slice y.a y.w.l.length y.k, .int .i64 y.w.back]) hb rfl
  · exact at_block (rest := []) hb rfl
theorem pick_min {r : Option Wy} {o n x : Wl} (hr : r = some o.w) (hx : x ∈ [o, n]) (h : ∀ y ∈ [o, n], y.w.lt x.w = false) : x.w = pickW r n.w := by
  subst hr
  unfold pickW
  simp only
  have h1 := h o (by simp)
  have h2 := h n (by simp)
  simp only [List.mem_cons, List.not_mem_nil, or_false] at hx
  by_cases hl : n.w.lt o.w = true
  · rw [if_pos hl]
    rcases hx with rfl | rfl
    · rw [hl] at h2; cases h2
    · rfl
  · rw [if_neg hl]
    rcases hx with rfl | rfl
    · rfl
    · exact Wy.tot (by simpa using hl) h1
theorem delK_lt {k : Co} {lo : List (EntK Co)} {v : Value} {bn : Nat} (hy : (k, v, bn) ∈ lo) : (delK k lo).length < lo.length := by
  unfold delK
  rw [List.length_eraseP_of_mem hy (by simp)]
  have := List.length_pos_of_mem hy
  omega
theorem ways_any (c : Cn) (a1 : Option Addr) (p1 : Nat) (a2 : Option Addr) (p2 : Nat) (w : World) (hok : c.Ok) (hn : c.n ≤ 1000000) (hm : c.inn.length ≤ 1000000) (h1 : Ints w a1 c.n p1 c.sz) (h2 : Ints w a2 c.inn.length p2 c.inn) : Ct Tryd.prog 59 #[.agg #[.slice a1 c.n p1, .slice a2 c.inn.length p2, .int .i64 c.st]] w fun v Hn => ∃ mk l ck HX, v = .map (some mk) ∧ Hn = (mk, MK encC l ck) :: HX ∧ GoodM l ck ∧ Tab HX l c.bestO := by
  have hn3 := hok.n3
  have hF := wide_wide
  refine Ct_start (args := [_]) Tryd.func59 (by rfl) Tryd.ntmps59 (by rfl) ?_
  refine W_seq ?_
  refine W_region_lit (fun ds => ?_)
  refine WS_new hF (by rfl) (y_box (by rfl)) (fun b1 => ?_)
  refine WS_det hF (by rfl) (y_assign (c := .map _) (by rfl)) ?_
  refine WS_nil ?_
  refine Then_normal ?_
  refine W_seq ?_
  refine W_region_lit (fun ds => ?_)
  refine WS_gen hF (by rfl) (y_makeMapK encC) ?_
  rintro _ _ ⟨mk, rfl, rfl⟩
  refine WS_new hF (by rfl) (y_alloc Tryd.zeroValue115 (by rfl)) (fun bk => ?_)
  refine WS_store hF (i := 0) (by rfl) (by rfl) Tryd.sizeOf115 (by rfl) (by rfl) (by rfl) (by first | decide | exact Nat.le_of_ble_eq_true rfl | simp) ?_
  refine WS_nil ?_
  refine Then_normal ?_
  refine W_seq ?_
  refine W_region_lit (fun ds => ?_)
  refine WS_gen hF (by rfl) (y_makeMapK encC) ?_
  rintro _ _ ⟨mo, rfl, rfl⟩
  refine WS_det hF (by rfl) (y_loadN (by rfl) Tryd.isAgg96 Tryd.sizeOf96 (Mem.own (us := [.slice _ _ _, .slice _ _ _, .int .i64 _]) 3 (by rfl) (by rfl)) (by rfl)) ?_
  refine WS_det hF (by rfl) (y_callL (by rfl) (by rfl) Tryd.call50 (fun w hw => bstart_any c a1 p1 a2 p2 w hok hn hm (h1.st w hw) (h2.st w hw))) ?_
  refine WS_det hF (by rfl) (y_buildL bd112 (by rfl)) ?_
  refine WS_insertK hF (enc := encC) (k := c.co) (u := Wl.z.v) (i := 0) keyC (by rfl) (by rfl) (by rfl) Tryd.underlying115 (by rfl) ?_
  refine WS_det hF (by rfl) (y_move (c := .map _) (by rfl)) ?_
  have hT0 : Tab [] (putL c.co Wl.z.v [] 0) (c.eqO 0) := fun y => by
    have h := (Tab.nil (look := fun _ => none) [] fun _ => rfl).put c.co Wl.z 0 (Wl.RdH.z _) y
    by_cases hy : y = c.co
    · simp only [if_pos hy] at h
      rw [show c.eqO 0 y = some Wl.z.w from Cn.eqO_iff.2 (Cn.lv_zero.2 ⟨rfl, hy⟩)]; exact h
    · simp only [if_neg hy] at h
      have : c.eqO 0 y = none := by
        cases he : c.eqO 0 y with
        | none => rfl
        | some w => exact absurd (Cn.lv_zero.1 (Cn.eqO_iff.1 he)).2 hy
      rw [this]; exact h
  refine WS_pull (mo, _) (by repeat (first | exact Pul.base0 | exact Pul.base | apply Pul.cons | apply Pul.app)) ?_
  refine WS_pull (mk, _) (by repeat (first | exact Pul.base0 | exact Pul.base | apply Pul.cons | apply Pul.app)) ?_
  refine WS_det hF (by rfl) (y_assign (c := .map _) (by rfl)) ?_
  refine WS_nil ?_
  refine Then_normal ?_
  refine W_seq ?_
  refine W_block ?_
  refine W_loop (γ := Nat × Nat × List (EntK Co) × Nat × List (EntK Co) × Nat × List Blk) (fun q => q.1 ≤ 9261 ∧ GoodM q.2.2.1 q.2.2.2.1 ∧ GoodM q.2.2.2.2.1 q.2.2.2.2.2.1 ∧ Tab q.2.2.2.2.2.2 q.2.2.1 (c.ltO q.1) ∧ Tab q.2.2.2.2.2.2 q.2.2.2.2.1 (c.eqO q.1)) (fun q => [(1, .pointer (some ⟨b1, 0, none⟩)), (3, .pointer (some ⟨bk, 0, none⟩)), (4, .map (some q.2.1))]) (fun q => (mk, MK encC q.2.2.1 q.2.2.2.1) :: (q.2.1, MK encC q.2.2.2.2.1 q.2.2.2.2.2.1) :: (bk, CB [.map (some mk)] 115) :: (b1, CB [.slice a1 c.n p1, .slice a2 c.inn.length p2, .int .i64 c.st] 96) :: q.2.2.2.2.2.2) (fun q => 9262 - q.1) ((0, mo, [], 0, putL c.co Wl.z.v [] 0, putC c.co [] 0, [])) ⟨Nat.zero_le _, GoodM.nil, GoodM.nil.put _ _, Tab.nil _ c.ltO_zero, hT0⟩ (by repeat (first | exact trivial | refine ⟨by rfl, ?_⟩)) (sbA) ?_
  rintro ⟨n, mo, lk, ck, lo, co, HX⟩ e ⟨hn9, hgk, hgo, hTk, hTo⟩
  refine W_seq ?_
  refine W_seq ?_
  refine W_region_lit (fun ds => ?_)
  refine WS_det hF (by rfl) (y_move (c := .map _) (by rfl)) ?_
  refine WS_det hF (by rfl) (y_lenK (enc := encC) (i := 1) (by rfl) Tryd.underlying115 (by rfl)) ?_
  refine WS_det hF (by rfl) (y_gtr (by rfl) (by rfl)) ?_
  refine WS_nil ?_
  refine Then_normal ?_
  refine W_cond (by rfl) (fun c3 => ?_) (fun c3 => ?_)
  ·
    try simp only [Bool.not_eq_true', Bool.not_eq_false', decide_eq_true_eq, decide_eq_false_iff_not, ne_eq, Classical.not_not, Int.not_lt, Int.not_le] at c3
    have hn8 : n ≤ 9260 := by
      cases lo with
      | nil => simp at c3
      | cons y lo =>
        obtain ⟨x, _, h2, _⟩ := hTo.mem hgo List.mem_cons_self
        have h3 := Cn.eqO_iff.1 h2
        have := h3.1.len hok
        have := h3.2
        omega
    have hvo : ∀ y ∈ lo, ∃ x : Wl, y.2.1 = x.v := fun y hy => by obtain ⟨x, h, _⟩ := hTo.mem hgo hy; exact ⟨x, h⟩
    refine W_skip ?_
    refine Then_normal ?_
    refine W_block ?_
    refine W_seq ?_
    refine W_region_lit (fun ds => ?_)
    refine WS_det hF (by rfl) (y_load1 (by rfl) Tryd.isAgg115 (Mem.own1 2 (by rfl) (by rfl))) ?_
    refine WS_det hF (by rfl) (y_move (c := .map _) (by rfl)) ?_
    refine WS_callS hF (by rfl) (by rfl) (by rfl) Tryd.call99 (copy_cs _ _ _ mk mo lk lo ck co _ hgk hgo hvo) ?_
    rintro _ _ ⟨rfl, lk2, ck2, hgk2, hlk2, rfl⟩
    have hTk2 : Tab HX lk2 (c.ltO (n + 1)) := fun k => by rw [hlk2, c.ltO_succ]; exact (hTo k).or (hTk k)
    refine WS_nil ?_
    refine Then_normal ?_
    refine W_seq ?_
    refine W_region_lit (fun ds => ?_)
    refine WS_gen hF (by rfl) (y_makeMapK encC) ?_
    rintro _ _ ⟨mm, rfl, rfl⟩
    refine WS_new hF (by rfl) (y_alloc Tryd.zeroValue115 (by rfl)) (fun b5 => ?_)
    refine WS_store hF (i := 0) (by rfl) (by rfl) Tryd.sizeOf115 (by rfl) (by rfl) (by rfl) (by first | decide | exact Nat.le_of_ble_eq_true rfl | simp) ?_
    refine WS_nil ?_
    refine Then_normal ?_
    refine W_seq ?_
    refine W_seq ?_
    refine W_region_lit (fun ds => ?_)
    refine WS_pull (mk, _) (by repeat (first | exact Pul.base0 | exact Pul.base | apply Pul.cons | apply Pul.app)) ?_
    refine WS_pull (b5, _) (by repeat (first | exact Pul.base0 | exact Pul.base | apply Pul.cons | apply Pul.app)) ?_
    refine WS_det hF (by rfl) (y_move (c := .map _) (by rfl)) ?_
    refine WS_new hF (by rfl) (y_rangeK (enc := encC) (i := 3) (by rfl) Tryd.underlying115 (by rfl)) (fun it => ?_)
    refine WS_nil ?_
    refine Then_normal ?_
    refine W_block ?_
    refine W_loop (γ := List (EntK Co) × Array Nat × Nat × List (EntK Co) × Nat × (Co → Wy → Prop) × (Co → Option Wy) × List Blk) (fun q => OpenM c n q.2.2.2.2.2.1 q.2.2.2.2.2.2.2 q.1 co q.2.1 ∧ co ≤ q.2.2.1 ∧ GoodM q.2.2.2.1 q.2.2.2.2.1 ∧ Tab q.2.2.2.2.2.2.2 lk2 (c.ltO (n + 1)) ∧ Tab q.2.2.2.2.2.2.2 q.2.2.2.1 q.2.2.2.2.2.2.1 ∧ c.Stp n q.2.2.2.2.2.1 q.2.2.2.2.2.2.1) (fun q => [(1, .pointer (some ⟨b1, 0, none⟩)), (3, .pointer (some ⟨bk, 0, none⟩)), (4, .map (some mo)), (5, .pointer (some ⟨b5, 0, none⟩)), (29, .pointer (some ⟨it, 0, none⟩))]) (fun q => (it, .mapIter (some mo) co q.2.1 q.2.2.1) :: (b5, CB [.map (some mm)] 115) :: (mk, MK encC lk2 ck2) :: (mm, MK encC q.2.2.2.1 q.2.2.2.2.1) :: (mo, MK encC q.1 co) :: (bk, CB [.map (some mk)] 115) :: (b1, CB [.slice a1 c.n p1, .slice a2 c.inn.length p2, .int .i64 c.st] 96) :: q.2.2.2.2.2.2.2) (fun q => q.1.length) ((lo, #[], co, [], 0, (fun _ _ => False), (fun _ => none), HX)) ⟨OpenM.start hgo hTo, Nat.le_refl _, GoodM.nil, hTk2, Tab.nil _ fun _ => rfl, Cn.Stp.nil c n⟩ (by repeat (first | exact trivial | refine ⟨by rfl, ?_⟩)) (sbA) ?_
    rintro ⟨lo1, seen, c0, lm, cm, P, lookM, HX1⟩ e ⟨hO, hc0, hgm, hTk3, hTm, hSt⟩
    refine W_seq ?_
    refine W_region_lit (fun ds => ?_)
    refine WS_nextK hF (enc := encC) (i := 0) (j := 4) (by rfl) (by rfl) (by rfl) (by rfl) hO.good.old hc0 (fun hov => ?_) (fun y hy hns => ?_)
    ·
      have hTm : Tab HX1 lm (c.eqO (n + 1)) := fun y => by rw [← hSt.level hn3 (hO.all hov) y]; exact hTm y
      refine WS_det hF (by rfl) (y_extract (c := .bool _) (by rfl) (by rfl)) ?_
      refine WS_nil ?_
      refine Then_normal ?_
      refine W_seq ?_
      refine W_cond (by rfl) (fun c7 => ?_) (fun c7 => ?_)
      · cases c7
      ·
        try simp only [Bool.not_eq_true', Bool.not_eq_false', decide_eq_true_eq, decide_eq_false_iff_not, ne_eq, Classical.not_not, Int.not_lt, Int.not_le] at c7
        refine W_exit ?_
        refine Then_exit ?_
        refine Loop_exit ?_
        refine InB_same ?_
        refine Then_normal ?_
        refine W_region_lit (fun ds => ?_)
        refine WS_det hF (by rfl) (y_load1 (by rfl) Tryd.isAgg115 (Mem.own1 1 (by rfl) (by rfl))) ?_
        refine WS_det hF (by rfl) (y_assign (c := .map _) (by rfl)) ?_
        refine WS_nil ?_
        refine InB_normal ?_
        exact Loop_next (n + 1, mm, lk2, ck2, lm, cm, HX1) ⟨by simp only; omega, hgk2, hgm, hTk3, hTm⟩ (by repeat (first | exact trivial | refine ⟨by rfl, ?_⟩)) sbA (by simp only; omega)
    ·
      obtain ⟨xk, v, bn⟩ := y
      obtain ⟨x, hvx, hxr, hxl⟩ := hO.ent _ hy
      change v = x.v at hvx
      subst hvx
      change c.Lv n x.w xk at hxl
      have hkin := (hxl.1.way.in hok).1
      refine WS_det hF (by rfl) (y_extract (c := .bool _) (by rfl) (by rfl)) ?_
      refine WS_nil ?_
      refine Then_normal ?_
      refine W_seq ?_
      refine W_cond (by rfl) (fun c7 => ?_) (fun c7 => ?_)
      ·
        try simp only [Bool.not_eq_true', Bool.not_eq_false', decide_eq_true_eq, decide_eq_false_iff_not, ne_eq, Classical.not_not, Int.not_lt, Int.not_le] at c7
        refine W_skip ?_
        refine Then_normal ?_
        refine W_block ?_
        refine W_seq ?_
        refine W_region_lit (fun ds => ?_)
        refine WS_det hF (by rfl) (y_entryK (enc := encC) (y := (xk, x.v, bn)) (i := 0) (j := 4) (by rfl) (by rfl) (by rfl) hy hO.good.born) ?_
        refine WS_det hF (by rfl) (y_extract (c := .agg _) (by rfl) (by rfl)) ?_
        refine WS_det hF (by rfl) (y_extract (c := .agg _) (by rfl) (by rfl)) ?_
        refine WS_new hF (by rfl) (y_alloc Tryd.zeroValue99 (by rfl)) (fun bX => ?_)
        refine WS_new hF (by rfl) (y_alloc Tryd.zeroValue112 (by rfl)) (fun bW => ?_)
        refine WS_store hF (i := 1) (by rfl) (by rfl) Tryd.sizeOf99 (by rfl) (by rfl) (by rfl) (by first | decide | exact Nat.le_of_ble_eq_true rfl | simp) ?_
        refine WS_store hF (i := 0) (by rfl) (by rfl) Tryd.sizeOf112 (by rfl) (by rfl) (by rfl) (by first | decide | exact Nat.le_of_ble_eq_true rfl | simp) ?_
        refine WS_nil ?_
        refine Then_normal ?_
        refine W_seq ?_
        refine W_seq ?_
        refine W_region_lit (fun ds => ?_)
        refine WS_det hF (by rfl) (y_loadN (by rfl) Tryd.isAgg96 Tryd.sizeOf96 (Mem.own (us := [.slice _ _ _, .slice _ _ _, .int .i64 _]) 8 (by rfl) (by rfl)) (by rfl)) ?_
        refine WS_det hF (by rfl) (y_loadN (by rfl) Tryd.isAgg99 Tryd.sizeOf99 (Mem.own (us := [.int .i64 _, .int .i64 _, .int .i64 _, .int .i64 _]) 1 (by rfl) (by rfl)) (by rfl)) ?_
        refine WS_gen hF (by rfl) (y_callL (by rfl) (by rfl) Tryd.call100 (fun w hw => pourings_any c a1 p1 a2 p2 xk w)) ?_
        rintro _ _ ⟨bb2, bx2, rfl, rfl⟩
        refine WS_nil ?_
        refine Then_normal ?_
        refine W_block ?_
        refine W_range hF (by rfl) (encs := (fun k => [.agg ((c.ps xk).getD k Po.z).cells.toArray, .agg (c.stp xk ((c.ps xk).getD k Po.z)).cells.toArray])) (N := (c.ps xk).length) (H0 := [(bx2, CB xk.cells 99), (bb2, CB [.slice a1 c.n p1, .slice a2 c.inn.length p2, .int .i64 c.st] 96)]) (G0 := (bW, _) :: (bX, _) :: (it, _) :: (b5, _) :: (mk, _) :: (mm, _) :: (mo, _) :: (bk, _) :: (b1, _) :: HX1) (fun i G => ∃ (lm2 : List (EntK Co)) (cm2 : Nat) (P2 : Co → Wy → Prop) (look2 : Co → Option Wy) (HX2 : List Blk), G = (bW, CB x.cells 112) :: (bX, CB xk.cells 99) :: (it, .mapIter (some mo) co (seen.push bn) co) :: (b5, CB [.map (some mm)] 115) :: (mk, MK encC lk2 ck2) :: (mm, MK encC lm2 cm2) :: (mo, MK encC lo1 co) :: (bk, CB [.map (some mk)] 115) :: (b1, CB [.slice a1 c.n p1, .slice a2 c.inn.length p2, .int .i64 c.st] 96) :: HX2 ∧ HX1.Sublist HX2 ∧ GoodM lm2 cm2 ∧ Tab HX2 lm2 look2 ∧ c.Stp n P2 look2 ∧ (∀ y v, P y v → P2 y v) ∧ c.Dn n P2 xk x.w i) (fun _ _ _ => False) (by rfl) Tryd.call132 (by rfl) (fun _ => rfl) (fun ds => pourings_it _ _ _ bb2 bx2 c a1 p1 a2 p2 xk hok hkin hn hm h1 h2) (⟨lm, cm, P, lookM, HX1, rfl, List.Sublist.refl _, hgm, hTm, hSt, fun _ _ h => h, fun j hj => absurd hj (Nat.not_lt_zero _)⟩) (HSub.refl) ?_ ?_ ?_
        · rintro k hk G hj out lpr R R'
          have hF := wide_inRound wide_wide lpr
          obtain ⟨lm2, cm2, P2, look2, HX2, rfl, hsub, hgm2, hTm2, hSt2, hPP, hdn⟩ := hj
          have hps := Cn.ps_ok hk
          obtain ⟨kx, hkl, hkr, hkw⟩ := (hTk3.mono hsub).look (c.stp xk ((c.ps xk).getD k Po.z))
          have hin2 := hkin.stp hn3 hps
          have q1 : 0 ≤ xk.a := hkin.lo 0 (by decide)
          have q2 : xk.a ≤ 600 := hkin.hi 0 (Nat.zero_le _)
          have q3 : 0 ≤ (c.stp xk ((c.ps xk).getD k Po.z)).a := hin2.lo 0 (by decide)
          have q4 : (c.stp xk ((c.ps xk).getD k Po.z)).a ≤ 600 := hin2.hi 0 (Nat.zero_le _)
          have q5 := Cn.Best.back hok hxl.1.way
          have q6 := hxl.2
          refine W_seq ?_
          refine W_region_lit (fun ds => ?_)
          refine WS_new hF (by rfl) (y_alloc Tryd.zeroValue26 (by rfl)) (fun bP => ?_)
          refine WS_store hF (i := 0) (by rfl) (by rfl) Tryd.sizeOf26 (by rfl) (by rfl) (by rfl) (by first | decide | exact Nat.le_of_ble_eq_true rfl | simp) ?_
          refine WS_nil ?_
          refine Then_normal ?_
          refine W_region_lit (fun ds => ?_)
          refine WS_new hF (by rfl) (y_alloc Tryd.zeroValue99 (by rfl)) (fun bY => ?_)
          refine WS_store hF (i := 0) (by rfl) (by rfl) Tryd.sizeOf99 (by rfl) (by rfl) (by rfl) (by first | decide | exact Nat.le_of_ble_eq_true rfl | simp) ?_
          refine WS_nil ?_
          refine Then_normal ?_
          refine ⟨(_ :: _ :: _ :: _ :: _ :: _ :: _ :: _ :: _ :: _ :: _ :: HX2), rfl, ?_⟩
          refine W_block ?_
          refine W_seq ?_
          refine W_seq ?_
          refine W_region_lit (fun ds => ?_)
          refine WS_det hF (by rfl) (y_load1 (by rfl) Tryd.isAgg115 (Mem.own1 9 (by rfl) (by rfl))) ?_
          refine WS_det hF (by rfl) (y_loadN (by rfl) Tryd.isAgg99 Tryd.sizeOf99 (Mem.own (us := [.int .i64 _, .int .i64 _, .int .i64 _, .int .i64 _]) 0 (by rfl) (by rfl)) (by rfl)) ?_
          refine WS_det hF (by rfl) (y_lookupK (enc := encC) (k := c.stp xk ((c.ps xk).getD k Po.z)) (i := 6) keyC (by rfl) (by rfl) Tryd.underlying115 Tryd.zeroValue112 (by rfl) hkl) ?_
          refine WS_det hF (by rfl) (y_move (c := .tuple _) (by rfl)) ?_
          refine WS_det hF (by rfl) (y_extract (c := .agg _) (by rfl) (by rfl)) ?_
          refine WS_det hF (by rfl) (y_extract (c := .bool _) (by rfl) (by rfl)) ?_
          refine WS_new hF (by rfl) (y_alloc Tryd.zeroValue112 (by rfl)) (fun bK => ?_)
          refine WS_store hF (i := 0) (by rfl) (by rfl) Tryd.sizeOf112 (by rfl) (by rfl) (by rfl) (by first | decide | exact Nat.le_of_ble_eq_true rfl | simp) ?_
          refine WS_det hF (by rfl) (y_assign (c := .bool _) (by rfl)) ?_
          refine WS_nil ?_
          refine Then_normal ?_
          refine W_seq ?_
          refine W_region_lit (fun ds => ?_)
          refine WS_det hF (by rfl) (y_move (c := .bool _) (by rfl)) ?_
          refine WS_nil ?_
          refine Then_normal ?_
          refine W_cond (by rfl) (fun c13 => ?_) (fun c13 => ?_)
          ·
            try simp only [Bool.not_eq_true', Bool.not_eq_false', decide_eq_true_eq, decide_eq_false_iff_not, ne_eq, Classical.not_not, Int.not_lt, Int.not_le] at c13
            have hkn : c.Kn n (c.stp xk ((c.ps xk).getD k Po.z)) := Cn.ltO_kn.1 c13
            have hdn2 : c.Dn n P2 xk x.w (k + 1) := fun j hj hno => by
              by_cases hjk : j = k
              · subst hjk; exact absurd hkn hno
              · exact hdn j (by omega) hno
            refine W_exit ?_
            refine Then_exit ?_
            refine InB_same ?_
            refine ⟨_, HSub.sub sbA, lm2, cm2, P2, look2, HX2, rfl, hsub, hgm2, hTm2, hSt2, hPP, hdn2⟩
          ·
            try simp only [Bool.not_eq_true', Bool.not_eq_false', decide_eq_true_eq, decide_eq_false_iff_not, ne_eq, Classical.not_not, Int.not_lt, Int.not_le] at c13
            have hkn : ¬ c.Kn n (c.stp xk ((c.ps xk).getD k Po.z)) := fun h => by rw [Cn.ltO_kn.2 h] at c13; cases c13
            refine W_skip ?_
            refine Then_normal ?_
            refine W_seq ?_
            refine W_tailH 17 Trydmixed (fun e2 H2 => ∃ na ncap b12 Hr, NewRow 26 2 (c.nx x.w xk ((c.ps xk).getD k Po.z)).l.length (rowOf Po.cells (fun z => (c.nx x.w xk ((c.ps xk).getD k Po.z)).l.getD z Po.z) (c.nx x.w xk ((c.ps xk).getD k Po.z)).l.length) (.slice na (c.nx x.w xk ((c.ps xk).getD k Po.z)).l.length ncap) Hr ∧ Slots e2 [(5, .pointer (some ⟨b5, 0, none⟩)), (9, .pointer (some ⟨bY, 0, none⟩)), (12, .pointer (some ⟨b12, 0, none⟩)), (62, .agg #[.slice na (x.w.l.length + 1) ncap, .int .i64 (c.nx x.w xk ((c.ps xk).getD k Po.z)).back])] ∧ HSub H2 ((b12, CB [.slice none 0 0, .int .i64 0] 112) :: (bY, CB (c.stp xk ((c.ps xk).getD k Po.z)).cells 99) :: (bW, CB x.cells 112) :: (bX, CB xk.cells 99) :: (it, .mapIter (some mo) co (seen.push bn) co) :: (b5, CB [.map (some mm)] 115) :: (mk, MK encC lk2 ck2) :: (mm, MK encC lm2 cm2) :: (mo, MK encC lo1 co) :: (bk, CB [.map (some mk)] 115) :: (b1, CB [.slice a1 c.n p1, .slice a2 c.inn.length p2, .int .i64 c.st] 96) :: (HX2 ++ (Hr ++ R')))) (by decide +kernel) (fun ds e2 H2 hmid => ?_) (fun ds => ?_)
            ·
              obtain ⟨na, ncap, b12, Hr, hrow, hsl, hsb⟩ := hmid
              obtain ⟨ox, hol, hor, how⟩ := hTm2.look (c.stp xk ((c.ps xk).getD k Po.z))
              have hnr : Wl.RdH (HX2 ++ Hr) ⟨(c.nx x.w xk ((c.ps xk).getD k Po.z)), na, ncap⟩ := Wl.RdH.new hrow (List.sublist_append_right _ _) (by rw [c.nx_len]; omega)
              rw [← c.nx_len x.w xk ((c.ps xk).getD k Po.z)] at hsl
              rw [← hsl.sets]
              refine WS_sub hsb ?_
              refine WS_store hF (i := 0) (by rfl) (by rfl) Tryd.sizeOf112 (by rfl) (by rfl) (by rfl) (by first | decide | exact Nat.le_of_ble_eq_true rfl | simp) ?_
              refine WS_nil ?_
              refine Then_normal ?_
              refine W_seq ?_
              refine W_seq ?_
              refine W_region_lit (fun ds => ?_)
              refine WS_det hF (by rfl) (y_load1 (by rfl) Tryd.isAgg115 (Mem.own1 5 (by rfl) (by rfl))) ?_
              refine WS_det hF (by rfl) (y_loadN (by rfl) Tryd.isAgg99 Tryd.sizeOf99 (Mem.own (us := [.int .i64 _, .int .i64 _, .int .i64 _, .int .i64 _]) 1 (by rfl) (by rfl)) (by rfl)) ?_
              refine WS_det hF (by rfl) (y_lookupK (enc := encC) (k := c.stp xk ((c.ps xk).getD k Po.z)) (i := 7) keyC (by rfl) (by rfl) Tryd.underlying115 Tryd.zeroValue112 (by rfl) hol) ?_
              refine WS_det hF (by rfl) (y_move (c := .tuple _) (by rfl)) ?_
              refine WS_det hF (by rfl) (y_extract (c := .agg _) (by rfl) (by rfl)) ?_
              refine WS_det hF (by rfl) (y_extract (c := .bool _) (by rfl) (by rfl)) ?_
              refine WS_new hF (by rfl) (y_alloc Tryd.zeroValue112 (by rfl)) (fun bO => ?_)
              refine WS_store hF (i := 0) (by rfl) (by rfl) Tryd.sizeOf112 (by rfl) (by rfl) (by rfl) (by first | decide | exact Nat.le_of_ble_eq_true rfl | simp) ?_
              refine WS_det hF (by rfl) (y_assign (c := .bool _) (by rfl)) ?_
              refine WS_nil ?_
              refine Then_normal ?_
              refine W_seq ?_
              refine W_region_lit (fun ds => ?_)
              refine WS_det hF (by rfl) (y_move (c := .bool _) (by rfl)) ?_
              refine WS_nil ?_
              refine Then_normal ?_
              refine W_cond (by rfl) (fun c16 => ?_) (fun c16 => ?_)
              ·
                try simp only [Bool.not_eq_true', Bool.not_eq_false', decide_eq_true_eq, decide_eq_false_iff_not, ne_eq, Classical.not_not, Int.not_lt, Int.not_le] at c16
                refine W_region_lit (fun ds => ?_)
                refine WS_det hF (by rfl) (y_loadN (by rfl) Tryd.isAgg112 Tryd.sizeOf112 (Mem.own (us := [.slice _ _ _, .int .i64 _]) 0 (by rfl) (by rfl)) (by rfl)) ?_
                refine WS_det hF (by rfl) (y_loadN (by rfl) Tryd.isAgg112 Tryd.sizeOf112 (Mem.own (us := [.slice _ _ _, .int .i64 _]) 1 (by rfl) (by rfl)) (by rfl)) ?_
                refine WS_newS hF (by rfl) (y_buildSliceL bs162_2_0_1 (by rfl)) (fun b2 => ?_)
                refine WS_gen hF (by rfl) (y_callL (by rfl) (by rfl) Tryd.call97 (fun w hw => firstW_any _ 2 2 [ox, ⟨(c.nx x.w xk ((c.ps xk).getD k Po.z)), na, ncap⟩] w (by decide) (by decide) (Wls.two 0 (by rfl) w hw) (fun y hy => by simp only [List.mem_cons, List.not_mem_nil, or_false] at hy; rcases hy with rfl | rfl <;> first | exact hor _ _ w sbA hw | exact hnr _ _ w sbA hw))) ?_
                rintro _ HL ⟨fx, hfm, rfl, hfmin⟩
                refine WS_back ?_
                refine WS_store hF (i := 2) (by rfl) (by rfl) Tryd.sizeOf112 (by rfl) (by rfl) (by rfl) (by first | decide | exact Nat.le_of_ble_eq_true rfl | simp) ?_
                refine WS_nil ?_
                refine Then_normal ?_
                refine W_region_lit (fun ds => ?_)
                refine WS_det hF (by rfl) (y_load1 (by rfl) Tryd.isAgg115 (Mem.own1 7 (by rfl) (by rfl))) ?_
                refine WS_det hF (by rfl) (y_loadN (by rfl) Tryd.isAgg99 Tryd.sizeOf99 (Mem.own (us := [.int .i64 _, .int .i64 _, .int .i64 _, .int .i64 _]) 3 (by rfl) (by rfl)) (by rfl)) ?_
                refine WS_det hF (by rfl) (y_loadN (by rfl) Tryd.isAgg112 Tryd.sizeOf112 (Mem.own (us := [.slice _ _ _, .int .i64 _]) 2 (by rfl) (by rfl)) (by rfl)) ?_
                refine WS_mapUpdK hF (enc := encC) (k := c.stp xk ((c.ps xk).getD k Po.z)) (u := fx.v) (i := 9) keyC (by rfl) (by rfl) (by rfl) Tryd.underlying115 (by rfl) ?_
                have hfw : fx.w = pickW (look2 (c.stp xk ((c.ps xk).getD k Po.z))) (c.nx x.w xk ((c.ps xk).getD k Po.z)) := pick_min (by cases hlo : look2 (c.stp xk ((c.ps xk).getD k Po.z)) with | none => rw [hlo] at c16; cases c16 | some u => rw [how u hlo]) hfm hfmin
                have hfr : fx.RdH (HX2 ++ Hr) := by
                  simp only [List.mem_cons, List.not_mem_nil, or_false] at hfm
                  rcases hfm with rfl | rfl
                  · exact hor.mono (List.sublist_append_left _ _)
                  · exact hnr
                have hTm3 := (hTm2.mono (List.sublist_append_left HX2 Hr)).put (c.stp xk ((c.ps xk).getD k Po.z)) fx cm2 hfr
                rw [hfw] at hTm3
                refine WS_nil ?_
                refine InB_normal ?_
                refine ⟨_, ?_, _, _, _, _, HX2 ++ Hr, rfl, hsub.trans (List.sublist_append_left _ _), hgm2.put _ _, hTm3, hSt2.put hxl hps hkn, fun y v h => .inl (hPP y v h), fun j hj hno => ?_⟩
                · exact HSub.sub sbA
                by_cases hjk : j = k
                · subst hjk; exact .inr ⟨rfl, rfl⟩
                · exact .inl (hdn j (by omega) hno)
              ·
                try simp only [Bool.not_eq_true', Bool.not_eq_false', decide_eq_true_eq, decide_eq_false_iff_not, ne_eq, Classical.not_not, Int.not_lt, Int.not_le] at c16
                refine W_skip ?_
                refine Then_normal ?_
                refine W_region_lit (fun ds => ?_)
                refine WS_det hF (by rfl) (y_load1 (by rfl) Tryd.isAgg115 (Mem.own1 6 (by rfl) (by rfl))) ?_
                refine WS_det hF (by rfl) (y_loadN (by rfl) Tryd.isAgg99 Tryd.sizeOf99 (Mem.own (us := [.int .i64 _, .int .i64 _, .int .i64 _, .int .i64 _]) 2 (by rfl) (by rfl)) (by rfl)) ?_
                refine WS_det hF (by rfl) (y_loadN (by rfl) Tryd.isAgg112 Tryd.sizeOf112 (Mem.own (us := [.slice _ _ _, .int .i64 _]) 1 (by rfl) (by rfl)) (by rfl)) ?_
                refine WS_mapUpdK hF (enc := encC) (k := c.stp xk ((c.ps xk).getD k Po.z)) (u := Wl.v ⟨(c.nx x.w xk ((c.ps xk).getD k Po.z)), na, ncap⟩) (i := 8) keyC (by rfl) (by rfl) (by rfl) Tryd.underlying115 (by rfl) ?_
                have hlo : look2 (c.stp xk ((c.ps xk).getD k Po.z)) = none := by cases hlo : look2 (c.stp xk ((c.ps xk).getD k Po.z)) with | none => rfl | some u => rw [hlo] at c16; cases c16
                have hTm3 := (hTm2.mono (List.sublist_append_left HX2 Hr)).put (c.stp xk ((c.ps xk).getD k Po.z)) ⟨(c.nx x.w xk ((c.ps xk).getD k Po.z)), na, ncap⟩ cm2 hnr
                rw [show (⟨(c.nx x.w xk ((c.ps xk).getD k Po.z)), na, ncap⟩ : Wl).w = pickW (look2 (c.stp xk ((c.ps xk).getD k Po.z))) (c.nx x.w xk ((c.ps xk).getD k Po.z)) by rw [hlo]; rfl] at hTm3
                refine WS_nil ?_
                refine InB_normal ?_
                refine ⟨_, ?_, _, _, _, _, HX2 ++ Hr, rfl, hsub.trans (List.sublist_append_left _ _), hgm2.put _ _, hTm3, hSt2.put hxl hps hkn, fun y v h => .inl (hPP y v h), fun j hj hno => ?_⟩
                · exact HSub.sub sbA
                by_cases hjk : j = k
                · subst hjk; exact .inr ⟨rfl, rfl⟩
                · exact .inl (hdn j (by omega) hno)
            ·
              refine WH_take 0 (by decide +kernel) (by rfl) (by decide +kernel) (by decide +kernel) (by rfl) (ye_fieldAddr (by rfl) fa112_0) ?_
              refine WH_take 1 (by decide +kernel) (by rfl) (by decide +kernel) (by decide +kernel) (by rfl) (ye_load1 (by rfl) Tryd.isAgg27 (Mem.own1 3 (by rfl) (by rfl))) ?_
              refine WH_take 3 (by decide +kernel) (by rfl) (by decide +kernel) (by decide +kernel) (by rfl) (ye_loadN (by rfl) Tryd.isAgg26 Tryd.sizeOf26 (Mem.own (us := [.int .i64 _, .int .i64 _]) 2 (by rfl) (by rfl)) (by rfl)) ?_
              refine WH_take 6 (by decide +kernel) (by rfl) (by decide +kernel) (by decide +kernel) (by rfl) (ye_fieldAddr (by rfl) fa112_1) ?_
              refine WH_take 7 (by decide +kernel) (by rfl) (by decide +kernel) (by decide +kernel) (by rfl) (ye_load1 (by rfl) Tryd.isAgg3 (Mem.own1 3 (by rfl) (by rfl))) ?_
              refine WH_take 8 (by decide +kernel) (by rfl) (by decide +kernel) (by decide +kernel) (by rfl) (ye_indexA (k := 0) (by rfl) (by rfl) (by first | rfl | omega) (by first | decide | omega) Tryd.runUnderlying99 Tryd.sizeOf3) ?_
              refine WH_take 9 (by decide +kernel) (by rfl) (by decide +kernel) (by decide +kernel) (by rfl) (ye_load1 (by rfl) Tryd.isAgg3 (Mem.own1 1 (by rfl) (by rfl))) ?_
              refine WH_take 10 (by decide +kernel) (by rfl) (by decide +kernel) (by decide +kernel) (by rfl) (ye_indexA (k := 0) (by rfl) (by rfl) (by first | rfl | omega) (by first | decide | omega) Tryd.runUnderlying99 Tryd.sizeOf3) ?_
              refine WH_take 11 (by decide +kernel) (by rfl) (by decide +kernel) (by decide +kernel) (by rfl) (ye_load1 (by rfl) Tryd.isAgg3 (Mem.own1 4 (by rfl) (by rfl))) ?_
              refine WH_take 12 (by decide +kernel) (by rfl) (by decide +kernel) (by decide +kernel) (by rfl) (ye_sub (by rfl) (by rfl) (by unfold I64; omega)) ?_
              refine WH_take 13 (by decide +kernel) (by rfl) (by decide +kernel) (by decide +kernel) (by rfl) (ye_max (by rfl) (by rfl)) ?_
              refine WH_take 14 (by decide +kernel) (by rfl) (by decide +kernel) (by decide +kernel) (by rfl) (ye_add (by rfl) (by rfl) (by unfold I64; omega)) ?_
              refine WH_step3 2 4 16 (by decide +kernel) (fun _ h => St.sub h sbA) (by rfl) (by rfl) (by rfl) ?_ ?_ ?_
              ·
                refine WS_gen hF (by rfl) (y_callL (by rfl) (by rfl) Tryd.call101 (fun w hw => cloneP_any x.w.l x.a x.k w ((hxr.mono hsub) _ _ w sbA hw).n ((hxr.mono hsub) _ _ w sbA hw).p)) ?_
                rintro _ Hc ⟨ca, ccap, rfl, hrc⟩
                refine WS_back ?_
                refine WS_nil ?_
                refine WH_step2 4 16 (by decide +kernel) (fun _ h => St.sub h sbA) (by rfl) (by rfl) ?_ ?_
                ·
                  refine WS_newS hF (by rfl) (y_buildSliceL bs27_1_0 (by rfl)) (fun b3 => ?_)
                  refine WS_nil ?_
                  refine WH_step2 5 16 (by decide +kernel) (fun _ h => St.sub h sbA) (by rfl) (by rfl) ?_ ?_
                  ·
                    refine WS_appendN hF (H1 := (_ :: _ :: _ :: _ :: _ :: _ :: _ :: _ :: _ :: _ :: _ :: _ :: _ :: (HX2 ++ (R')))) (Hn := Hc) (by rfl) (by rfl) (by rfl) Tryd.underlying27 infPo (by rfl) (by rfl) hrc (rowOf_len po_len _ _) (.inr ⟨_, _, rfl, (by first | exact Mem.own (us := [.int _ _, .int _ _]) 0 (by rfl) (by rfl) | exact Mem.own (us := [.int _ _, .int _ _]) 1 (by rfl) (by rfl))⟩) (by rfl) (by rfl) (by omega) (by omega) (by omega) ?_
                    intro a3 cap3 H3 hr3
                    have hrow3 : NewRow 26 2 (c.nx x.w xk ((c.ps xk).getD k Po.z)).l.length (rowOf Po.cells (fun z => (c.nx x.w xk ((c.ps xk).getD k Po.z)).l.getD z Po.z) (c.nx x.w xk ((c.ps xk).getD k Po.z)).l.length) (.slice a3 (c.nx x.w xk ((c.ps xk).getD k Po.z)).l.length cap3) H3 := by rw [c.nx_row, c.nx_len]; exact hr3
                    refine WS_nil ?_
                    refine WH_take 15 (by decide +kernel) (by rfl) (by decide +kernel) (by decide +kernel) (by rfl) (ye_buildL bd112_0_1 (by rfl)) ?_
                    refine WH_step1 16 (by decide +kernel) (fun _ h => St.sub h sbA) (by rfl) ?_
                    ·
                      refine WS_new hF (by rfl) (y_alloc Tryd.zeroValue112 (by rfl)) (fun b4 => ?_)
                      refine WS_nil ?_
                      refine WH_done (by decide +kernel) (fun _ h => St.sub h sbA) ?_
                      exact ⟨_, _, _, _, hrow3, (by repeat (first | exact trivial | refine ⟨by rfl, ?_⟩ | refine ⟨congrArg (Value.int _) (by first | omega | (simp only; omega) | (push_cast; omega)), ?_⟩)), HSub.swap3 (F := [_, _, _, _, _, _, _, _, _, _, _]) sbA⟩
                  ·
                    refine WS_new hF (by rfl) (y_alloc Tryd.zeroValue112 (by rfl)) (fun b5 => ?_)
                    refine WS_nil ?_
                    refine WH_step1 5 (by decide +kernel) (fun _ h => St.sub h sbA) (by rfl) ?_
                    ·
                      refine WS_appendN hF (H1 := (_ :: _ :: _ :: _ :: _ :: _ :: _ :: _ :: _ :: _ :: _ :: _ :: _ :: _ :: (HX2 ++ (R')))) (Hn := Hc) (by rfl) (by rfl) (by rfl) Tryd.underlying27 infPo (by rfl) (by rfl) hrc (rowOf_len po_len _ _) (.inr ⟨_, _, rfl, (by first | exact Mem.own (us := [.int _ _, .int _ _]) 0 (by rfl) (by rfl) | exact Mem.own (us := [.int _ _, .int _ _]) 1 (by rfl) (by rfl))⟩) (by rfl) (by rfl) (by omega) (by omega) (by omega) ?_
                      intro a3 cap3 H3 hr3
                      have hrow3 : NewRow 26 2 (c.nx x.w xk ((c.ps xk).getD k Po.z)).l.length (rowOf Po.cells (fun z => (c.nx x.w xk ((c.ps xk).getD k Po.z)).l.getD z Po.z) (c.nx x.w xk ((c.ps xk).getD k Po.z)).l.length) (.slice a3 (c.nx x.w xk ((c.ps xk).getD k Po.z)).l.length cap3) H3 := by rw [c.nx_row, c.nx_len]; exact hr3
                      refine WS_nil ?_
                      refine WH_take 15 (by decide +kernel) (by rfl) (by decide +kernel) (by decide +kernel) (by rfl) (ye_buildL bd112_0_1 (by rfl)) ?_
                      refine WH_done (by decide +kernel) (fun _ h => St.sub h sbA) ?_
                      exact ⟨_, _, _, _, hrow3, (by repeat (first | exact trivial | refine ⟨by rfl, ?_⟩ | refine ⟨congrArg (Value.int _) (by first | omega | (simp only; omega) | (push_cast; omega)), ?_⟩)), HSub.swap3 (F := [_, _, _, _, _, _, _, _, _, _, _]) sbA⟩
                ·
                  refine WS_new hF (by rfl) (y_alloc Tryd.zeroValue112 (by rfl)) (fun b6 => ?_)
                  refine WS_nil ?_
                  refine WH_step1 4 (by decide +kernel) (fun _ h => St.sub h sbA) (by rfl) ?_
                  ·
                    refine WS_newS hF (by rfl) (y_buildSliceL bs27_1_0 (by rfl)) (fun b7 => ?_)
                    refine WS_nil ?_
                    refine WH_step1 5 (by decide +kernel) (fun _ h => St.sub h sbA) (by rfl) ?_
                    ·
                      refine WS_appendN hF (H1 := (_ :: _ :: _ :: _ :: _ :: _ :: _ :: _ :: _ :: _ :: _ :: _ :: _ :: _ :: (HX2 ++ (R')))) (Hn := Hc) (by rfl) (by rfl) (by rfl) Tryd.underlying27 infPo (by rfl) (by rfl) hrc (rowOf_len po_len _ _) (.inr ⟨_, _, rfl, (by first | exact Mem.own (us := [.int _ _, .int _ _]) 0 (by rfl) (by rfl) | exact Mem.own (us := [.int _ _, .int _ _]) 1 (by rfl) (by rfl))⟩) (by rfl) (by rfl) (by omega) (by omega) (by omega) ?_
                      intro a3 cap3 H3 hr3
                      have hrow3 : NewRow 26 2 (c.nx x.w xk ((c.ps xk).getD k Po.z)).l.length (rowOf Po.cells (fun z => (c.nx x.w xk ((c.ps xk).getD k Po.z)).l.getD z Po.z) (c.nx x.w xk ((c.ps xk).getD k Po.z)).l.length) (.slice a3 (c.nx x.w xk ((c.ps xk).getD k Po.z)).l.length cap3) H3 := by rw [c.nx_row, c.nx_len]; exact hr3
                      refine WS_nil ?_
                      refine WH_take 15 (by decide +kernel) (by rfl) (by decide +kernel) (by decide +kernel) (by rfl) (ye_buildL bd112_0_1 (by rfl)) ?_
                      refine WH_done (by decide +kernel) (fun _ h => St.sub h sbA) ?_
                      exact ⟨_, _, _, _, hrow3, (by repeat (first | exact trivial | refine ⟨by rfl, ?_⟩ | refine ⟨congrArg (Value.int _) (by first | omega | (simp only; omega) | (push_cast; omega)), ?_⟩)), HSub.swap3 (F := [_, _, _, _, _, _, _, _, _, _, _]) sbA⟩
              ·
                refine WS_newS hF (by rfl) (y_buildSliceL bs27_1_0 (by rfl)) (fun b8 => ?_)
                refine WS_nil ?_
                refine WH_step2 2 16 (by decide +kernel) (fun _ h => St.sub h sbA) (by rfl) (by rfl) ?_ ?_
                ·
                  refine WS_gen hF (by rfl) (y_callL (by rfl) (by rfl) Tryd.call101 (fun w hw => cloneP_any x.w.l x.a x.k w ((hxr.mono hsub) _ _ w sbA hw).n ((hxr.mono hsub) _ _ w sbA hw).p)) ?_
                  rintro _ Hc ⟨ca, ccap, rfl, hrc⟩
                  refine WS_back ?_
                  refine WS_nil ?_
                  refine WH_step2 5 16 (by decide +kernel) (fun _ h => St.sub h sbA) (by rfl) (by rfl) ?_ ?_
                  ·
                    refine WS_appendN hF (H1 := (_ :: _ :: _ :: _ :: _ :: _ :: _ :: _ :: _ :: _ :: _ :: _ :: _ :: (HX2 ++ (R')))) (Hn := Hc) (by rfl) (by rfl) (by rfl) Tryd.underlying27 infPo (by rfl) (by rfl) hrc (rowOf_len po_len _ _) (.inr ⟨_, _, rfl, (by first | exact Mem.own (us := [.int _ _, .int _ _]) 0 (by rfl) (by rfl) | exact Mem.own (us := [.int _ _, .int _ _]) 1 (by rfl) (by rfl))⟩) (by rfl) (by rfl) (by omega) (by omega) (by omega) ?_
                    intro a3 cap3 H3 hr3
                    have hrow3 : NewRow 26 2 (c.nx x.w xk ((c.ps xk).getD k Po.z)).l.length (rowOf Po.cells (fun z => (c.nx x.w xk ((c.ps xk).getD k Po.z)).l.getD z Po.z) (c.nx x.w xk ((c.ps xk).getD k Po.z)).l.length) (.slice a3 (c.nx x.w xk ((c.ps xk).getD k Po.z)).l.length cap3) H3 := by rw [c.nx_row, c.nx_len]; exact hr3
                    refine WS_nil ?_
                    refine WH_take 15 (by decide +kernel) (by rfl) (by decide +kernel) (by decide +kernel) (by rfl) (ye_buildL bd112_0_1 (by rfl)) ?_
                    refine WH_step1 16 (by decide +kernel) (fun _ h => St.sub h sbA) (by rfl) ?_
                    ·
                      refine WS_new hF (by rfl) (y_alloc Tryd.zeroValue112 (by rfl)) (fun b9 => ?_)
                      refine WS_nil ?_
                      refine WH_done (by decide +kernel) (fun _ h => St.sub h sbA) ?_
                      exact ⟨_, _, _, _, hrow3, (by repeat (first | exact trivial | refine ⟨by rfl, ?_⟩ | refine ⟨congrArg (Value.int _) (by first | omega | (simp only; omega) | (push_cast; omega)), ?_⟩)), HSub.swap3 (F := [_, _, _, _, _, _, _, _, _, _, _]) sbA⟩
                  ·
                    refine WS_new hF (by rfl) (y_alloc Tryd.zeroValue112 (by rfl)) (fun b10 => ?_)
                    refine WS_nil ?_
                    refine WH_step1 5 (by decide +kernel) (fun _ h => St.sub h sbA) (by rfl) ?_
                    ·
                      refine WS_appendN hF (H1 := (_ :: _ :: _ :: _ :: _ :: _ :: _ :: _ :: _ :: _ :: _ :: _ :: _ :: _ :: (HX2 ++ (R')))) (Hn := Hc) (by rfl) (by rfl) (by rfl) Tryd.underlying27 infPo (by rfl) (by rfl) hrc (rowOf_len po_len _ _) (.inr ⟨_, _, rfl, (by first | exact Mem.own (us := [.int _ _, .int _ _]) 0 (by rfl) (by rfl) | exact Mem.own (us := [.int _ _, .int _ _]) 1 (by rfl) (by rfl))⟩) (by rfl) (by rfl) (by omega) (by omega) (by omega) ?_
                      intro a3 cap3 H3 hr3
                      have hrow3 : NewRow 26 2 (c.nx x.w xk ((c.ps xk).getD k Po.z)).l.length (rowOf Po.cells (fun z => (c.nx x.w xk ((c.ps xk).getD k Po.z)).l.getD z Po.z) (c.nx x.w xk ((c.ps xk).getD k Po.z)).l.length) (.slice a3 (c.nx x.w xk ((c.ps xk).getD k Po.z)).l.length cap3) H3 := by rw [c.nx_row, c.nx_len]; exact hr3
                      refine WS_nil ?_
                      refine WH_take 15 (by decide +kernel) (by rfl) (by decide +kernel) (by decide +kernel) (by rfl) (ye_buildL bd112_0_1 (by rfl)) ?_
                      refine WH_done (by decide +kernel) (fun _ h => St.sub h sbA) ?_
                      exact ⟨_, _, _, _, hrow3, (by repeat (first | exact trivial | refine ⟨by rfl, ?_⟩ | refine ⟨congrArg (Value.int _) (by first | omega | (simp only; omega) | (push_cast; omega)), ?_⟩)), HSub.swap3 (F := [_, _, _, _, _, _, _, _, _, _, _]) sbA⟩
                ·
                  refine WS_new hF (by rfl) (y_alloc Tryd.zeroValue112 (by rfl)) (fun b11 => ?_)
                  refine WS_nil ?_
                  refine WH_step1 2 (by decide +kernel) (fun _ h => St.sub h sbA) (by rfl) ?_
                  ·
                    refine WS_gen hF (by rfl) (y_callL (by rfl) (by rfl) Tryd.call101 (fun w hw => cloneP_any x.w.l x.a x.k w ((hxr.mono hsub) _ _ w sbA hw).n ((hxr.mono hsub) _ _ w sbA hw).p)) ?_
                    rintro _ Hc ⟨ca, ccap, rfl, hrc⟩
                    refine WS_back ?_
                    refine WS_nil ?_
                    refine WH_step1 5 (by decide +kernel) (fun _ h => St.sub h sbA) (by rfl) ?_
                    ·
                      refine WS_appendN hF (H1 := (_ :: _ :: _ :: _ :: _ :: _ :: _ :: _ :: _ :: _ :: _ :: _ :: _ :: _ :: (HX2 ++ (R')))) (Hn := Hc) (by rfl) (by rfl) (by rfl) Tryd.underlying27 infPo (by rfl) (by rfl) hrc (rowOf_len po_len _ _) (.inr ⟨_, _, rfl, (by first | exact Mem.own (us := [.int _ _, .int _ _]) 0 (by rfl) (by rfl) | exact Mem.own (us := [.int _ _, .int _ _]) 1 (by rfl) (by rfl))⟩) (by rfl) (by rfl) (by omega) (by omega) (by omega) ?_
                      intro a3 cap3 H3 hr3
                      have hrow3 : NewRow 26 2 (c.nx x.w xk ((c.ps xk).getD k Po.z)).l.length (rowOf Po.cells (fun z => (c.nx x.w xk ((c.ps xk).getD k Po.z)).l.getD z Po.z) (c.nx x.w xk ((c.ps xk).getD k Po.z)).l.length) (.slice a3 (c.nx x.w xk ((c.ps xk).getD k Po.z)).l.length cap3) H3 := by rw [c.nx_row, c.nx_len]; exact hr3
                      refine WS_nil ?_
                      refine WH_take 15 (by decide +kernel) (by rfl) (by decide +kernel) (by decide +kernel) (by rfl) (ye_buildL bd112_0_1 (by rfl)) ?_
                      refine WH_done (by decide +kernel) (fun _ h => St.sub h sbA) ?_
                      exact ⟨_, _, _, _, hrow3, (by repeat (first | exact trivial | refine ⟨by rfl, ?_⟩ | refine ⟨congrArg (Value.int _) (by first | omega | (simp only; omega) | (push_cast; omega)), ?_⟩)), HSub.swap3 (F := [_, _, _, _, _, _, _, _, _, _, _]) sbA⟩
              ·
                refine WS_new hF (by rfl) (y_alloc Tryd.zeroValue112 (by rfl)) (fun b12 => ?_)
                refine WS_nil ?_
                refine WH_step2 2 4 (by decide +kernel) (fun _ h => St.sub h sbA) (by rfl) (by rfl) ?_ ?_
                ·
                  refine WS_gen hF (by rfl) (y_callL (by rfl) (by rfl) Tryd.call101 (fun w hw => cloneP_any x.w.l x.a x.k w ((hxr.mono hsub) _ _ w sbA hw).n ((hxr.mono hsub) _ _ w sbA hw).p)) ?_
                  rintro _ Hc ⟨ca, ccap, rfl, hrc⟩
                  refine WS_back ?_
                  refine WS_nil ?_
                  refine WH_step1 4 (by decide +kernel) (fun _ h => St.sub h sbA) (by rfl) ?_
                  ·
                    refine WS_newS hF (by rfl) (y_buildSliceL bs27_1_0 (by rfl)) (fun b13 => ?_)
                    refine WS_nil ?_
                    refine WH_step1 5 (by decide +kernel) (fun _ h => St.sub h sbA) (by rfl) ?_
                    ·
                      refine WS_appendN hF (H1 := (_ :: _ :: _ :: _ :: _ :: _ :: _ :: _ :: _ :: _ :: _ :: _ :: _ :: _ :: (HX2 ++ (R')))) (Hn := Hc) (by rfl) (by rfl) (by rfl) Tryd.underlying27 infPo (by rfl) (by rfl) hrc (rowOf_len po_len _ _) (.inr ⟨_, _, rfl, (by first | exact Mem.own (us := [.int _ _, .int _ _]) 0 (by rfl) (by rfl) | exact Mem.own (us := [.int _ _, .int _ _]) 1 (by rfl) (by rfl))⟩) (by rfl) (by rfl) (by omega) (by omega) (by omega) ?_
                      intro a3 cap3 H3 hr3
                      have hrow3 : NewRow 26 2 (c.nx x.w xk ((c.ps xk).getD k Po.z)).l.length (rowOf Po.cells (fun z => (c.nx x.w xk ((c.ps xk).getD k Po.z)).l.getD z Po.z) (c.nx x.w xk ((c.ps xk).getD k Po.z)).l.length) (.slice a3 (c.nx x.w xk ((c.ps xk).getD k Po.z)).l.length cap3) H3 := by rw [c.nx_row, c.nx_len]; exact hr3
                      refine WS_nil ?_
                      refine WH_take 15 (by decide +kernel) (by rfl) (by decide +kernel) (by decide +kernel) (by rfl) (ye_buildL bd112_0_1 (by rfl)) ?_
                      refine WH_done (by decide +kernel) (fun _ h => St.sub h sbA) ?_
                      exact ⟨_, _, _, _, hrow3, (by repeat (first | exact trivial | refine ⟨by rfl, ?_⟩ | refine ⟨congrArg (Value.int _) (by first | omega | (simp only; omega) | (push_cast; omega)), ?_⟩)), HSub.swap3 (F := [_, _, _, _, _, _, _, _, _, _, _]) sbA⟩
                ·
                  refine WS_newS hF (by rfl) (y_buildSliceL bs27_1_0 (by rfl)) (fun b14 => ?_)
                  refine WS_nil ?_
                  refine WH_step1 2 (by decide +kernel) (fun _ h => St.sub h sbA) (by rfl) ?_
                  ·
                    refine WS_gen hF (by rfl) (y_callL (by rfl) (by rfl) Tryd.call101 (fun w hw => cloneP_any x.w.l x.a x.k w ((hxr.mono hsub) _ _ w sbA hw).n ((hxr.mono hsub) _ _ w sbA hw).p)) ?_
                    rintro _ Hc ⟨ca, ccap, rfl, hrc⟩
                    refine WS_back ?_
                    refine WS_nil ?_
                    refine WH_step1 5 (by decide +kernel) (fun _ h => St.sub h sbA) (by rfl) ?_
                    ·
                      refine WS_appendN hF (H1 := (_ :: _ :: _ :: _ :: _ :: _ :: _ :: _ :: _ :: _ :: _ :: _ :: _ :: _ :: (HX2 ++ (R')))) (Hn := Hc) (by rfl) (by rfl) (by rfl) Tryd.underlying27 infPo (by rfl) (by rfl) hrc (rowOf_len po_len _ _) (.inr ⟨_, _, rfl, (by first | exact Mem.own (us := [.int _ _, .int _ _]) 0 (by rfl) (by rfl) | exact Mem.own (us := [.int _ _, .int _ _]) 1 (by rfl) (by rfl))⟩) (by rfl) (by rfl) (by omega) (by omega) (by omega) ?_
                      intro a3 cap3 H3 hr3
                      have hrow3 : NewRow 26 2 (c.nx x.w xk ((c.ps xk).getD k Po.z)).l.length (rowOf Po.cells (fun z => (c.nx x.w xk ((c.ps xk).getD k Po.z)).l.getD z Po.z) (c.nx x.w xk ((c.ps xk).getD k Po.z)).l.length) (.slice a3 (c.nx x.w xk ((c.ps xk).getD k Po.z)).l.length cap3) H3 := by rw [c.nx_row, c.nx_len]; exact hr3
                      refine WS_nil ?_
                      refine WH_take 15 (by decide +kernel) (by rfl) (by decide +kernel) (by decide +kernel) (by rfl) (ye_buildL bd112_0_1 (by rfl)) ?_
                      refine WH_done (by decide +kernel) (fun _ h => St.sub h sbA) ?_
                      exact ⟨_, _, _, _, hrow3, (by repeat (first | exact trivial | refine ⟨by rfl, ?_⟩ | refine ⟨congrArg (Value.int _) (by first | omega | (simp only; omega) | (push_cast; omega)), ?_⟩)), HSub.swap3 (F := [_, _, _, _, _, _, _, _, _, _, _]) sbA⟩
        · rintro G hj
          obtain ⟨lm2, cm2, P2, look2, HX2, rfl, hsub, hgm2, hTm2, hSt2, hPP, hdn⟩ := hj
          refine InB_normal ?_
          refine Then_normal ?_
          refine W_region_lit (fun ds => ?_)
          refine WS_det hF (by rfl) (y_move (c := .map _) (by rfl)) ?_
          refine WS_det hF (by rfl) (y_loadN (by rfl) Tryd.isAgg99 Tryd.sizeOf99 (Mem.own (us := [.int .i64 _, .int .i64 _, .int .i64 _, .int .i64 _]) 3 (by rfl) (by rfl)) (by rfl)) ?_
          refine WS_deleteK hF (enc := encC) (k := xk) (i := 8) keyC (by rfl) (by rfl) Tryd.underlying115 (by rfl) ?_
          refine WS_nil ?_
          refine InB_normal ?_
          exact Loop_next (delK xk lo1, seen.push bn, co, lm2, cm2, P2, look2, HX2) ⟨hO.step hPP hsub hy (fun w hw => by rw [hw.1.uniq hxl.1]; exact hdn), Nat.le_refl _, hgm2, hTk3.mono hsub, hTm2, hSt2⟩ (by repeat (first | exact trivial | refine ⟨by rfl, ?_⟩)) sbA (delK_lt hy)
        · rintro c k G hk hj
          exact hj.elim
      · cases c7
  ·
    try simp only [Bool.not_eq_true', Bool.not_eq_false', decide_eq_true_eq, decide_eq_false_iff_not, ne_eq, Classical.not_not, Int.not_lt, Int.not_le] at c3
    refine W_exit ?_
    refine Then_exit ?_
    refine Loop_exit ?_
    refine InB_same ?_
    refine Then_normal ?_
    refine W_seq ?_
    refine W_region_lit (fun ds => ?_)
    refine WS_det hF (by rfl) (y_load1 (by rfl) Tryd.isAgg115 (Mem.own1 2 (by rfl) (by rfl))) ?_
    refine WS_det hF (by rfl) (y_assign (c := .map _) (by rfl)) ?_
    refine WS_nil ?_
    refine Then_normal ?_
    refine W_ret ?_
    refine Fin_ret [.map _] ((mk, _) :: HX) Tryd.results59 ⟨by rfl, trivial⟩ (HSub.sub sbA) ?_
    have h0 : lo = [] := List.eq_nil_of_length_eq_zero (by omega)
    subst h0
    exact ⟨mk, lk, ck, HX, rfl, rfl, hgk, fun k => by rw [← Cn.ltO_end (fun w y h => by obtain ⟨z, hz, _⟩ := hTo.has (Cn.eqO_iff.2 h); cases hz) k]; exact hTk k⟩
end Go.Proofs.YtjekjehgmljbgaaDoor.T

/- What the reference has reached, level by level; pure. -/
namespace Go.Proofs.YtjekjehgmljbgaaDoor.T
open Go.RowKit Go.Proofs Go.Eng
set_option linter.unusedVariables false

/-- The list of what is reached, and the table of where. -/
structure Cn.TabK (c : Cn) (xs : List (Co × Wy)) (ks : List Int) : Prop where
  len : ks.length = 9261
  tab : ∀ y, c.In y → y.sm = c.co.sm → (ks.getD (c.ky y).toNat 0 = 0 ∧ ∀ z ∈ xs, z.1 ≠ y) ∨ ∃ (j : Nat) (z : Co × Wy), xs[j]? = some z ∧ z.1 = y ∧ ks.getD (c.ky y).toNat 0 = (j : Int) + 1
  inn : ∀ z ∈ xs, c.In z.1 ∧ z.1.sm = c.co.sm
  nd : (xs.map Prod.fst).Nodup
theorem Cn.TabK.bd {c : Cn} (hok : c.Ok) {xs : List (Co × Wy)} {ks : List Int} (h : c.TabK xs ks) : xs.length ≤ 9261 := by
  have hnd : (xs.map fun z => (c.ky z.1).toNat).Nodup := by
    have h1 := h.nd
    rw [List.nodup_iff_pairwise_ne, List.pairwise_map] at h1 ⊢
    refine h1.imp_of_mem fun {a b} ha hb hab he => hab ?_
    obtain ⟨a1, a2⟩ := h.inn a ha
    obtain ⟨b1, b2⟩ := h.inn b hb
    have k1 := Cn.ky_bd hok a1
    have k2 := Cn.ky_bd hok b1
    exact Cn.ky_inj hok a1 b1 (a2.trans b2.symm) (by omega)
  have := nodup_bd (N := 9261) hnd fun n hn => by
    obtain ⟨z, hz, rfl⟩ := List.mem_map.1 hn
    have := Cn.ky_bd hok (h.inn z hz).1
    omega
  rwa [List.length_map] at this
theorem Cn.TabK.push {c : Cn} (hok : c.Ok) {xs : List (Co × Wy)} {ks : List Int} (h : c.TabK xs ks) {y : Co} (hy : c.In y) (hs : y.sm = c.co.sm) (hk : ks.getD (c.ky y).toNat 0 = 0) (v : Wy) : c.TabK (xs ++ [(y, v)]) (ks.set (c.ky y).toNat ((xs.length : Int) + 1)) := by
  have hb := Cn.ky_bd hok hy
  have hn : ∀ z ∈ xs, z.1 ≠ y := by
    rcases h.tab y hy hs with h1 | ⟨j, z, _, _, h3⟩
    · exact h1.2
    · omega
  refine ⟨by rw [List.length_set]; exact h.len, fun u hu hus => ?_, fun z hz => ?_, ?_⟩
  · by_cases he : u = y
    · subst he
      refine .inr ⟨xs.length, (u, v), by simp, rfl, ?_⟩
      rw [List.getD_eq_getElem?_getD, List.getElem?_set_self (by rw [h.len]; omega)]
      rfl
    · have hne : (c.ky y).toNat ≠ (c.ky u).toNat := fun hh => he (by
        have := Cn.ky_bd hok hu
        exact Cn.ky_inj hok hu hy (hus.trans hs.symm) (by omega))
      have hg : (ks.set (c.ky y).toNat ((xs.length : Int) + 1)).getD (c.ky u).toNat 0 = ks.getD (c.ky u).toNat 0 := by
        rw [List.getD_eq_getElem?_getD, List.getD_eq_getElem?_getD, List.getElem?_set_ne hne]
      rw [hg]
      rcases h.tab u hu hus with ⟨h1, h2⟩ | ⟨j, z, h1, h2, h3⟩
      · refine .inl ⟨h1, fun z hz => ?_⟩
        rcases List.mem_append.1 hz with hz | hz
        · exact h2 z hz
        · simp only [List.mem_singleton] at hz; subst hz; exact fun e => he e.symm
      · exact .inr ⟨j, z, by rw [List.getElem?_append_left (List.getElem?_eq_some_iff.1 h1).1]; exact h1, h2, h3⟩
  · rcases List.mem_append.1 hz with hz | hz
    · exact h.inn z hz
    · simp only [List.mem_singleton] at hz; subst hz; exact ⟨hy, hs⟩
  · rw [List.map_append, List.nodup_append]
    refine ⟨h.nd, by simp, fun a ha b hb2 hab => ?_⟩
    obtain ⟨z, hz, rfl⟩ := List.mem_map.1 ha
    simp only [List.map_cons, List.map_nil, List.mem_singleton] at hb2
    exact hn z hz (hab.trans hb2)
theorem map_set_fst {xs : List (Co × Wy)} {j : Nat} {y : Co} {u v : Wy} (h : xs[j]? = some (y, u)) : (xs.set j (y, v)).map Prod.fst = xs.map Prod.fst := by
  obtain ⟨hj, he⟩ := List.getElem?_eq_some_iff.1 h
  rw [List.map_set]
  refine List.ext_getElem (by simp) fun i h1 h2 => ?_
  rw [List.getElem_set]
  split
  · rename_i hij; subst hij; simp [he]
  · rfl
theorem Cn.TabK.upd {c : Cn} {xs : List (Co × Wy)} {ks : List Int} (h : c.TabK xs ks) {j : Nat} {y : Co} {u : Wy} (hj : xs[j]? = some (y, u)) (v : Wy) : c.TabK (xs.set j (y, v)) ks := by
  have hjl := (List.getElem?_eq_some_iff.1 hj).1
  have hfst : ∀ z ∈ xs.set j (y, v), z.1 ∈ xs.map Prod.fst := fun z hz => by
    rw [← map_set_fst hj (v := v)]; exact List.mem_map.2 ⟨z, hz, rfl⟩
  refine ⟨h.len, fun a ha has => ?_, fun z hz => ?_, by rw [map_set_fst hj]; exact h.nd⟩
  · rcases h.tab a ha has with ⟨h1, h2⟩ | ⟨i, z, h1, h2, h3⟩
    · refine .inl ⟨h1, fun z hz => ?_⟩
      obtain ⟨z', hz', he⟩ := List.mem_map.1 (hfst z hz)
      rw [← he]; exact h2 z' hz'
    · by_cases hij : j = i
      · subst hij
        rw [hj] at h1
        cases h1
        exact .inr ⟨j, (y, v), List.getElem?_set_self hjl, h2, h3⟩
      · exact .inr ⟨i, z, by rw [List.getElem?_set_ne hij]; exact h1, h2, h3⟩
  · obtain ⟨z', hz', he⟩ := List.mem_map.1 (hfst z hz)
    rw [← he]; exact h.inn z' hz'
/-- All of the levels up to one are reached. -/
structure Cn.Rc0 (c : Cn) (n fr : Nat) (xs : List (Co × Wy)) (ks : List Int) : Prop where
  tb : c.TabK xs ks
  frl : fr ≤ xs.length
  best : ∀ (j : Nat) (z : Co × Wy), xs[j]? = some z → c.Best z.2 z.1 ∧ (j < fr → z.2.l.length < n) ∧ (fr ≤ j → z.2.l.length = n)
  all : ∀ y w, c.Best w y → w.l.length ≤ n → (y, w) ∈ xs
  srt : xs.Pairwise fun a b => a.2.l.length ≤ b.2.l.length
/-- While the next level is walked. -/
structure Cn.RcI (c : Cn) (n fr en : Nat) (P : Co → Wy → Prop) (look : Co → Option Wy) (xs : List (Co × Wy)) (ks : List Int) : Prop where
  tb : c.TabK xs ks
  stp : c.Stp n P look
  frl : fr ≤ en
  enl : en ≤ xs.length
  best : ∀ (j : Nat) (z : Co × Wy), j < en → xs[j]? = some z → c.Best z.2 z.1 ∧ (j < fr → z.2.l.length < n) ∧ (fr ≤ j → z.2.l.length = n)
  all : ∀ y w, c.Best w y → w.l.length ≤ n → ∃ j : Nat, j < en ∧ xs[j]? = some (y, w)
  new : ∀ y w, look y = some w ↔ ∃ j : Nat, en ≤ j ∧ xs[j]? = some (y, w)
  srt : ∀ (i j : Nat) (a b : Co × Wy), i ≤ j → j < en → xs[i]? = some a → xs[j]? = some b → a.2.l.length ≤ b.2.l.length
theorem Cn.Rc0.start {c : Cn} {n fr : Nat} {xs : List (Co × Wy)} {ks : List Int} (h : c.Rc0 n fr xs ks) : c.RcI n fr xs.length (fun _ _ => False) (fun _ => none) xs ks := by
  refine ⟨h.tb, .nil c n, h.frl, Nat.le_refl _, fun j z _ hz => h.best j z hz, fun y w hw hl => ?_, fun y w => ?_, fun i j a b hij hj ha hb => ?_⟩
  · obtain ⟨j, hj⟩ := List.getElem?_of_mem (h.all y w hw hl)
    exact ⟨j, (List.getElem?_eq_some_iff.1 hj).1, hj⟩
  · constructor
    · intro h; cases h
    · rintro ⟨j, h1, h2⟩
      have := (List.getElem?_eq_some_iff.1 h2).1
      omega
  · by_cases he : i = j
    · subst he; rw [ha] at hb; cases hb; exact Nat.le_refl _
    · have hp := List.pairwise_iff_getElem.1 h.srt i j (by omega) hj (by omega)
      rw [(List.getElem?_eq_some_iff.1 ha).2, (List.getElem?_eq_some_iff.1 hb).2] at hp
      exact hp
theorem Cn.RcI.kn {c : Cn} {n fr en : Nat} {P : Co → Wy → Prop} {look : Co → Option Wy} {xs : List (Co × Wy)} {ks : List Int} (h : c.RcI n fr en P look xs ks) {y : Co} : c.Kn n y ↔ ∃ (j : Nat) (z : Co × Wy), j < en ∧ xs[j]? = some z ∧ z.1 = y := by
  constructor
  · rintro ⟨u, h1, h2⟩
    obtain ⟨j, h3, h4⟩ := h.all y u h1 h2
    exact ⟨j, _, h3, h4, rfl⟩
  · rintro ⟨j, z, h1, h2, rfl⟩
    obtain ⟨h3, h4, h5⟩ := h.best j z h1 h2
    refine ⟨z.2, h3, ?_⟩
    by_cases hj : j < fr
    · exact Nat.le_of_lt (h4 hj)
    · exact Nat.le_of_eq (h5 (by omega))
/-- Two entries of one content are one. -/
theorem Cn.TabK.uniq {c : Cn} {xs : List (Co × Wy)} {ks : List Int} (h : c.TabK xs ks) {i j : Nat} {a b : Co × Wy} (ha : xs[i]? = some a) (hb : xs[j]? = some b) (he : a.1 = b.1) : i = j := by
  obtain ⟨hi, ei⟩ := List.getElem?_eq_some_iff.1 ha
  obtain ⟨hj, ej⟩ := List.getElem?_eq_some_iff.1 hb
  have h1 := h.nd
  rw [List.nodup_iff_pairwise_ne, List.pairwise_iff_getElem] at h1
  rcases Nat.lt_trichotomy i j with hl | rfl | hl
  · exact (h1 i j (by simpa using hi) (by simpa using hj) hl (by simp only [List.getElem_map, ei, ej, he])).elim
  · rfl
  · exact (h1 j i (by simpa using hj) (by simpa using hi) hl (by simp only [List.getElem_map, ei, ej, he])).elim
def addP (P : Co → Wy → Prop) (y : Co) (v : Wy) : Co → Wy → Prop := fun y' v' => P y' v' ∨ (y' = y ∧ v' = v)
def addL (look : Co → Option Wy) (y : Co) (v : Wy) : Co → Option Wy := fun y' => if y' = y then some (pickW (look y) v) else look y'
theorem Cn.RcI.zero {c : Cn} {n fr en : Nat} {P : Co → Wy → Prop} {look : Co → Option Wy} {xs : List (Co × Wy)} {ks : List Int} (h : c.RcI n fr en P look xs ks) (hn : c.n ≤ 3) {x : Co} {w : Wy} {p : Po} (hx : c.In x) (hxs : x.sm = c.co.sm) (hp : c.pE x p = 0) (hk : ks.getD (c.ky (c.stp x p)).toNat 0 = 0) :
    (∀ z ∈ xs, z.1 ≠ c.stp x p) ∧ look (c.stp x p) = none ∧ ¬ c.Kn n (c.stp x p) := by
  have hz : ∀ z ∈ xs, z.1 ≠ c.stp x p := by
    rcases h.tb.tab _ (hx.stp hn hp) ((Cn.stp_sm hn hp).trans hxs) with h1 | ⟨j, z, _, _, h3⟩
    · exact h1.2
    · omega
  refine ⟨hz, ?_, fun hkn => ?_⟩
  · cases hl : look (c.stp x p) with
    | none => rfl
    | some u =>
      obtain ⟨j, _, hj⟩ := (h.new _ _).1 hl
      exact absurd rfl (hz _ (List.mem_of_getElem? hj))
  · obtain ⟨j, z, _, hj, he⟩ := h.kn.1 hkn
    exact hz _ (List.mem_of_getElem? hj) he
theorem Cn.RcI.push {c : Cn} (hok : c.Ok) {n fr en : Nat} {P : Co → Wy → Prop} {look : Co → Option Wy} {xs : List (Co × Wy)} {ks : List Int} (h : c.RcI n fr en P look xs ks) {x : Co} {w : Wy} {p : Po} (hw : c.Lv n w x) (hp : c.pE x p = 0) (hk : ks.getD (c.ky (c.stp x p)).toNat 0 = 0) :
    c.RcI n fr en (addP P (c.stp x p) (c.nx w x p)) (addL look (c.stp x p) (c.nx w x p)) (xs ++ [(c.stp x p, c.nx w x p)]) (ks.set (c.ky (c.stp x p)).toNat ((xs.length : Int) + 1)) := by
  obtain ⟨hx, hxs⟩ := hw.1.way.in hok
  obtain ⟨hz, hl, hkn⟩ := h.zero (w := w) hok.n3 hx hxs hp hk
  refine ⟨h.tb.push hok (hx.stp hok.n3 hp) ((Cn.stp_sm hok.n3 hp).trans hxs) hk _, h.stp.put hw hp hkn, h.frl, by rw [List.length_append]; have := h.enl; omega, fun j z hj hjz => ?_, fun y u hu hul => ?_, fun y u => ?_, fun i j a b hij hj ha hb => ?_⟩
  · rw [List.getElem?_append_left (by have := h.enl; omega)] at hjz
    exact h.best j z hj hjz
  · obtain ⟨j, h1, h2⟩ := h.all y u hu hul
    exact ⟨j, h1, by rw [List.getElem?_append_left (by have := h.enl; omega)]; exact h2⟩
  · unfold addL
    by_cases hy : y = c.stp x p
    · subst hy
      rw [if_pos rfl, hl]
      change some (c.nx w x p) = some u ↔ _
      constructor
      · intro e; cases e; exact ⟨xs.length, h.enl, by simp⟩
      · rintro ⟨j, h1, h2⟩
        by_cases hj : j < xs.length
        · rw [List.getElem?_append_left hj] at h2
          exact absurd rfl (hz _ (List.mem_of_getElem? h2))
        · rw [List.getElem?_append_right (by omega)] at h2
          obtain ⟨_, h3⟩ := List.getElem?_eq_some_iff.1 h2
          simp only [List.getElem_singleton, Prod.mk.injEq, true_and] at h3
          rw [h3]
    · rw [if_neg hy, h.new]
      constructor
      · rintro ⟨j, h1, h2⟩
        exact ⟨j, h1, by rw [List.getElem?_append_left (List.getElem?_eq_some_iff.1 h2).1]; exact h2⟩
      · rintro ⟨j, h1, h2⟩
        by_cases hj : j < xs.length
        · rw [List.getElem?_append_left hj] at h2; exact ⟨j, h1, h2⟩
        · rw [List.getElem?_append_right (by omega)] at h2
          obtain ⟨_, h3⟩ := List.getElem?_eq_some_iff.1 h2
          simp only [List.getElem_singleton, Prod.mk.injEq] at h3
          exact absurd h3.1.symm hy
  · have := h.enl
    rw [List.getElem?_append_left (by omega)] at ha hb
    exact h.srt i j a b hij hj ha hb
theorem Cn.RcI.known {c : Cn} (hok : c.Ok) {n fr en : Nat} {P : Co → Wy → Prop} {look : Co → Option Wy} {xs : List (Co × Wy)} {ks : List Int} (h : c.RcI n fr en P look xs ks) {x : Co} {w : Wy} {p : Po} (hw : c.Lv n w x) (hp : c.pE x p = 0) (hk : ¬ ks.getD (c.ky (c.stp x p)).toNat 0 = 0) :
    ∃ (j : Nat) (u : Wy), xs[j]? = some (c.stp x p, u) ∧ ks.getD (c.ky (c.stp x p)).toNat 0 = (j : Int) + 1 ∧ (j < en → c.Kn n (c.stp x p)) ∧ (en ≤ j → look (c.stp x p) = some u ∧ u.l.length = n + 1 ∧ ¬ c.Kn n (c.stp x p)) := by
  obtain ⟨hx, hxs⟩ := hw.1.way.in hok
  rcases h.tb.tab _ (hx.stp hok.n3 hp) ((Cn.stp_sm hok.n3 hp).trans hxs) with h1 | ⟨j, z, h1, h2, h3⟩
  · exact absurd h1.1 hk
  · obtain ⟨y, u⟩ := z
    simp only at h2
    subst h2
    refine ⟨j, u, h1, h3, fun hj => h.kn.2 ⟨j, _, hj, h1, rfl⟩, fun hj => ?_⟩
    have hl := (h.new _ u).2 ⟨j, hj, h1⟩
    have hm := h.stp.min (c.stp x p)
    rw [hl] at hm
    obtain ⟨hn, x', w', p', hw', hp', he, rfl⟩ := h.stp.snd _ _ hm.1
    exact ⟨hl, by rw [c.nx_len, hw'.2], hn⟩
theorem Cn.RcI.upd {c : Cn} {n fr en : Nat} {P : Co → Wy → Prop} {look : Co → Option Wy} {xs : List (Co × Wy)} {ks : List Int} (h : c.RcI n fr en P look xs ks) {x : Co} {w : Wy} {p : Po} (hw : c.Lv n w x) (hp : c.pE x p = 0) {j : Nat} {u : Wy} (hj : xs[j]? = some (c.stp x p, u)) (hje : en ≤ j) (hl : look (c.stp x p) = some u) (hkn : ¬ c.Kn n (c.stp x p)) :
    c.RcI n fr en (addP P (c.stp x p) (c.nx w x p)) (addL look (c.stp x p) (c.nx w x p)) (xs.set j (c.stp x p, pickW (some u) (c.nx w x p))) ks := by
  have hjl := (List.getElem?_eq_some_iff.1 hj).1
  refine ⟨h.tb.upd hj _, h.stp.put hw hp hkn, h.frl, by rw [List.length_set]; exact h.enl, fun i z hi hiz => ?_, fun y v hv hvl => ?_, fun y v => ?_, fun i k a b hik hk ha hb => ?_⟩
  · rw [List.getElem?_set_ne (by omega)] at hiz
    exact h.best i z hi hiz
  · obtain ⟨i, h1, h2⟩ := h.all y v hv hvl
    exact ⟨i, h1, by rw [List.getElem?_set_ne (by omega)]; exact h2⟩
  · unfold addL
    by_cases hy : y = c.stp x p
    · subst hy
      rw [if_pos rfl, hl]
      constructor
      · intro e; cases e; exact ⟨j, hje, List.getElem?_set_self hjl⟩
      · rintro ⟨i, h1, h2⟩
        by_cases hij : j = i
        · subst hij
          rw [List.getElem?_set_self hjl] at h2
          simp only [Option.some.injEq, Prod.mk.injEq, true_and] at h2
          rw [h2]
        · rw [List.getElem?_set_ne hij] at h2
          exact absurd (h.tb.uniq hj h2 rfl) hij
    · rw [if_neg hy, h.new]
      constructor
      · rintro ⟨i, h1, h2⟩
        have hij : j ≠ i := fun e => by subst e; rw [hj] at h2; cases h2; exact hy rfl
        exact ⟨i, h1, by rw [List.getElem?_set_ne hij]; exact h2⟩
      · rintro ⟨i, h1, h2⟩
        by_cases hij : j = i
        · subst hij
          rw [List.getElem?_set_self hjl] at h2
          simp only [Option.some.injEq, Prod.mk.injEq] at h2
          exact absurd h2.1.symm hy
        · rw [List.getElem?_set_ne hij] at h2
          exact ⟨i, h1, h2⟩
  · rw [List.getElem?_set_ne (by omega)] at ha hb
    exact h.srt i k a b hik hk ha hb
theorem Cn.RcI.done {c : Cn} (hok : c.Ok) {n fr en : Nat} {P : Co → Wy → Prop} {look : Co → Option Wy} {xs : List (Co × Wy)} {ks : List Int} (h : c.RcI n fr en P look xs ks) (hd : ∀ (j : Nat) (z : Co × Wy), fr ≤ j → j < en → xs[j]? = some z → c.Dn n P z.1 z.2 (c.ps z.1).length) : c.Rc0 (n + 1) en xs ks := by
  have hlv := h.stp.level hok.n3 fun x w hw => by
    obtain ⟨j, h1, h2⟩ := h.all x w hw.1 (Nat.le_of_eq hw.2)
    refine hd j (x, w) ?_ h1 h2
    obtain ⟨_, h3, _⟩ := h.best j _ h1 h2
    have := hw.2
    refine Nat.le_of_not_lt fun hj => ?_
    have := h3 hj
    simp only at this
    omega
  have hnew : ∀ j z, en ≤ j → xs[j]? = some z → c.Lv (n + 1) z.2 z.1 := fun j z h1 h2 => Cn.eqO_iff.1 ((hlv z.1).symm.trans ((h.new z.1 z.2).2 ⟨j, h1, h2⟩))
  have hle : ∀ (j : Nat) (z : Co × Wy), j < en → xs[j]? = some z → z.2.l.length ≤ n := fun j z h1 h2 => by
    obtain ⟨_, h3, h4⟩ := h.best j z h1 h2
    by_cases hj : j < fr
    · exact Nat.le_of_lt (h3 hj)
    · exact Nat.le_of_eq (h4 (by omega))
  refine ⟨h.tb, h.enl, fun j z hz => ?_, fun y w hw hl => ?_, ?_⟩
  · by_cases hj : j < en
    · have := hle j z hj hz
      exact ⟨(h.best j z hj hz).1, fun _ => by omega, fun h => by omega⟩
    · have := hnew j z (by omega) hz
      exact ⟨this.1, fun h => by omega, fun _ => this.2⟩
  · by_cases hn : w.l.length ≤ n
    · obtain ⟨j, _, h2⟩ := h.all y w hw hn
      exact List.mem_of_getElem? h2
    · have : look y = some w := (hlv y).trans (Cn.eqO_iff.2 ⟨hw, by omega⟩)
      obtain ⟨j, _, h2⟩ := (h.new y w).1 this
      exact List.mem_of_getElem? h2
  · rw [List.pairwise_iff_getElem]
    intro i j hi hj hij
    have ei : xs[i]? = some xs[i] := List.getElem?_eq_getElem hi
    have ej : xs[j]? = some xs[j] := List.getElem?_eq_getElem hj
    by_cases hje : j < en
    · exact h.srt i j _ _ (Nat.le_of_lt hij) hje ei ej
    · have h1 := (hnew j _ (by omega) ej).2
      by_cases hie : i < en
      · have := hle i _ hie ei; omega
      · have := (hnew i _ (by omega) ei).2; omega
/-- All is reached. -/
structure Cn.Rcd (c : Cn) (xs : List (Co × Wy)) : Prop where
  best : ∀ z ∈ xs, c.Best z.2 z.1
  all : ∀ y w, c.Best w y → (y, w) ∈ xs
  nd : (xs.map Prod.fst).Nodup
  srt : xs.Pairwise fun a b => a.2.l.length ≤ b.2.l.length
  len : xs.length ≤ 9261
theorem Cn.Rc0.end {c : Cn} (hok : c.Ok) {n fr : Nat} {xs : List (Co × Wy)} {ks : List Int} (h : c.Rc0 n fr xs ks) (hf : xs.length ≤ fr) : c.Rcd xs := by
  have hno : ∀ w y, ¬ c.Lv n w y := fun w y hw => by
    obtain ⟨j, hj⟩ := List.getElem?_of_mem (h.all y w hw.1 (Nat.le_of_eq hw.2))
    have h1 := (List.getElem?_eq_some_iff.1 hj).1
    have h2 := (h.best j _ hj).2.1 (by omega)
    have := hw.2
    simp only at h2
    omega
  refine ⟨fun z hz => ?_, fun y w hw => h.all y w hw (Nat.le_of_lt (Cn.no_more hno hw)), h.tb.nd, h.srt, h.tb.bd hok⟩
  obtain ⟨j, hj⟩ := List.getElem?_of_mem hz
  exact (h.best j z hj).1
theorem Cn.Rc0.n_bd {c : Cn} (hok : c.Ok) {n fr : Nat} {xs : List (Co × Wy)} {ks : List Int} (h : c.Rc0 n fr xs ks) (hf : fr < xs.length) : n ≤ 9260 := by
  obtain ⟨h1, _, h3⟩ := h.best fr _ (List.getElem?_eq_getElem hf)
  rw [← h3 (Nat.le_refl _)]
  exact h1.len hok
theorem Cn.Rc0.first {c : Cn} (hok : c.Ok) : c.Rc0 0 0 [(c.co, ⟨[], 0⟩)] ((List.replicate 9261 0).set (c.ky c.co).toNat 1) := by
  have hb : c.Best ⟨[], 0⟩ c.co := (Cn.lv_zero.2 ⟨rfl, rfl⟩).1
  have h0 : c.TabK [] (List.replicate 9261 0) := by
    refine ⟨List.length_replicate, fun y hy hs => .inl ⟨?_, fun z hz => (by cases hz)⟩, fun z hz => (by cases hz), List.nodup_nil⟩
    have := Cn.ky_bd hok hy
    rw [List.getD_eq_getElem?_getD, List.getElem?_replicate, if_pos (by omega)]
    rfl
  have h1 := h0.push hok hok.co_in rfl (v := ⟨[], 0⟩) (by
    have := Cn.ky_bd hok hok.co_in
    rw [List.getD_eq_getElem?_getD, List.getElem?_replicate, if_pos (by omega)]
    rfl)
  refine ⟨h1, Nat.zero_le _, fun j z hz => ?_, fun y w hw hl => ?_, by simp⟩
  · obtain ⟨hj, e⟩ := List.getElem?_eq_some_iff.1 hz
    simp only [List.length_singleton] at hj
    obtain rfl : j = 0 := by omega
    simp only [List.getElem_singleton] at e
    subst e
    exact ⟨hb, fun h => by omega, fun _ => rfl⟩
  · obtain ⟨rfl, rfl⟩ := Cn.lv_zero.1 ⟨hw, Nat.le_zero.1 hl⟩
    exact List.mem_singleton.2 rfl
theorem Cn.Dn.step {c : Cn} {n : Nat} {P P' : Co → Wy → Prop} (hP : ∀ y v, P y v → P' y v) {x : Co} {w : Wy} {k : Nat} (h : c.Dn n P x w k) (hk : ¬ c.Kn n (c.stp x ((c.ps x).getD k Po.z)) → P' (c.stp x ((c.ps x).getD k Po.z)) (c.nx w x ((c.ps x).getD k Po.z))) : c.Dn n P' x w (k + 1) := fun j hj hn => by
  by_cases he : j = k
  · subst he; exact hk hn
  · exact hP _ _ (h j (by omega) hn)
/-- The same, for a table of ways: its length. -/
theorem good_len {c : Cn} (hok : c.Ok) {HX : List Blk} {l : List (EntK Co)} {ck : Nat} (hg : GoodM l ck) (hT : Tab HX l c.bestO) : l.length ≤ 9261 := by
  have hin : ∀ y ∈ l, c.In y.1 ∧ y.1.sm = c.co.sm := fun y hy => by
    obtain ⟨x, _, h2, _⟩ := hT.mem hg hy
    exact (Cn.bestO_iff.1 h2).way.in hok
  have hnd : (l.map fun y => (c.ky y.1).toNat).Nodup := by
    have h1 := hg.keys
    rw [List.nodup_iff_pairwise_ne, List.pairwise_map] at h1 ⊢
    refine h1.imp_of_mem fun {a b} ha hb hab he => hab ?_
    obtain ⟨a1, a2⟩ := hin a ha
    obtain ⟨b1, b2⟩ := hin b hb
    have k1 := Cn.ky_bd hok a1
    have k2 := Cn.ky_bd hok b1
    exact Cn.ky_inj hok a1 b1 (a2.trans b2.symm) (by omega)
  have := nodup_bd (N := 9261) hnd fun n hn => by
    obtain ⟨y, hy, rfl⟩ := List.mem_map.1 hn
    have := Cn.ky_bd hok (hin y hy).1
    omega
  rwa [List.length_map] at this
end Go.Proofs.YtjekjehgmljbgaaDoor.T

namespace Go.Proofs.YtjekjehgmljbgaaDoor.T
open Go.RowKit Go.Proofs Go.Eng
set_option maxRecDepth 100000
set_option maxHeartbeats 1000000
set_option linter.unusedVariables false
set_option linter.unusedSimpArgs false

theorem bs162_1_0 {x0_0a : Option Addr} {x0_0l x0_0c : Nat} {x0_1 : Int} : ∀ w, (Instr.buildSlice 162 1 #[(0, .agg #[.slice x0_0a x0_0l x0_0c, .int .i64 x0_1])]).run Tryd.prog w = .ok (.slice (some ⟨w.heap.size, 0, none⟩) 1 1) (w.alloc (CB [.slice x0_0a x0_0l x0_0c, .int .i64 x0_1] 112)) := fun w => by kernel_rfl

/-- A function value that tells of contents; what it reads lies among some blocks, or in the memory of the start. -/
structure AimOk (P : Program) (w0 : World) (HA : List Blk) (fid : FuncId) (first caps : List Value) (Q : Co → Prop) (p : Co → Bool) : Prop where
  enter : ∀ args w, (callFunc fid args).run P w = .ok (.enter fid args) w
  call : ∀ x, Q x → ∀ (C : Ctx) (H : List Blk) (w : World), C.w0 = w0 → HA.Sublist H → St C H w → Ct P fid (first ++ (Value.agg x.cells.toArray :: caps)).toArray w fun v _ => v = .bool (p x)
def wRow (xs : List Wl) : List Value := rowOf Wl.cells (fun k => xs.getD k Wl.z) xs.length
theorem wRow_snoc (xs : List Wl) (y : Wl) : wRow (xs ++ [y]) = wRow xs ++ y.cells := by
  unfold wRow
  rw [List.length_append, List.length_singleton, rowOf_succ]
  congr 1
  · exact rowOf_congr _ fun k hk => by simp [List.getD_eq_getElem?_getD, List.getElem?_append_left hk]
  · simp [List.getD_eq_getElem?_getD]
theorem infWay : (Tryd.prog.info? 112).map (fun i => (i.zero, i.size, i.bytes)) = some (some (.agg #[.slice none 0 0, .int .i64 0]), 2, 32) := by kernel_rfl
def addX (p : Co → Bool) (xs : List Wl) (x : Co) (y : Wl) : List Wl := if p x then xs ++ [y] else xs
theorem add_cs (w0 : World) (ds0 out0 : List Deferred) (bso bl : Nat) (fid : FuncId) (first caps : List Value) (Q : Co → Prop) (p : Co → Bool) (HA : List Blk) (hA : AimOk Tryd.prog w0 HA fid first caps Q p) (x : Co) (hq : Q x) (y : Wl) (xs : List Wl) (a : Option Addr) (cap : Nat) (G Hr : List Blk)
    (hrow : NewRow 112 2 xs.length (wRow xs) (.slice a xs.length cap) Hr) (hlen : xs.length ≤ 1000000) (hHA : HA.Sublist G) :
    Cs ⟨Tryd.prog, w0, ds0, out0⟩ 96 #[.agg x.cells.toArray, y.v, .pointer (some ⟨bso, 0, none⟩), .pointer (some ⟨bl, 0, none⟩)] ((bl, CB [.slice a xs.length cap] 162) :: (bso, CB [.func (.func fid) first.toArray caps.toArray] 117) :: (G ++ Hr)) fun v Hn => v = .tuple #[] ∧ ∃ a' cap' Hr', NewRow 112 2 (addX p xs x y).length (wRow (addX p xs x y)) (.slice a' (addX p xs x y).length cap') Hr' ∧ Hn = (bl, CB [.slice a' (addX p xs x y).length cap'] 162) :: (bso, CB [.func (.func fid) first.toArray caps.toArray] 117) :: (G ++ Hr') := by
  have hF := wide_wide
  refine Cs_start (args := [_, _, _, _]) Tryd.func96 (by rfl) Tryd.ntmps96 (by rfl) ?_
  refine W_seq ?_
  refine W_region_lit (fun ds => ?_)
  refine WS_new hF (by rfl) (y_box (by rfl)) (fun b1 => ?_)
  refine WS_new hF (by rfl) (y_box (by rfl)) (fun b2 => ?_)
  refine WS_nil ?_
  refine Then_normal ?_
  refine W_seq ?_
  refine W_region_lit (fun ds => ?_)
  refine WS_det hF (by rfl) (y_load1 (by rfl) Tryd.isAgg117 (Mem.own1 3 (by rfl) (by rfl))) ?_
  refine WS_det hF (by rfl) (y_loadN (by rfl) Tryd.isAgg99 Tryd.sizeOf99 (Mem.own (us := [.int .i64 _, .int .i64 _, .int .i64 _, .int .i64 _]) 1 (by rfl) (by rfl)) (by rfl)) ?_
  refine WS_det hF (by rfl) (y_callL (first := first) (captured := caps) (by rfl) (by rfl) hA.enter (fun w hw => hA.call x hq _ _ w rfl (hHA.trans sbA) hw)) ?_
  refine WS_nil ?_
  refine Then_normal ?_
  refine W_cond (by rfl) (fun c1 => ?_) (fun c1 => ?_)
  ·
    try simp only [Bool.not_eq_true', Bool.not_eq_false', decide_eq_true_eq, decide_eq_false_iff_not, ne_eq, Classical.not_not, Int.not_lt, Int.not_le] at c1
    refine W_region_lit (fun ds => ?_)
    refine WS_det hF (by rfl) (y_load1 (by rfl) Tryd.isAgg162 (Mem.own1 2 (by rfl) (by rfl))) ?_
    refine WS_det hF (by rfl) (y_loadN (by rfl) Tryd.isAgg112 Tryd.sizeOf112 (Mem.own (us := [.slice _ _ _, .int .i64 _]) 0 (by rfl) (by rfl)) (by rfl)) ?_
    refine WS_newS hF (by rfl) (y_buildSliceL bs162_1_0 (by rfl)) (fun b3 => ?_)
    refine WS_appendN hF (H1 := (_ :: _ :: _ :: _ :: _ :: (G))) (Hn := Hr) (by rfl) (by rfl) (by rfl) Tryd.underlying162 infWay (by rfl) (by rfl) hrow (rowOf_len wl_len _ _) (.inr ⟨_, _, rfl, Mem.own (us := [.slice _ _ _, .int _ _]) 0 (by rfl) (by rfl)⟩) (by rfl) (by rfl) (by omega) (by omega) (by omega) ?_
    intro a3 cap3 H3 hr3
    refine WS_store hF (i := 3) (by rfl) (by rfl) Tryd.sizeOf162 (by rfl) (by rfl) (by rfl) (by first | decide | exact Nat.le_of_ble_eq_true rfl | simp) ?_
    refine WS_nil ?_
    refine Fin_norm [] ((bl, _) :: (bso, _) :: (G ++ H3)) Tryd.results96 trivial (HSub.sub sbA) ?_
    rw [show addX p xs x y = xs ++ [y] from if_pos c1, wRow_snoc, List.length_append]
    exact ⟨rfl, a3, cap3, H3, hr3, rfl⟩
  ·
    try simp only [Bool.not_eq_true', Bool.not_eq_false', decide_eq_true_eq, decide_eq_false_iff_not, ne_eq, Classical.not_not, Int.not_lt, Int.not_le] at c1
    refine W_skip ?_
    refine Fin_norm [] ((bl, _) :: (bso, _) :: (G ++ Hr)) Tryd.results96 trivial (HSub.sub sbA) ?_
    rw [show addX p xs x y = xs from if_neg (by simp [c1])]
    exact ⟨rfl, a, cap, Hr, hrow, rfl⟩
/-- The ways that were taken, of the entries that were seen. -/
structure FwI (c : Cn) (p : Co → Bool) (l : List (EntK Co)) (HX : List Blk) (seen : Array Nat) (xs : List Wl) : Prop where
  snd : ∀ y ∈ xs, ∃ k, p k = true ∧ c.Best y.w k ∧ y.RdH HX
  cmp : ∀ e ∈ l, e.2.2 ∈ seen → p e.1 = true → ∃ y ∈ xs, c.Best y.w e.1
  len : xs.length + leftL l seen ≤ l.length
theorem FwI.nil (c : Cn) (p : Co → Bool) (l : List (EntK Co)) (HX : List Blk) : FwI c p l HX #[] [] := ⟨fun y h => (by cases h), fun e _ h => (by simp at h), (by rw [List.length_nil, Nat.zero_add]; exact List.length_filter_le _ _)⟩
theorem FwI.step {c : Cn} {p : Co → Bool} {l : List (EntK Co)} {HX : List Blk} {seen : Array Nat} {xs : List Wl} (h : FwI c p l HX seen xs) {k : Co} {y : Wl} {bn : Nat} (hy : (k, y.v, bn) ∈ l) (hb : (l.map (·.2.2)).Nodup) (hns : bn ∉ seen) (hbst : c.Best y.w k) (hr : y.RdH HX) :
    FwI c p l HX (seen.push bn) (addX p xs k y) := by
  have hlt := leftL_lt (l := l) (seen := seen) (y := (k, y.v, bn)) hy hns
  unfold addX
  refine ⟨fun z hz => ?_, fun e he hs hp => ?_, ?_⟩
  · split at hz
    · rename_i hp
      rcases List.mem_append.1 hz with hz | hz
      · exact h.snd z hz
      · simp only [List.mem_singleton] at hz; subst hz; exact ⟨k, hp, hbst, hr⟩
    · exact h.snd z hz
  · rcases Array.mem_push.1 hs with hs | hs
    · obtain ⟨z, hz, hzv⟩ := h.cmp e he hs hp
      refine ⟨z, ?_, hzv⟩
      split
      · exact List.mem_append_left _ hz
      · exact hz
    · have : ∀ {l : List (EntK Co)}, (l.map (·.2.2)).Nodup → e ∈ l → (k, y.v, bn) ∈ l → e = (k, y.v, bn) := by
        intro l
        induction l with
        | nil => intro _ h; cases h
        | cons z l ih =>
          intro hn a1 a2
          rw [List.map_cons, List.nodup_cons] at hn
          rcases List.mem_cons.1 a1 with e1 | e1
          · rcases List.mem_cons.1 a2 with e2 | e2
            · rw [e1, e2]
            · exact absurd (List.mem_map.2 ⟨_, e2, by rw [← e1]; exact hs.symm⟩) hn.1
          · rcases List.mem_cons.1 a2 with e2 | e2
            · exact absurd (List.mem_map.2 ⟨_, e1, by rw [← e2]; exact hs⟩) hn.1
            · exact ih hn.2 e1 e2
      have he := this hb he hy
      subst he
      rw [if_pos hp]
      exact ⟨y, List.mem_append_right _ (List.mem_singleton.2 rfl), hbst⟩
  · have := h.len
    split
    · rw [List.length_append, List.length_singleton]
      change xs.length + 1 + leftL l (seen.push bn) ≤ l.length
      change leftL l (seen.push bn) < leftL l seen at hlt
      omega
    · change leftL l (seen.push bn) < leftL l seen at hlt
      omega
theorem FwI.few {c : Cn} {p : Co → Bool} {l : List (EntK Co)} {ck : Nat} {HX : List Blk} {seen : Array Nat} {xs : List Wl} (h : FwI c p l HX seen xs) (hT : Tab HX l c.bestO) (hov : ∀ x ∈ l, x.2.2 ∈ seen) {k : Co} {v : Wy} (hp : p k = true) (hb : c.Best v k) : ∃ y ∈ xs, y.w = v := by
  obtain ⟨e, he, rfl⟩ := hT.has (Cn.bestO_iff.2 hb)
  obtain ⟨y, hy, hyb⟩ := h.cmp e he (hov e he) hp
  exact ⟨y, hy, hyb.uniq hb⟩
/-- The best way to what is wanted, of all ways of a map. -/
structure FewV (c : Cn) (p : Co → Bool) (HX : List Blk) (x : Wl) (b : Bool) : Prop where
  rd : x.RdH HX
  yes : b = true → (∃ k, p k = true ∧ c.Best x.w k) ∧ ∀ k v, p k = true → c.Best v k → v.lt x.w = false
  no : b = false → x = Wl.z ∧ ∀ k v, p k = true → ¬ c.Best v k
theorem fewest_cs (w0 : World) (ds0 out0 : List Deferred) (mk ck : Nat) (l : List (EntK Co)) (c : Cn) (HX : List Blk) (fid : FuncId) (first caps : List Value) (p : Co → Bool) (hg : GoodM l ck) (hT : Tab HX l c.bestO) (HA : List Blk) (hA : AimOk Tryd.prog w0 HA fid first caps c.In p) (hHA : HA.Sublist HX) (hok : c.Ok) :
    Cs ⟨Tryd.prog, w0, ds0, out0⟩ 58 #[.map (some mk), .func (.func fid) first.toArray caps.toArray] ((mk, MK encC l ck) :: HX) fun v Hn => ∃ (x : Wl) (b : Bool), v = .tuple #[x.v, .bool b] ∧ FewV c p HX x b ∧ Hn = (mk, MK encC l ck) :: HX := by
  have hln := good_len hok hg hT
  have hF := wide_wide
  refine Cs_start (args := [_, _]) Tryd.func58 (by rfl) Tryd.ntmps58 (by rfl) ?_
  refine W_seq ?_
  refine W_region_lit (fun ds => ?_)
  refine WS_new hF (by rfl) (y_box (by rfl)) (fun bso => ?_)
  refine WS_new hF (by rfl) (y_alloc Tryd.zeroValue112 (by rfl)) (fun b4 => ?_)
  refine WS_det hF (by rfl) (y_assign (c := .bool _) (by rfl)) ?_
  refine WS_nil ?_
  refine Then_normal ?_
  refine W_seq ?_
  refine W_region_lit (fun ds => ?_)
  refine WS_new hF (by rfl) (y_alloc Tryd.zeroValue162 (by rfl)) (fun bl => ?_)
  refine WS_nil ?_
  refine Then_normal ?_
  refine W_seq ?_
  refine W_region_lit (fun ds => ?_)
  refine WS_det hF (by rfl) (y_makeFuncL (by rfl) (by rfl)) ?_
  refine WS_det hF (by rfl) (y_assign (c := _) (by rfl)) ?_
  refine WS_nil ?_
  refine Then_normal ?_
  refine W_seq ?_
  refine W_seq ?_
  refine W_region_lit (fun ds => ?_)
  refine WS_det hF (by rfl) (y_move (c := .map _) (by rfl)) ?_
  refine WS_pull (bso, _) (by repeat (first | exact Pul.base0 | exact Pul.base | apply Pul.cons | apply Pul.app)) ?_
  refine WS_pull (bl, _) (by repeat (first | exact Pul.base0 | exact Pul.base | apply Pul.cons | apply Pul.app)) ?_
  refine WS_new hF (by rfl) (y_rangeK (enc := encC) (i := 3) (by rfl) Tryd.underlying115 (by rfl)) (fun it => ?_)
  refine WS_nil ?_
  refine Then_normal ?_
  refine W_block ?_
  refine W_loop (γ := Array Nat × Nat × List Wl × Option Addr × Nat × List Blk) (fun q => FwI c p l HX q.1 q.2.2.1 ∧ ck ≤ q.2.1 ∧ NewRow 112 2 q.2.2.1.length (wRow q.2.2.1) (.slice q.2.2.2.1 q.2.2.1.length q.2.2.2.2.1) q.2.2.2.2.2) (fun q => [(4, .pointer (some ⟨b4, 0, none⟩)), (6, .pointer (some ⟨bl, 0, none⟩)), (7, .func (.func 96) #[] #[.pointer (some ⟨bso, 0, none⟩), .pointer (some ⟨bl, 0, none⟩)]), (12, .pointer (some ⟨it, 0, none⟩))]) (fun q => (it, .mapIter (some mk) ck q.1 q.2.1) :: (bl, CB [.slice q.2.2.2.1 q.2.2.1.length q.2.2.2.2.1] 162) :: (bso, CB [.func (.func fid) first.toArray caps.toArray] 117) :: (b4, CB [.slice none 0 0, .int .i64 0] 112) :: (mk, MK encC l ck) :: (HX ++ q.2.2.2.2.2)) (fun q => leftL l q.1) ((#[], ck, [], none, 0, [])) ⟨FwI.nil c p l HX, Nat.le_refl _, ⟨none, 0, rfl, Nat.le_refl _, .inr ⟨rfl, rfl, rfl⟩⟩⟩ (by repeat (first | exact trivial | refine ⟨by rfl, ?_⟩)) ((by simp only [List.append_nil]; exact sbA)) ?_
  rintro ⟨seen, c0, xs, a, cap, Hr⟩ e ⟨hI, hc0, hrow⟩
  refine W_seq ?_
  refine W_region_lit (fun ds => ?_)
  refine WS_nextK hF (enc := encC) (i := 0) (j := 4) (by rfl) (by rfl) (by rfl) (by rfl) hg.old hc0 (fun hov => ?_) (fun y hy hns => ?_)
  ·
    have hlx : xs.length + leftL l seen ≤ l.length := hI.len
    refine WS_det hF (by rfl) (y_extract (c := .bool _) (by rfl) (by rfl)) ?_
    refine WS_nil ?_
    refine Then_normal ?_
    refine W_seq ?_
    refine W_cond (by rfl) (fun c4 => ?_) (fun c4 => ?_)
    · cases c4
    ·
      try simp only [Bool.not_eq_true', Bool.not_eq_false', decide_eq_true_eq, decide_eq_false_iff_not, ne_eq, Classical.not_not, Int.not_lt, Int.not_le] at c4
      refine W_exit ?_
      refine Then_exit ?_
      refine Loop_exit ?_
      refine InB_same ?_
      refine Then_normal ?_
      refine W_seq ?_
      refine W_seq ?_
      refine W_region_lit (fun ds => ?_)
      refine WS_det hF (by rfl) (y_load1 (by rfl) Tryd.isAgg162 (Mem.own1 1 (by rfl) (by rfl))) ?_
      refine WS_det hF (by rfl) (y_len (by rfl) Tryd.runUnderlying162) ?_
      refine WS_det hF (by rfl) (y_eql (by rfl) (by rfl)) ?_
      refine WS_nil ?_
      refine Then_normal ?_
      refine W_cond (by rfl) (fun c7 => ?_) (fun c7 => ?_)
      ·
        try simp only [Bool.not_eq_true', Bool.not_eq_false', decide_eq_true_eq, decide_eq_false_iff_not, ne_eq, Classical.not_not, Int.not_lt, Int.not_le] at c7
        refine W_seq ?_
        refine W_region_lit (fun ds => ?_)
        refine WS_det hF (by rfl) (y_buildL bd112 (by rfl)) ?_
        refine WS_store hF (i := 3) (by rfl) (by rfl) Tryd.sizeOf112 (by rfl) (by rfl) (by rfl) (by first | decide | exact Nat.le_of_ble_eq_true rfl | simp) ?_
        refine WS_det hF (by rfl) (y_assign (c := .bool _) (by rfl)) ?_
        refine WS_nil ?_
        refine Then_normal ?_
        refine W_ret ?_
        refine Then_ret ?_
        refine Fin_ret [_, .bool _] ((mk, _) :: HX) Tryd.results58 ⟨lvN (by rfl) Tryd.isAgg112 Tryd.sizeOf112 (Mem.own (us := [.slice _ _ _, .int .i64 _]) 3 (by rfl) (by rfl)) (by rfl), by rfl, trivial⟩ (HSub.sub sbA) ?_
        have h0 : xs = [] := List.eq_nil_of_length_eq_zero (by omega)
        subst h0
        refine ⟨Wl.z, false, rfl, ⟨Wl.RdH.z HX, fun h => (by cases h), fun _ => ⟨rfl, fun k v hk hv => ?_⟩⟩, rfl⟩
        obtain ⟨y, hy, _⟩ := hI.few (ck := ck) hT hov hk hv
        cases hy
      ·
        try simp only [Bool.not_eq_true', Bool.not_eq_false', decide_eq_true_eq, decide_eq_false_iff_not, ne_eq, Classical.not_not, Int.not_lt, Int.not_le] at c7
        refine W_skip ?_
        refine Then_normal ?_
        refine W_seq ?_
        refine W_region_lit (fun ds => ?_)
        refine WS_det hF (by rfl) (y_load1 (by rfl) Tryd.isAgg162 (Mem.own1 1 (by rfl) (by rfl))) ?_
        refine WS_gen hF (by rfl) (y_callL (by rfl) (by rfl) Tryd.call97 (fun w hw => firstW_any a xs.length cap xs w (by omega) (by omega) (NewRow.rws wl_len hrow rfl sbA w hw) (fun y hy => by obtain ⟨_, _, _, hr⟩ := hI.snd y hy; exact hr _ _ w sbA hw))) ?_
        rintro _ HL ⟨fx, hfm, rfl, hfmin⟩
        refine WS_back ?_
        refine WS_store hF (i := 3) (by rfl) (by rfl) Tryd.sizeOf112 (by rfl) (by rfl) (by rfl) (by first | decide | exact Nat.le_of_ble_eq_true rfl | simp) ?_
        refine WS_det hF (by rfl) (y_assign (c := .bool _) (by rfl)) ?_
        refine WS_nil ?_
        refine Then_normal ?_
        refine W_ret ?_
        refine Fin_ret [_, .bool _] ((mk, _) :: HX) Tryd.results58 ⟨lvN (by rfl) Tryd.isAgg112 Tryd.sizeOf112 (Mem.own (us := [.slice _ _ _, .int .i64 _]) 3 (by rfl) (by rfl)) (by rfl), by rfl, trivial⟩ (HSub.sub sbA) ?_
        obtain ⟨fk, hfp, hfb, hfr⟩ := hI.snd fx hfm
        refine ⟨fx, true, rfl, ⟨hfr, fun _ => ⟨⟨fk, hfp, hfb⟩, fun k v hk hv => ?_⟩, fun h => (by cases h)⟩, rfl⟩
        obtain ⟨y, hy, rfl⟩ := hI.few (ck := ck) hT hov hk hv
        exact hfmin y hy
  ·
    obtain ⟨xk, v, bn⟩ := y
    obtain ⟨y, hvy, hyl, hyr⟩ := hT.mem hg hy
    change v = y.v at hvy
    subst hvy
    have hyb : c.Best y.w xk := Cn.bestO_iff.1 hyl
    have hq := (hyb.way.in hok).1
    have hlx : xs.length + leftL l seen ≤ l.length := hI.len
    refine WS_det hF (by rfl) (y_extract (c := .bool _) (by rfl) (by rfl)) ?_
    refine WS_nil ?_
    refine Then_normal ?_
    refine W_seq ?_
    refine W_cond (by rfl) (fun c4 => ?_) (fun c4 => ?_)
    ·
      try simp only [Bool.not_eq_true', Bool.not_eq_false', decide_eq_true_eq, decide_eq_false_iff_not, ne_eq, Classical.not_not, Int.not_lt, Int.not_le] at c4
      refine W_skip ?_
      refine Then_normal ?_
      refine W_block ?_
      refine W_seq ?_
      refine W_region_lit (fun ds => ?_)
      refine WS_det hF (by rfl) (y_entryK (enc := encC) (y := (xk, y.v, bn)) (i := 0) (j := 4) (by rfl) (by rfl) (by rfl) hy hg.born) ?_
      refine WS_det hF (by rfl) (y_extract (c := .agg _) (by rfl) (by rfl)) ?_
      refine WS_det hF (by rfl) (y_extract (c := .agg _) (by rfl) (by rfl)) ?_
      refine WS_new hF (by rfl) (y_alloc Tryd.zeroValue99 (by rfl)) (fun b8 => ?_)
      refine WS_new hF (by rfl) (y_alloc Tryd.zeroValue112 (by rfl)) (fun b9 => ?_)
      refine WS_store hF (i := 1) (by rfl) (by rfl) Tryd.sizeOf99 (by rfl) (by rfl) (by rfl) (by first | decide | exact Nat.le_of_ble_eq_true rfl | simp) ?_
      refine WS_store hF (i := 0) (by rfl) (by rfl) Tryd.sizeOf112 (by rfl) (by rfl) (by rfl) (by first | decide | exact Nat.le_of_ble_eq_true rfl | simp) ?_
      refine WS_nil ?_
      refine Then_normal ?_
      refine W_region_lit (fun ds => ?_)
      refine WS_det hF (by rfl) (y_move (c := _) (by rfl)) ?_
      refine WS_det hF (by rfl) (y_loadN (by rfl) Tryd.isAgg99 Tryd.sizeOf99 (Mem.own (us := [.int .i64 _, .int .i64 _, .int .i64 _, .int .i64 _]) 1 (by rfl) (by rfl)) (by rfl)) ?_
      refine WS_det hF (by rfl) (y_loadN (by rfl) Tryd.isAgg112 Tryd.sizeOf112 (Mem.own (us := [.slice _ _ _, .int .i64 _]) 0 (by rfl) (by rfl)) (by rfl)) ?_
      refine WS_pull (bso, _) (by repeat (first | exact Pul.base0 | exact Pul.base | apply Pul.cons | apply Pul.app)) ?_
      refine WS_pull (bl, _) (by repeat (first | exact Pul.base0 | exact Pul.base | apply Pul.cons | apply Pul.app)) ?_
      refine WS_callS hF (by rfl) (by rfl) (by rfl) Tryd.call96 (add_cs _ _ _ bso bl fid first caps c.In p HA hA xk hq y xs a cap (_ :: _ :: _ :: _ :: _ :: HX) Hr hrow (by omega) (hHA.trans sbA)) ?_
      rintro _ _ ⟨rfl, a2, cap2, Hr2, hrow2, rfl⟩
      refine WS_pull (it, _) (by repeat (first | exact Pul.base0 | exact Pul.base | apply Pul.cons | apply Pul.app)) ?_
      refine WS_nil ?_
      refine InB_normal ?_
      exact Loop_next (seen.push bn, ck, addX p xs xk y, a2, cap2, Hr2) ⟨hI.step hy hg.born hns hyb hyr, Nat.le_refl _, hrow2⟩ (by repeat (first | exact trivial | refine ⟨by rfl, ?_⟩)) sbA (leftL_lt hy hns)
    · cases c4
end Go.Proofs.YtjekjehgmljbgaaDoor.T
