/- Cans from which a pouring leads to some: the program's walk. -/
import Derived.Test.YtjekjehgmljbgaaDoorMb2
import Derived.Test.YtjekjehgmljbgaaDoorMb1
import Derived.OrdersIn
import Derived.Lib.SlicesCompact
import Derived.Shelf.RegionOpenPlain
import Derived.WalkKit
import Derived.Deep.LoopGhost
import Derived.Deep.Draws
import Derived.Deep.QuietTactic
import Derived.BigQuiet
import Derived.Lib.Walk
import Derived.Lib.Small
import Derived.Sort.Grow
import Derived.Shelf.SortG.Plain
import Derived.Shelf.SlicesG.CompactI
import Derived.Shelf.SlSortCmp.WholeK
set_option linter.unusedVariables false
set_option linter.unusedSimpArgs false
/- The program's pourings, walked. -/
namespace Go.Proofs.YtjekjehgmljbgaaDoor.T
open Go.RowKit Go.Proofs Go.Eng
set_option maxRecDepth 100000
set_option maxHeartbeats 1000000
set_option linter.unusedVariables false
set_option linter.unusedSimpArgs false

theorem fa96_0 : ∀ b o w, (Instr.fieldAt 96 (.pointer (some ⟨b, o, none⟩)) 0).run Tryd.prog w = .ok (.pointer (some ⟨b, o + 0, none⟩)) w := fun b o w => by kernel_rfl

theorem broom_any (c : Cn) (a1 : Option Addr) (p1 : Nat) (a2 : Option Addr) (p2 : Nat) (t : Nat) (w : World) (hn : c.n ≤ 1000000) (hm : c.inn.length ≤ 1000000) (h1 : Ints w a1 c.n p1 c.sz) (h2 : Ints w a2 c.inn.length p2 c.inn) (ht : t ≤ c.n) : Ct Tryd.prog 86 #[.agg #[.slice a1 c.n p1, .slice a2 c.inn.length p2, .int .i64 c.st], .int .i64 (t : Int)] w fun v _ => v = .int .i64 (c.room t) := by
  have hsz : c.sz.length = c.n := rfl
  have hF := wide_wide
  refine Ct_start (args := [_, _]) Tryd.func86 (by rfl) Tryd.ntmps86 (by rfl) ?_
  refine W_seq ?_
  refine W_region_lit (fun ds => ?_)
  refine WS_new hF (by rfl) (y_box (by rfl)) (fun b1 => ?_)
  refine WS_det hF (by rfl) (y_assign (c := .int .i64 _) (by rfl)) ?_
  refine WS_nil ?_
  refine Then_normal ?_
  refine W_seq ?_
  refine W_seq ?_
  refine W_region_lit (fun ds => ?_)
  refine WS_det hF (by rfl) (y_move (c := .int .i64 _) (by rfl)) ?_
  refine WS_det hF (by rfl) (y_eql (by rfl) (by rfl)) ?_
  refine WS_nil ?_
  refine Then_normal ?_
  refine W_cond (by rfl) (fun c1 => ?_) (fun c1 => ?_)
  ·
    try simp only [Bool.not_eq_true', Bool.not_eq_false', decide_eq_true_eq, decide_eq_false_iff_not, ne_eq, Classical.not_not, Int.not_lt, Int.not_le] at c1
    refine W_seq ?_
    refine W_region_lit (fun ds => ?_)
    refine WS_det hF (by rfl) (y_assign (c := .int .i64 _) (by rfl)) ?_
    refine WS_nil ?_
    refine Then_normal ?_
    refine W_ret ?_
    refine Then_ret ?_
    refine Fin_ret [.int .i64 _] [] Tryd.results86 ⟨by rfl, trivial⟩ HSub.nil ?_
    obtain rfl : t = 0 := by omega
    rfl
  ·
    try simp only [Bool.not_eq_true', Bool.not_eq_false', decide_eq_true_eq, decide_eq_false_iff_not, ne_eq, Classical.not_not, Int.not_lt, Int.not_le] at c1
    obtain ⟨j, rfl⟩ : ∃ j, t = j + 1 := ⟨t - 1, by omega⟩
    obtain ⟨b, o, rfl, hc⟩ := h1.cell j (by omega)
    change At w b _ [.int .i64 (c.s j)] at hc
    refine W_skip ?_
    refine Then_normal ?_
    refine W_seq ?_
    refine W_region_lit (fun ds => ?_)
    refine WS_det hF (by rfl) (y_fieldAddr (by rfl) fa96_0) ?_
    refine WS_det hF (by rfl) (y_fieldAddr (by rfl) fa24_0) ?_
    refine WS_det hF (by rfl) (y_load1 (by rfl) Tryd.isAgg22 (Mem.own1 0 (by rfl) (by rfl))) ?_
    refine WS_det hF (by rfl) (y_move (c := .int .i64 _) (by rfl)) ?_
    refine WS_det hF (by rfl) (y_sub (by rfl) (by rfl) (by unfold I64; omega)) ?_
    refine WS_det hF (by rfl) (y_index (k := j) (by rfl) (by rfl) (by first | rfl | omega) (by first | decide | omega) Tryd.runUnderlying22 Tryd.sizeOf3) ?_
    refine WS_det hF (by rfl) (y_load1 (by rfl) Tryd.isAgg3 (by first | exact Mem.old1 (by assumption) | exact Mem.oldAt1 (by assumption) (by rfl) | exact Mem.old (by assumption) | exact Mem.oldAtL1 (by assumption) (by rfl) (by rfl))) ?_
    refine WS_det hF (by rfl) (y_assign (c := .int .i64 _) (by rfl)) ?_
    refine WS_nil ?_
    refine Then_normal ?_
    refine W_ret ?_
    refine Fin_ret [.int .i64 _] [] Tryd.results86 ⟨by rfl, trivial⟩ HSub.nil ?_
    rfl
theorem bvalid_any (c : Cn) (a1 : Option Addr) (p1 : Nat) (a2 : Option Addr) (p2 : Nat) (p : Po) (w : World) : Ct Tryd.prog 48 #[.agg #[.slice a1 c.n p1, .slice a2 c.inn.length p2, .int .i64 c.st], .agg p.cells.toArray] w fun v _ => v = .bool (c.vldB p) := by
  have hF := wide_wide
  refine Ct_start (args := [_, _]) Tryd.func48 (by rfl) Tryd.ntmps48 (by rfl) ?_
  refine W_seq ?_
  refine W_region_lit (fun ds => ?_)
  refine WS_new hF (by rfl) (y_box (by rfl)) (fun b1 => ?_)
  refine WS_new hF (by rfl) (y_box (by rfl)) (fun b2 => ?_)
  refine WS_det hF (by rfl) (y_assign (c := .bool _) (by rfl)) ?_
  refine WS_nil ?_
  refine Then_normal ?_
  refine W_seq ?_
  refine W_region_lit (fun ds => ?_)
  refine WS_det hF (by rfl) (y_fieldAddr (by rfl) fa96_0) ?_
  refine WS_det hF (by rfl) (y_fieldAddr (by rfl) fa24_0) ?_
  refine WS_det hF (by rfl) (y_load1 (by rfl) Tryd.isAgg22 (Mem.own1 1 (by rfl) (by rfl))) ?_
  refine WS_det hF (by rfl) (y_len (by rfl) Tryd.runUnderlying22) ?_
  refine WS_det hF (by rfl) (y_fieldAddr (by rfl) fa26_0) ?_
  refine WS_det hF (by rfl) (y_load1 (by rfl) Tryd.isAgg3 (Mem.own1 0 (by rfl) (by rfl))) ?_
  refine WS_det hF (by rfl) (y_fieldAddr (by rfl) fa26_1) ?_
  refine WS_det hF (by rfl) (y_load1 (by rfl) Tryd.isAgg3 (Mem.own1 0 (by rfl) (by rfl))) ?_
  refine WS_newS hF (by rfl) (y_buildSliceL bs22_2_0_1 (by rfl)) (fun b3 => ?_)
  refine WS_det hF (by rfl) (y_callL (by rfl) (by rfl) Tryd.call56 (fun w hw => cin_any _ _ _ _ _ _ w (by decide) (by first | exact Ints.one 0 rfl w hw | exact Ints.two 0 rfl w hw))) ?_
  refine WS_det hF (by rfl) (y_move (c := .bool _) (by rfl)) ?_
  refine WS_split 15 (by rfl) (fun g1_10 => ?_) (fun g1_10 => ?_)
  ·
    try simp only [Bool.not_eq_true', Bool.not_eq_false', decide_eq_true_eq, decide_eq_false_iff_not, ne_eq, Classical.not_not, Int.not_lt, Int.not_le] at g1_10
    refine WS_det hF (by rfl) (y_fieldAddr (by rfl) fa26_0) ?_
    refine WS_det hF (by rfl) (y_load1 (by rfl) Tryd.isAgg3 (Mem.own1 1 (by rfl) (by rfl))) ?_
    refine WS_det hF (by rfl) (y_fieldAddr (by rfl) fa26_1) ?_
    refine WS_det hF (by rfl) (y_load1 (by rfl) Tryd.isAgg3 (Mem.own1 1 (by rfl) (by rfl))) ?_
    refine WS_det hF (by rfl) (y_neq (by rfl) (by rfl)) ?_
    refine WS_det hF (by rfl) (by first | exact y_pick_t (c := .bool _) (by rfl) (by rfl) | exact y_pick_f (c := .bool _) (by rfl) (by rfl)) ?_
    refine WS_det hF (by rfl) (y_assign (c := .bool _) (by rfl)) ?_
    refine WS_nil ?_
    refine Then_normal ?_
    refine W_ret ?_
    refine Fin_ret [.bool _] [] Tryd.results48 ⟨by rfl, trivial⟩ HSub.nil ?_
    show Value.bool _ = .bool (c.vldB p)
    unfold Cn.vldB
    simp [*]
  ·
    try simp only [Bool.not_eq_true', Bool.not_eq_false', decide_eq_true_eq, decide_eq_false_iff_not, ne_eq, Classical.not_not, Int.not_lt, Int.not_le] at g1_10
    refine WS_no hF (by rfl) ?_
    refine WS_no hF (by rfl) ?_
    refine WS_no hF (by rfl) ?_
    refine WS_no hF (by rfl) ?_
    refine WS_no hF (by rfl) ?_
    refine WS_det hF (by rfl) (by first | exact y_pick_t (c := .bool _) (by rfl) (by rfl) | exact y_pick_f (c := .bool _) (by rfl) (by rfl)) ?_
    refine WS_det hF (by rfl) (y_assign (c := .bool _) (by rfl)) ?_
    refine WS_nil ?_
    refine Then_normal ?_
    refine W_ret ?_
    refine Fin_ret [.bool _] [] Tryd.results48 ⟨by rfl, trivial⟩ HSub.nil ?_
    show Value.bool _ = .bool (c.vldB p)
    unfold Cn.vldB
    simp [*]
def Cn.pourR (c : Cn) (x : Co) (f t : Nat) : Value := .tuple #[.agg (if c.noB x f t then x else c.to x f t).cells.toArray, .bool (c.canB x f t)]
theorem Cn.pourR_no {c : Cn} {x : Co} {f t : Nat} (h : (f = 0 ∧ x.g f < c.room t - x.g t) ∨ (t = 0 ∧ c.room t - x.g t < x.g f)) : Value.tuple #[.agg x.cells.toArray, .bool false] = c.pourR x f t := by
  have hno : c.noB x f t = true := by
    unfold Cn.noB Cn.lack
    rcases h with ⟨h1, h2⟩ | ⟨h1, h2⟩
    · rw [decide_eq_true h1, decide_eq_true h2]; rfl
    · rw [decide_eq_true h1, decide_eq_true h2, Bool.true_and, Bool.or_true]
  unfold Cn.pourR Cn.canB
  rw [hno]; rfl
theorem Cn.pourR_go {c : Cn} {x : Co} {f t : Nat} (h : ¬ ((f = 0 ∧ x.g f < c.room t - x.g t) ∨ (t = 0 ∧ c.room t - x.g t < x.g f))) : Value.tuple #[.agg (c.to x f t).cells.toArray, .bool (decide (c.amt x f t > 0))] = c.pourR x f t := by
  have hno : c.noB x f t = false := by
    unfold Cn.noB Cn.lack
    rw [Bool.or_eq_false_iff, Bool.and_eq_false_iff, Bool.and_eq_false_iff]
    simp only [decide_eq_false_iff_not]
    omega
  unfold Cn.pourR Cn.canB
  rw [hno]; rfl
theorem bpour_any (c : Cn) (a1 : Option Addr) (p1 : Nat) (a2 : Option Addr) (p2 : Nat) (x : Co) (f t : Nat) (w : World) (hok : c.Ok) (hn : c.n ≤ 1000000) (hm : c.inn.length ≤ 1000000) (h1 : Ints w a1 c.n p1 c.sz) (h2 : Ints w a2 c.inn.length p2 c.inn) (hin : c.In x) (hf : f ≤ c.n) (ht : t ≤ c.n) (hft : f ≠ t) :
    Ct Tryd.prog 49 #[.agg #[.slice a1 c.n p1, .slice a2 c.inn.length p2, .int .i64 c.st], .agg x.cells.toArray, .agg #[.int .i64 (f : Int), .int .i64 (t : Int)]] w fun v _ => v = c.pourR x f t := by
  have hn3 := hok.n3
  obtain ⟨e1, hd1⟩ := x.drop (k := f) (by omega)
  obtain ⟨e2, hd2⟩ := x.drop (k := t) (by omega)
  have hl1 := hin.lo f (by omega)
  have hl2 := hin.lo t (by omega)
  have hh1 := hin.hi f hf
  have hh2 := hin.hi t ht
  have hr : ∀ k, k ≤ c.n → 0 ≤ c.room k ∧ c.room k ≤ 600 := fun k hk => by
    cases k with
    | zero => exact ⟨by show (0 : Int) ≤ 600; omega, by show (600 : Int) ≤ 600; omega⟩
    | succ k => have := hok.s k (by omega); exact ⟨by show 0 ≤ c.s k; omega, by show c.s k ≤ 600; omega⟩
  have hr1 := hr f hf
  have hr2 := hr t ht
  have hF := wide_wide
  refine Ct_start (args := [_, _, _]) Tryd.func49 (by rfl) Tryd.ntmps49 (by rfl) ?_
  refine W_seq ?_
  refine W_region_lit (fun ds => ?_)
  refine WS_new hF (by rfl) (y_box (by rfl)) (fun b1 => ?_)
  refine WS_new hF (by rfl) (y_box (by rfl)) (fun b2 => ?_)
  refine WS_new hF (by rfl) (y_box (by rfl)) (fun b3 => ?_)
  refine WS_new hF (by rfl) (y_alloc Tryd.zeroValue99 (by rfl)) (fun b4 => ?_)
  refine WS_det hF (by rfl) (y_assign (c := .bool _) (by rfl)) ?_
  refine WS_nil ?_
  refine Then_normal ?_
  refine W_seq ?_
  refine W_draw0 hF Trydmixed [] (by decide +kernel) (fun ds => ?_)
  refine P_det (by rfl) (Over_nil (y_fieldAddr (by rfl) fa26_0)) ?_
  refine P_det (by rfl) (Over_nil (y_load1 (by rfl) Tryd.isAgg3 (Mem.own1 1 (by rfl) (by rfl)))) ?_
  refine P_det (by rfl) (Over_nil (y_indexA (k := f) (by rfl) (by rfl) (by first | rfl | omega) (by first | decide | omega) Tryd.runUnderlying99 Tryd.sizeOf3)) ?_
  refine P_det (by rfl) (Over_nil (y_load1 (by rfl) Tryd.isAgg3 (Mem.own (us := [.int .i64 (x.g f)]) 2 (by rfl) hd1))) ?_
  refine P_det (by rfl) (Over_nil (y_loadN (by rfl) Tryd.isAgg96 Tryd.sizeOf96 (Mem.own (us := [.slice _ _ _, .slice _ _ _, .int .i64 _]) 3 (by rfl) (by rfl)) (by rfl))) ?_
  refine P_det (by rfl) (Over_nil (y_fieldAddr (by rfl) fa26_1)) ?_
  refine P_det (by rfl) (Over_nil (y_load1 (by rfl) Tryd.isAgg3 (Mem.own1 1 (by rfl) (by rfl)))) ?_
  refine P_det (by rfl) (Over_nil (y_callL (by rfl) (by rfl) Tryd.call86 (fun w hw => broom_any c a1 p1 a2 p2 t w hn hm (h1.st w hw) (h2.st w hw) ht))) ?_
  refine P_det (by rfl) (Over_nil (y_fieldAddr (by rfl) fa26_1)) ?_
  refine P_det (by rfl) (Over_nil (y_load1 (by rfl) Tryd.isAgg3 (Mem.own1 1 (by rfl) (by rfl)))) ?_
  refine P_det (by rfl) (Over_nil (y_indexA (k := t) (by rfl) (by rfl) (by first | rfl | omega) (by first | decide | omega) Tryd.runUnderlying99 Tryd.sizeOf3)) ?_
  refine P_det (by rfl) (Over_nil (y_load1 (by rfl) Tryd.isAgg3 (Mem.own (us := [.int .i64 (x.g t)]) 2 (by rfl) hd2))) ?_
  refine P_det (by rfl) (Over_nil (y_sub (by rfl) (by rfl) (by unfold I64; omega))) ?_
  refine P_det (by rfl) (Over_nil (y_assign (c := .int .i64 _) (by rfl))) ?_
  refine P_det (by rfl) (Over_nil (y_assign (c := .int .i64 _) (by rfl))) ?_
  refine PW_end (by rfl) ?_
  refine OverAll_nil ?_
  rintro -
  refine Then_normal ?_
  refine W_seq ?_
  refine W_block ?_
  refine W_seq ?_
  refine W_seq ?_
  refine W_region_lit (fun ds => ?_)
  refine WS_det hF (by rfl) (y_fieldAddr (by rfl) fa26_0) ?_
  refine WS_det hF (by rfl) (y_load1 (by rfl) Tryd.isAgg3 (Mem.own1 1 (by rfl) (by rfl))) ?_
  refine WS_det hF (by rfl) (y_eql (by rfl) (by rfl)) ?_
  refine WS_det hF (by rfl) (y_move (c := .bool _) (by rfl)) ?_
  refine WS_split 27 (by rfl) (fun g2_3 => ?_) (fun g2_3 => ?_)
  ·
    try simp only [Bool.not_eq_true', Bool.not_eq_false', decide_eq_true_eq, decide_eq_false_iff_not, ne_eq, Classical.not_not, Int.not_lt, Int.not_le] at g2_3
    refine WS_det hF (by rfl) (y_move (c := .int .i64 _) (by rfl)) ?_
    refine WS_det hF (by rfl) (y_move (c := .int .i64 _) (by rfl)) ?_
    refine WS_det hF (by rfl) (y_lss (by rfl) (by rfl)) ?_
    refine WS_det hF (by rfl) (by first | exact y_pick_t (c := .bool _) (by rfl) (by rfl) | exact y_pick_f (c := .bool _) (by rfl) (by rfl)) ?_
    refine WS_det hF (by rfl) (y_assign (c := .bool _) (by rfl)) ?_
    refine WS_nil ?_
    refine Then_normal ?_
    refine W_cond (by rfl) (fun c2 => ?_) (fun c2 => ?_)
    ·
      try simp only [Bool.not_eq_true', Bool.not_eq_false', decide_eq_true_eq, decide_eq_false_iff_not, ne_eq, Classical.not_not, Int.not_lt, Int.not_le] at c2
      refine W_skip ?_
      refine Then_normal ?_
      refine W_cond (by rfl) (fun c2 => ?_) (fun c2 => ?_)
      ·
        try simp only [Bool.not_eq_true', Bool.not_eq_false', decide_eq_true_eq, decide_eq_false_iff_not, ne_eq, Classical.not_not, Int.not_lt, Int.not_le] at c2
        refine W_seq ?_
        refine W_region_lit (fun ds => ?_)
        refine WS_det hF (by rfl) (y_loadN (by rfl) Tryd.isAgg99 Tryd.sizeOf99 (Mem.own (us := [.int .i64 _, .int .i64 _, .int .i64 _, .int .i64 _]) 2 (by rfl) (by rfl)) (by rfl)) ?_
        refine WS_store hF (us := [.int .i64 _, .int .i64 _, .int .i64 _, .int .i64 _]) (i := 0) (by rfl) (by rfl) Tryd.sizeOf99 (by rfl) (by rfl) (by rfl) (by first | decide | exact Nat.le_of_ble_eq_true rfl | simp) ?_
        refine WS_det hF (by rfl) (y_assign (c := .bool _) (by rfl)) ?_
        refine WS_nil ?_
        refine Then_normal ?_
        refine W_ret ?_
        refine InB_ret ?_
        refine Then_ret ?_
        refine Fin_ret [_, .bool _] [] Tryd.results49 ⟨lvN (by rfl) Tryd.isAgg99 Tryd.sizeOf99 (Mem.own (us := [.int .i64 _, .int .i64 _, .int .i64 _, .int .i64 _]) 0 (by rfl) (by rfl)) (by rfl), by rfl, trivial⟩ HSub.nil ?_
        first
          | exact Cn.pourR_no (by omega)
          | exact Cn.pourR_go (by omega)
      ·
        try simp only [Bool.not_eq_true', Bool.not_eq_false', decide_eq_true_eq, decide_eq_false_iff_not, ne_eq, Classical.not_not, Int.not_lt, Int.not_le] at c2
        refine W_skip ?_
        refine InB_normal ?_
        refine Then_normal ?_
        refine W_seq ?_
        refine W_region_lit (fun ds => ?_)
        refine WS_det hF (by rfl) (y_move (c := .int .i64 _) (by rfl)) ?_
        refine WS_det hF (by rfl) (y_move (c := .int .i64 _) (by rfl)) ?_
        refine WS_det hF (by rfl) (y_min (by rfl) (by rfl)) ?_
        refine WS_det hF (by rfl) (y_assign (c := .int .i64 _) (by rfl)) ?_
        refine WS_nil ?_
        refine Then_normal ?_
        refine W_seq ?_
        refine W_region_lit (fun ds => ?_)
        refine WS_det hF (by rfl) (y_fieldAddr (by rfl) fa26_0) ?_
        refine WS_det hF (by rfl) (y_load1 (by rfl) Tryd.isAgg3 (Mem.own1 1 (by rfl) (by rfl))) ?_
        refine WS_det hF (by rfl) (y_indexA (k := f) (by rfl) (by rfl) (by first | rfl | omega) (by first | decide | omega) Tryd.runUnderlying99 Tryd.sizeOf3) ?_
        refine WS_det hF (by rfl) (y_load1 (by rfl) Tryd.isAgg3 (Mem.own (us := [.int .i64 (x.g f)]) 2 (by rfl) hd1)) ?_
        refine WS_det hF (by rfl) (y_move (c := .int .i64 _) (by rfl)) ?_
        refine WS_det hF (by rfl) (y_sub (by rfl) (by rfl) (by unfold I64; omega)) ?_
        refine WS_det hF (by rfl) (y_indexA (k := f) (by rfl) (by rfl) (by first | rfl | omega) (by first | decide | omega) Tryd.runUnderlying99 Tryd.sizeOf3) ?_
        refine WS_store hF (us := [.int .i64 _]) (i := 2) (by rfl) (by rfl) Tryd.sizeOf3 (by rfl) (by rfl) (by rfl) (by show 0 + f * 1 + 1 ≤ 4; omega) ?_
        refine WS_nil ?_
        refine Then_normal ?_
        refine W_seq ?_
        rw [Co.splice x _ (k := f) (by omega)]
        obtain ⟨e3, hd3⟩ := (x.w f (x.g f - c.amt x f t)).drop (k := t) (by omega)
        rw [Co.g_w _ _ (by omega) (by omega), if_neg (Ne.symm hft)] at hd3
        refine W_region_lit (fun ds => ?_)
        refine WS_det hF (by rfl) (y_fieldAddr (by rfl) fa26_1) ?_
        refine WS_det hF (by rfl) (y_load1 (by rfl) Tryd.isAgg3 (Mem.own1 1 (by rfl) (by rfl))) ?_
        refine WS_det hF (by rfl) (y_indexA (k := t) (by rfl) (by rfl) (by first | rfl | omega) (by first | decide | omega) Tryd.runUnderlying99 Tryd.sizeOf3) ?_
        refine WS_det hF (by rfl) (y_load1 (by rfl) Tryd.isAgg3 (Mem.own (us := [.int .i64 (x.g t)]) 2 (by rfl) hd3)) ?_
        refine WS_det hF (by rfl) (y_move (c := .int .i64 _) (by rfl)) ?_
        refine WS_det hF (by rfl) (y_add (by rfl) (by rfl) (by unfold I64; omega)) ?_
        refine WS_det hF (by rfl) (y_indexA (k := t) (by rfl) (by rfl) (by first | rfl | omega) (by first | decide | omega) Tryd.runUnderlying99 Tryd.sizeOf3) ?_
        refine WS_store hF (us := [.int .i64 _]) (i := 2) (by rfl) (by rfl) Tryd.sizeOf3 (by rfl) (by rfl) (by rfl) (by show 0 + t * 1 + 1 ≤ 4; omega) ?_
        refine WS_nil ?_
        refine Then_normal ?_
        refine W_seq ?_
        rw [Co.splice _ _ (k := t) (by omega)]
        refine W_region_lit (fun ds => ?_)
        refine WS_det hF (by rfl) (y_loadN (by rfl) Tryd.isAgg99 Tryd.sizeOf99 (Mem.own (us := [.int .i64 _, .int .i64 _, .int .i64 _, .int .i64 _]) 2 (by rfl) (by rfl)) (by rfl)) ?_
        refine WS_det hF (by rfl) (y_move (c := .int .i64 _) (by rfl)) ?_
        refine WS_det hF (by rfl) (y_gtr (by rfl) (by rfl)) ?_
        refine WS_store hF (us := [.int .i64 _, .int .i64 _, .int .i64 _, .int .i64 _]) (i := 0) (by rfl) (by rfl) Tryd.sizeOf99 (by rfl) (by rfl) (by rfl) (by first | decide | exact Nat.le_of_ble_eq_true rfl | simp) ?_
        refine WS_det hF (by rfl) (y_assign (c := .bool _) (by rfl)) ?_
        refine WS_nil ?_
        refine Then_normal ?_
        refine W_ret ?_
        refine Fin_ret [_, .bool _] [] Tryd.results49 ⟨lvN (by rfl) Tryd.isAgg99 Tryd.sizeOf99 (Mem.own (us := [.int .i64 _, .int .i64 _, .int .i64 _, .int .i64 _]) 0 (by rfl) (by rfl)) (by rfl), by rfl, trivial⟩ HSub.nil ?_
        first
          | exact Cn.pourR_no (by omega)
          | exact Cn.pourR_go (by omega)
    ·
      try simp only [Bool.not_eq_true', Bool.not_eq_false', decide_eq_true_eq, decide_eq_false_iff_not, ne_eq, Classical.not_not, Int.not_lt, Int.not_le] at c2
      refine W_region_lit (fun ds => ?_)
      refine WS_det hF (by rfl) (y_fieldAddr (by rfl) fa26_1) ?_
      refine WS_det hF (by rfl) (y_load1 (by rfl) Tryd.isAgg3 (Mem.own1 1 (by rfl) (by rfl))) ?_
      refine WS_det hF (by rfl) (y_eql (by rfl) (by rfl)) ?_
      refine WS_det hF (by rfl) (y_move (c := .bool _) (by rfl)) ?_
      refine WS_split 35 (by rfl) (fun g3_3 => ?_) (fun g3_3 => ?_)
      ·
        try simp only [Bool.not_eq_true', Bool.not_eq_false', decide_eq_true_eq, decide_eq_false_iff_not, ne_eq, Classical.not_not, Int.not_lt, Int.not_le] at g3_3
        refine WS_det hF (by rfl) (y_move (c := .int .i64 _) (by rfl)) ?_
        refine WS_det hF (by rfl) (y_move (c := .int .i64 _) (by rfl)) ?_
        refine WS_det hF (by rfl) (y_gtr (by rfl) (by rfl)) ?_
        refine WS_det hF (by rfl) (by first | exact y_pick_t (c := .bool _) (by rfl) (by rfl) | exact y_pick_f (c := .bool _) (by rfl) (by rfl)) ?_
        refine WS_det hF (by rfl) (y_assign (c := .bool _) (by rfl)) ?_
        refine WS_nil ?_
        refine Then_normal ?_
        refine W_cond (by rfl) (fun c3 => ?_) (fun c3 => ?_)
        ·
          try simp only [Bool.not_eq_true', Bool.not_eq_false', decide_eq_true_eq, decide_eq_false_iff_not, ne_eq, Classical.not_not, Int.not_lt, Int.not_le] at c3
          refine W_seq ?_
          refine W_region_lit (fun ds => ?_)
          refine WS_det hF (by rfl) (y_loadN (by rfl) Tryd.isAgg99 Tryd.sizeOf99 (Mem.own (us := [.int .i64 _, .int .i64 _, .int .i64 _, .int .i64 _]) 2 (by rfl) (by rfl)) (by rfl)) ?_
          refine WS_store hF (us := [.int .i64 _, .int .i64 _, .int .i64 _, .int .i64 _]) (i := 0) (by rfl) (by rfl) Tryd.sizeOf99 (by rfl) (by rfl) (by rfl) (by first | decide | exact Nat.le_of_ble_eq_true rfl | simp) ?_
          refine WS_det hF (by rfl) (y_assign (c := .bool _) (by rfl)) ?_
          refine WS_nil ?_
          refine Then_normal ?_
          refine W_ret ?_
          refine InB_ret ?_
          refine Then_ret ?_
          refine Fin_ret [_, .bool _] [] Tryd.results49 ⟨lvN (by rfl) Tryd.isAgg99 Tryd.sizeOf99 (Mem.own (us := [.int .i64 _, .int .i64 _, .int .i64 _, .int .i64 _]) 0 (by rfl) (by rfl)) (by rfl), by rfl, trivial⟩ HSub.nil ?_
          first
            | exact Cn.pourR_no (by omega)
            | exact Cn.pourR_go (by omega)
        ·
          try simp only [Bool.not_eq_true', Bool.not_eq_false', decide_eq_true_eq, decide_eq_false_iff_not, ne_eq, Classical.not_not, Int.not_lt, Int.not_le] at c3
          refine W_skip ?_
          refine InB_normal ?_
          refine Then_normal ?_
          refine W_seq ?_
          refine W_region_lit (fun ds => ?_)
          refine WS_det hF (by rfl) (y_move (c := .int .i64 _) (by rfl)) ?_
          refine WS_det hF (by rfl) (y_move (c := .int .i64 _) (by rfl)) ?_
          refine WS_det hF (by rfl) (y_min (by rfl) (by rfl)) ?_
          refine WS_det hF (by rfl) (y_assign (c := .int .i64 _) (by rfl)) ?_
          refine WS_nil ?_
          refine Then_normal ?_
          refine W_seq ?_
          refine W_region_lit (fun ds => ?_)
          refine WS_det hF (by rfl) (y_fieldAddr (by rfl) fa26_0) ?_
          refine WS_det hF (by rfl) (y_load1 (by rfl) Tryd.isAgg3 (Mem.own1 1 (by rfl) (by rfl))) ?_
          refine WS_det hF (by rfl) (y_indexA (k := f) (by rfl) (by rfl) (by first | rfl | omega) (by first | decide | omega) Tryd.runUnderlying99 Tryd.sizeOf3) ?_
          refine WS_det hF (by rfl) (y_load1 (by rfl) Tryd.isAgg3 (Mem.own (us := [.int .i64 (x.g f)]) 2 (by rfl) hd1)) ?_
          refine WS_det hF (by rfl) (y_move (c := .int .i64 _) (by rfl)) ?_
          refine WS_det hF (by rfl) (y_sub (by rfl) (by rfl) (by unfold I64; omega)) ?_
          refine WS_det hF (by rfl) (y_indexA (k := f) (by rfl) (by rfl) (by first | rfl | omega) (by first | decide | omega) Tryd.runUnderlying99 Tryd.sizeOf3) ?_
          refine WS_store hF (us := [.int .i64 _]) (i := 2) (by rfl) (by rfl) Tryd.sizeOf3 (by rfl) (by rfl) (by rfl) (by show 0 + f * 1 + 1 ≤ 4; omega) ?_
          refine WS_nil ?_
          refine Then_normal ?_
          refine W_seq ?_
          rw [Co.splice x _ (k := f) (by omega)]
          obtain ⟨e3, hd3⟩ := (x.w f (x.g f - c.amt x f t)).drop (k := t) (by omega)
          rw [Co.g_w _ _ (by omega) (by omega), if_neg (Ne.symm hft)] at hd3
          refine W_region_lit (fun ds => ?_)
          refine WS_det hF (by rfl) (y_fieldAddr (by rfl) fa26_1) ?_
          refine WS_det hF (by rfl) (y_load1 (by rfl) Tryd.isAgg3 (Mem.own1 1 (by rfl) (by rfl))) ?_
          refine WS_det hF (by rfl) (y_indexA (k := t) (by rfl) (by rfl) (by first | rfl | omega) (by first | decide | omega) Tryd.runUnderlying99 Tryd.sizeOf3) ?_
          refine WS_det hF (by rfl) (y_load1 (by rfl) Tryd.isAgg3 (Mem.own (us := [.int .i64 (x.g t)]) 2 (by rfl) hd3)) ?_
          refine WS_det hF (by rfl) (y_move (c := .int .i64 _) (by rfl)) ?_
          refine WS_det hF (by rfl) (y_add (by rfl) (by rfl) (by unfold I64; omega)) ?_
          refine WS_det hF (by rfl) (y_indexA (k := t) (by rfl) (by rfl) (by first | rfl | omega) (by first | decide | omega) Tryd.runUnderlying99 Tryd.sizeOf3) ?_
          refine WS_store hF (us := [.int .i64 _]) (i := 2) (by rfl) (by rfl) Tryd.sizeOf3 (by rfl) (by rfl) (by rfl) (by show 0 + t * 1 + 1 ≤ 4; omega) ?_
          refine WS_nil ?_
          refine Then_normal ?_
          refine W_seq ?_
          rw [Co.splice _ _ (k := t) (by omega)]
          refine W_region_lit (fun ds => ?_)
          refine WS_det hF (by rfl) (y_loadN (by rfl) Tryd.isAgg99 Tryd.sizeOf99 (Mem.own (us := [.int .i64 _, .int .i64 _, .int .i64 _, .int .i64 _]) 2 (by rfl) (by rfl)) (by rfl)) ?_
          refine WS_det hF (by rfl) (y_move (c := .int .i64 _) (by rfl)) ?_
          refine WS_det hF (by rfl) (y_gtr (by rfl) (by rfl)) ?_
          refine WS_store hF (us := [.int .i64 _, .int .i64 _, .int .i64 _, .int .i64 _]) (i := 0) (by rfl) (by rfl) Tryd.sizeOf99 (by rfl) (by rfl) (by rfl) (by first | decide | exact Nat.le_of_ble_eq_true rfl | simp) ?_
          refine WS_det hF (by rfl) (y_assign (c := .bool _) (by rfl)) ?_
          refine WS_nil ?_
          refine Then_normal ?_
          refine W_ret ?_
          refine Fin_ret [_, .bool _] [] Tryd.results49 ⟨lvN (by rfl) Tryd.isAgg99 Tryd.sizeOf99 (Mem.own (us := [.int .i64 _, .int .i64 _, .int .i64 _, .int .i64 _]) 0 (by rfl) (by rfl)) (by rfl), by rfl, trivial⟩ HSub.nil ?_
          first
            | exact Cn.pourR_no (by omega)
            | exact Cn.pourR_go (by omega)
      ·
        try simp only [Bool.not_eq_true', Bool.not_eq_false', decide_eq_true_eq, decide_eq_false_iff_not, ne_eq, Classical.not_not, Int.not_lt, Int.not_le] at g3_3
        refine WS_no hF (by rfl) ?_
        refine WS_no hF (by rfl) ?_
        refine WS_no hF (by rfl) ?_
        refine WS_det hF (by rfl) (by first | exact y_pick_t (c := .bool _) (by rfl) (by rfl) | exact y_pick_f (c := .bool _) (by rfl) (by rfl)) ?_
        refine WS_det hF (by rfl) (y_assign (c := .bool _) (by rfl)) ?_
        refine WS_nil ?_
        refine Then_normal ?_
        refine W_cond (by rfl) (fun c3 => ?_) (fun c3 => ?_)
        · cases c3
        ·
          try simp only [Bool.not_eq_true', Bool.not_eq_false', decide_eq_true_eq, decide_eq_false_iff_not, ne_eq, Classical.not_not, Int.not_lt, Int.not_le] at c3
          refine W_skip ?_
          refine InB_normal ?_
          refine Then_normal ?_
          refine W_seq ?_
          refine W_region_lit (fun ds => ?_)
          refine WS_det hF (by rfl) (y_move (c := .int .i64 _) (by rfl)) ?_
          refine WS_det hF (by rfl) (y_move (c := .int .i64 _) (by rfl)) ?_
          refine WS_det hF (by rfl) (y_min (by rfl) (by rfl)) ?_
          refine WS_det hF (by rfl) (y_assign (c := .int .i64 _) (by rfl)) ?_
          refine WS_nil ?_
          refine Then_normal ?_
          refine W_seq ?_
          refine W_region_lit (fun ds => ?_)
          refine WS_det hF (by rfl) (y_fieldAddr (by rfl) fa26_0) ?_
          refine WS_det hF (by rfl) (y_load1 (by rfl) Tryd.isAgg3 (Mem.own1 1 (by rfl) (by rfl))) ?_
          refine WS_det hF (by rfl) (y_indexA (k := f) (by rfl) (by rfl) (by first | rfl | omega) (by first | decide | omega) Tryd.runUnderlying99 Tryd.sizeOf3) ?_
          refine WS_det hF (by rfl) (y_load1 (by rfl) Tryd.isAgg3 (Mem.own (us := [.int .i64 (x.g f)]) 2 (by rfl) hd1)) ?_
          refine WS_det hF (by rfl) (y_move (c := .int .i64 _) (by rfl)) ?_
          refine WS_det hF (by rfl) (y_sub (by rfl) (by rfl) (by unfold I64; omega)) ?_
          refine WS_det hF (by rfl) (y_indexA (k := f) (by rfl) (by rfl) (by first | rfl | omega) (by first | decide | omega) Tryd.runUnderlying99 Tryd.sizeOf3) ?_
          refine WS_store hF (us := [.int .i64 _]) (i := 2) (by rfl) (by rfl) Tryd.sizeOf3 (by rfl) (by rfl) (by rfl) (by show 0 + f * 1 + 1 ≤ 4; omega) ?_
          refine WS_nil ?_
          refine Then_normal ?_
          refine W_seq ?_
          rw [Co.splice x _ (k := f) (by omega)]
          obtain ⟨e3, hd3⟩ := (x.w f (x.g f - c.amt x f t)).drop (k := t) (by omega)
          rw [Co.g_w _ _ (by omega) (by omega), if_neg (Ne.symm hft)] at hd3
          refine W_region_lit (fun ds => ?_)
          refine WS_det hF (by rfl) (y_fieldAddr (by rfl) fa26_1) ?_
          refine WS_det hF (by rfl) (y_load1 (by rfl) Tryd.isAgg3 (Mem.own1 1 (by rfl) (by rfl))) ?_
          refine WS_det hF (by rfl) (y_indexA (k := t) (by rfl) (by rfl) (by first | rfl | omega) (by first | decide | omega) Tryd.runUnderlying99 Tryd.sizeOf3) ?_
          refine WS_det hF (by rfl) (y_load1 (by rfl) Tryd.isAgg3 (Mem.own (us := [.int .i64 (x.g t)]) 2 (by rfl) hd3)) ?_
          refine WS_det hF (by rfl) (y_move (c := .int .i64 _) (by rfl)) ?_
          refine WS_det hF (by rfl) (y_add (by rfl) (by rfl) (by unfold I64; omega)) ?_
          refine WS_det hF (by rfl) (y_indexA (k := t) (by rfl) (by rfl) (by first | rfl | omega) (by first | decide | omega) Tryd.runUnderlying99 Tryd.sizeOf3) ?_
          refine WS_store hF (us := [.int .i64 _]) (i := 2) (by rfl) (by rfl) Tryd.sizeOf3 (by rfl) (by rfl) (by rfl) (by show 0 + t * 1 + 1 ≤ 4; omega) ?_
          refine WS_nil ?_
          refine Then_normal ?_
          refine W_seq ?_
          rw [Co.splice _ _ (k := t) (by omega)]
          refine W_region_lit (fun ds => ?_)
          refine WS_det hF (by rfl) (y_loadN (by rfl) Tryd.isAgg99 Tryd.sizeOf99 (Mem.own (us := [.int .i64 _, .int .i64 _, .int .i64 _, .int .i64 _]) 2 (by rfl) (by rfl)) (by rfl)) ?_
          refine WS_det hF (by rfl) (y_move (c := .int .i64 _) (by rfl)) ?_
          refine WS_det hF (by rfl) (y_gtr (by rfl) (by rfl)) ?_
          refine WS_store hF (us := [.int .i64 _, .int .i64 _, .int .i64 _, .int .i64 _]) (i := 0) (by rfl) (by rfl) Tryd.sizeOf99 (by rfl) (by rfl) (by rfl) (by first | decide | exact Nat.le_of_ble_eq_true rfl | simp) ?_
          refine WS_det hF (by rfl) (y_assign (c := .bool _) (by rfl)) ?_
          refine WS_nil ?_
          refine Then_normal ?_
          refine W_ret ?_
          refine Fin_ret [_, .bool _] [] Tryd.results49 ⟨lvN (by rfl) Tryd.isAgg99 Tryd.sizeOf99 (Mem.own (us := [.int .i64 _, .int .i64 _, .int .i64 _, .int .i64 _]) 0 (by rfl) (by rfl)) (by rfl), by rfl, trivial⟩ HSub.nil ?_
          first
            | exact Cn.pourR_no (by omega)
            | exact Cn.pourR_go (by omega)
  ·
    try simp only [Bool.not_eq_true', Bool.not_eq_false', decide_eq_true_eq, decide_eq_false_iff_not, ne_eq, Classical.not_not, Int.not_lt, Int.not_le] at g2_3
    refine WS_no hF (by rfl) ?_
    refine WS_no hF (by rfl) ?_
    refine WS_no hF (by rfl) ?_
    refine WS_det hF (by rfl) (by first | exact y_pick_t (c := .bool _) (by rfl) (by rfl) | exact y_pick_f (c := .bool _) (by rfl) (by rfl)) ?_
    refine WS_det hF (by rfl) (y_assign (c := .bool _) (by rfl)) ?_
    refine WS_nil ?_
    refine Then_normal ?_
    refine W_cond (by rfl) (fun c2 => ?_) (fun c2 => ?_)
    · cases c2
    ·
      try simp only [Bool.not_eq_true', Bool.not_eq_false', decide_eq_true_eq, decide_eq_false_iff_not, ne_eq, Classical.not_not, Int.not_lt, Int.not_le] at c2
      refine W_region_lit (fun ds => ?_)
      refine WS_det hF (by rfl) (y_fieldAddr (by rfl) fa26_1) ?_
      refine WS_det hF (by rfl) (y_load1 (by rfl) Tryd.isAgg3 (Mem.own1 1 (by rfl) (by rfl))) ?_
      refine WS_det hF (by rfl) (y_eql (by rfl) (by rfl)) ?_
      refine WS_det hF (by rfl) (y_move (c := .bool _) (by rfl)) ?_
      refine WS_split 35 (by rfl) (fun g3_3 => ?_) (fun g3_3 => ?_)
      ·
        try simp only [Bool.not_eq_true', Bool.not_eq_false', decide_eq_true_eq, decide_eq_false_iff_not, ne_eq, Classical.not_not, Int.not_lt, Int.not_le] at g3_3
        refine WS_det hF (by rfl) (y_move (c := .int .i64 _) (by rfl)) ?_
        refine WS_det hF (by rfl) (y_move (c := .int .i64 _) (by rfl)) ?_
        refine WS_det hF (by rfl) (y_gtr (by rfl) (by rfl)) ?_
        refine WS_det hF (by rfl) (by first | exact y_pick_t (c := .bool _) (by rfl) (by rfl) | exact y_pick_f (c := .bool _) (by rfl) (by rfl)) ?_
        refine WS_det hF (by rfl) (y_assign (c := .bool _) (by rfl)) ?_
        refine WS_nil ?_
        refine Then_normal ?_
        refine W_cond (by rfl) (fun c3 => ?_) (fun c3 => ?_)
        ·
          try simp only [Bool.not_eq_true', Bool.not_eq_false', decide_eq_true_eq, decide_eq_false_iff_not, ne_eq, Classical.not_not, Int.not_lt, Int.not_le] at c3
          refine W_seq ?_
          refine W_region_lit (fun ds => ?_)
          refine WS_det hF (by rfl) (y_loadN (by rfl) Tryd.isAgg99 Tryd.sizeOf99 (Mem.own (us := [.int .i64 _, .int .i64 _, .int .i64 _, .int .i64 _]) 2 (by rfl) (by rfl)) (by rfl)) ?_
          refine WS_store hF (us := [.int .i64 _, .int .i64 _, .int .i64 _, .int .i64 _]) (i := 0) (by rfl) (by rfl) Tryd.sizeOf99 (by rfl) (by rfl) (by rfl) (by first | decide | exact Nat.le_of_ble_eq_true rfl | simp) ?_
          refine WS_det hF (by rfl) (y_assign (c := .bool _) (by rfl)) ?_
          refine WS_nil ?_
          refine Then_normal ?_
          refine W_ret ?_
          refine InB_ret ?_
          refine Then_ret ?_
          refine Fin_ret [_, .bool _] [] Tryd.results49 ⟨lvN (by rfl) Tryd.isAgg99 Tryd.sizeOf99 (Mem.own (us := [.int .i64 _, .int .i64 _, .int .i64 _, .int .i64 _]) 0 (by rfl) (by rfl)) (by rfl), by rfl, trivial⟩ HSub.nil ?_
          first
            | exact Cn.pourR_no (by omega)
            | exact Cn.pourR_go (by omega)
        ·
          try simp only [Bool.not_eq_true', Bool.not_eq_false', decide_eq_true_eq, decide_eq_false_iff_not, ne_eq, Classical.not_not, Int.not_lt, Int.not_le] at c3
          refine W_skip ?_
          refine InB_normal ?_
          refine Then_normal ?_
          refine W_seq ?_
          refine W_region_lit (fun ds => ?_)
          refine WS_det hF (by rfl) (y_move (c := .int .i64 _) (by rfl)) ?_
          refine WS_det hF (by rfl) (y_move (c := .int .i64 _) (by rfl)) ?_
          refine WS_det hF (by rfl) (y_min (by rfl) (by rfl)) ?_
          refine WS_det hF (by rfl) (y_assign (c := .int .i64 _) (by rfl)) ?_
          refine WS_nil ?_
          refine Then_normal ?_
          refine W_seq ?_
          refine W_region_lit (fun ds => ?_)
          refine WS_det hF (by rfl) (y_fieldAddr (by rfl) fa26_0) ?_
          refine WS_det hF (by rfl) (y_load1 (by rfl) Tryd.isAgg3 (Mem.own1 1 (by rfl) (by rfl))) ?_
          refine WS_det hF (by rfl) (y_indexA (k := f) (by rfl) (by rfl) (by first | rfl | omega) (by first | decide | omega) Tryd.runUnderlying99 Tryd.sizeOf3) ?_
          refine WS_det hF (by rfl) (y_load1 (by rfl) Tryd.isAgg3 (Mem.own (us := [.int .i64 (x.g f)]) 2 (by rfl) hd1)) ?_
          refine WS_det hF (by rfl) (y_move (c := .int .i64 _) (by rfl)) ?_
          refine WS_det hF (by rfl) (y_sub (by rfl) (by rfl) (by unfold I64; omega)) ?_
          refine WS_det hF (by rfl) (y_indexA (k := f) (by rfl) (by rfl) (by first | rfl | omega) (by first | decide | omega) Tryd.runUnderlying99 Tryd.sizeOf3) ?_
          refine WS_store hF (us := [.int .i64 _]) (i := 2) (by rfl) (by rfl) Tryd.sizeOf3 (by rfl) (by rfl) (by rfl) (by show 0 + f * 1 + 1 ≤ 4; omega) ?_
          refine WS_nil ?_
          refine Then_normal ?_
          refine W_seq ?_
          rw [Co.splice x _ (k := f) (by omega)]
          obtain ⟨e3, hd3⟩ := (x.w f (x.g f - c.amt x f t)).drop (k := t) (by omega)
          rw [Co.g_w _ _ (by omega) (by omega), if_neg (Ne.symm hft)] at hd3
          refine W_region_lit (fun ds => ?_)
          refine WS_det hF (by rfl) (y_fieldAddr (by rfl) fa26_1) ?_
          refine WS_det hF (by rfl) (y_load1 (by rfl) Tryd.isAgg3 (Mem.own1 1 (by rfl) (by rfl))) ?_
          refine WS_det hF (by rfl) (y_indexA (k := t) (by rfl) (by rfl) (by first | rfl | omega) (by first | decide | omega) Tryd.runUnderlying99 Tryd.sizeOf3) ?_
          refine WS_det hF (by rfl) (y_load1 (by rfl) Tryd.isAgg3 (Mem.own (us := [.int .i64 (x.g t)]) 2 (by rfl) hd3)) ?_
          refine WS_det hF (by rfl) (y_move (c := .int .i64 _) (by rfl)) ?_
          refine WS_det hF (by rfl) (y_add (by rfl) (by rfl) (by unfold I64; omega)) ?_
          refine WS_det hF (by rfl) (y_indexA (k := t) (by rfl) (by rfl) (by first | rfl | omega) (by first | decide | omega) Tryd.runUnderlying99 Tryd.sizeOf3) ?_
          refine WS_store hF (us := [.int .i64 _]) (i := 2) (by rfl) (by rfl) Tryd.sizeOf3 (by rfl) (by rfl) (by rfl) (by show 0 + t * 1 + 1 ≤ 4; omega) ?_
          refine WS_nil ?_
          refine Then_normal ?_
          refine W_seq ?_
          rw [Co.splice _ _ (k := t) (by omega)]
          refine W_region_lit (fun ds => ?_)
          refine WS_det hF (by rfl) (y_loadN (by rfl) Tryd.isAgg99 Tryd.sizeOf99 (Mem.own (us := [.int .i64 _, .int .i64 _, .int .i64 _, .int .i64 _]) 2 (by rfl) (by rfl)) (by rfl)) ?_
          refine WS_det hF (by rfl) (y_move (c := .int .i64 _) (by rfl)) ?_
          refine WS_det hF (by rfl) (y_gtr (by rfl) (by rfl)) ?_
          refine WS_store hF (us := [.int .i64 _, .int .i64 _, .int .i64 _, .int .i64 _]) (i := 0) (by rfl) (by rfl) Tryd.sizeOf99 (by rfl) (by rfl) (by rfl) (by first | decide | exact Nat.le_of_ble_eq_true rfl | simp) ?_
          refine WS_det hF (by rfl) (y_assign (c := .bool _) (by rfl)) ?_
          refine WS_nil ?_
          refine Then_normal ?_
          refine W_ret ?_
          refine Fin_ret [_, .bool _] [] Tryd.results49 ⟨lvN (by rfl) Tryd.isAgg99 Tryd.sizeOf99 (Mem.own (us := [.int .i64 _, .int .i64 _, .int .i64 _, .int .i64 _]) 0 (by rfl) (by rfl)) (by rfl), by rfl, trivial⟩ HSub.nil ?_
          first
            | exact Cn.pourR_no (by omega)
            | exact Cn.pourR_go (by omega)
      ·
        try simp only [Bool.not_eq_true', Bool.not_eq_false', decide_eq_true_eq, decide_eq_false_iff_not, ne_eq, Classical.not_not, Int.not_lt, Int.not_le] at g3_3
        refine WS_no hF (by rfl) ?_
        refine WS_no hF (by rfl) ?_
        refine WS_no hF (by rfl) ?_
        refine WS_det hF (by rfl) (by first | exact y_pick_t (c := .bool _) (by rfl) (by rfl) | exact y_pick_f (c := .bool _) (by rfl) (by rfl)) ?_
        refine WS_det hF (by rfl) (y_assign (c := .bool _) (by rfl)) ?_
        refine WS_nil ?_
        refine Then_normal ?_
        refine W_cond (by rfl) (fun c3 => ?_) (fun c3 => ?_)
        · cases c3
        ·
          try simp only [Bool.not_eq_true', Bool.not_eq_false', decide_eq_true_eq, decide_eq_false_iff_not, ne_eq, Classical.not_not, Int.not_lt, Int.not_le] at c3
          refine W_skip ?_
          refine InB_normal ?_
          refine Then_normal ?_
          refine W_seq ?_
          refine W_region_lit (fun ds => ?_)
          refine WS_det hF (by rfl) (y_move (c := .int .i64 _) (by rfl)) ?_
          refine WS_det hF (by rfl) (y_move (c := .int .i64 _) (by rfl)) ?_
          refine WS_det hF (by rfl) (y_min (by rfl) (by rfl)) ?_
          refine WS_det hF (by rfl) (y_assign (c := .int .i64 _) (by rfl)) ?_
          refine WS_nil ?_
          refine Then_normal ?_
          refine W_seq ?_
          refine W_region_lit (fun ds => ?_)
          refine WS_det hF (by rfl) (y_fieldAddr (by rfl) fa26_0) ?_
          refine WS_det hF (by rfl) (y_load1 (by rfl) Tryd.isAgg3 (Mem.own1 1 (by rfl) (by rfl))) ?_
          refine WS_det hF (by rfl) (y_indexA (k := f) (by rfl) (by rfl) (by first | rfl | omega) (by first | decide | omega) Tryd.runUnderlying99 Tryd.sizeOf3) ?_
          refine WS_det hF (by rfl) (y_load1 (by rfl) Tryd.isAgg3 (Mem.own (us := [.int .i64 (x.g f)]) 2 (by rfl) hd1)) ?_
          refine WS_det hF (by rfl) (y_move (c := .int .i64 _) (by rfl)) ?_
          refine WS_det hF (by rfl) (y_sub (by rfl) (by rfl) (by unfold I64; omega)) ?_
          refine WS_det hF (by rfl) (y_indexA (k := f) (by rfl) (by rfl) (by first | rfl | omega) (by first | decide | omega) Tryd.runUnderlying99 Tryd.sizeOf3) ?_
          refine WS_store hF (us := [.int .i64 _]) (i := 2) (by rfl) (by rfl) Tryd.sizeOf3 (by rfl) (by rfl) (by rfl) (by show 0 + f * 1 + 1 ≤ 4; omega) ?_
          refine WS_nil ?_
          refine Then_normal ?_
          refine W_seq ?_
          rw [Co.splice x _ (k := f) (by omega)]
          obtain ⟨e3, hd3⟩ := (x.w f (x.g f - c.amt x f t)).drop (k := t) (by omega)
          rw [Co.g_w _ _ (by omega) (by omega), if_neg (Ne.symm hft)] at hd3
          refine W_region_lit (fun ds => ?_)
          refine WS_det hF (by rfl) (y_fieldAddr (by rfl) fa26_1) ?_
          refine WS_det hF (by rfl) (y_load1 (by rfl) Tryd.isAgg3 (Mem.own1 1 (by rfl) (by rfl))) ?_
          refine WS_det hF (by rfl) (y_indexA (k := t) (by rfl) (by rfl) (by first | rfl | omega) (by first | decide | omega) Tryd.runUnderlying99 Tryd.sizeOf3) ?_
          refine WS_det hF (by rfl) (y_load1 (by rfl) Tryd.isAgg3 (Mem.own (us := [.int .i64 (x.g t)]) 2 (by rfl) hd3)) ?_
          refine WS_det hF (by rfl) (y_move (c := .int .i64 _) (by rfl)) ?_
          refine WS_det hF (by rfl) (y_add (by rfl) (by rfl) (by unfold I64; omega)) ?_
          refine WS_det hF (by rfl) (y_indexA (k := t) (by rfl) (by rfl) (by first | rfl | omega) (by first | decide | omega) Tryd.runUnderlying99 Tryd.sizeOf3) ?_
          refine WS_store hF (us := [.int .i64 _]) (i := 2) (by rfl) (by rfl) Tryd.sizeOf3 (by rfl) (by rfl) (by rfl) (by show 0 + t * 1 + 1 ≤ 4; omega) ?_
          refine WS_nil ?_
          refine Then_normal ?_
          refine W_seq ?_
          rw [Co.splice _ _ (k := t) (by omega)]
          refine W_region_lit (fun ds => ?_)
          refine WS_det hF (by rfl) (y_loadN (by rfl) Tryd.isAgg99 Tryd.sizeOf99 (Mem.own (us := [.int .i64 _, .int .i64 _, .int .i64 _, .int .i64 _]) 2 (by rfl) (by rfl)) (by rfl)) ?_
          refine WS_det hF (by rfl) (y_move (c := .int .i64 _) (by rfl)) ?_
          refine WS_det hF (by rfl) (y_gtr (by rfl) (by rfl)) ?_
          refine WS_store hF (us := [.int .i64 _, .int .i64 _, .int .i64 _, .int .i64 _]) (i := 0) (by rfl) (by rfl) Tryd.sizeOf99 (by rfl) (by rfl) (by rfl) (by first | decide | exact Nat.le_of_ble_eq_true rfl | simp) ?_
          refine WS_det hF (by rfl) (y_assign (c := .bool _) (by rfl)) ?_
          refine WS_nil ?_
          refine Then_normal ?_
          refine W_ret ?_
          refine Fin_ret [_, .bool _] [] Tryd.results49 ⟨lvN (by rfl) Tryd.isAgg99 Tryd.sizeOf99 (Mem.own (us := [.int .i64 _, .int .i64 _, .int .i64 _, .int .i64 _]) 0 (by rfl) (by rfl)) (by rfl), by rfl, trivial⟩ HSub.nil ?_
          first
            | exact Cn.pourR_no (by omega)
            | exact Cn.pourR_go (by omega)
end Go.Proofs.YtjekjehgmljbgaaDoor.T

/- The program's Pour and Play, walked. -/
namespace Go.Proofs.YtjekjehgmljbgaaDoor.T
open Go.RowKit Go.Proofs Go.Eng
set_option maxRecDepth 100000
set_option maxHeartbeats 1000000
set_option linter.unusedVariables false
set_option linter.unusedSimpArgs false

theorem bd96_0 {x0_0a : Option Addr} {x0_0l x0_0c : Nat} {x0_1a : Option Addr} {x0_1l x0_1c : Nat} {x0_2 : Int} : ∀ w, (Instr.build 96 #[(0, .agg #[.slice x0_0a x0_0l x0_0c, .slice x0_1a x0_1l x0_1c, .int .i64 x0_2])]).run Tryd.prog w = .ok (.agg #[.slice x0_0a x0_0l x0_0c, .slice x0_1a x0_1l x0_1c, .int .i64 x0_2]) w := fun w => by kernel_rfl
theorem bd99_0 {x0 : Int} : ∀ w, (Instr.build 99 #[(0, .int .i64 x0)]).run Tryd.prog w = .ok (.agg #[.int .i64 x0, .int .i64 0, .int .i64 0, .int .i64 0]) w := fun w => by kernel_rfl

theorem cloneN_any (ta : Option Addr) (tn tcap : Nat) (D : List Int) (w : World) (htn : tn ≤ 1000000) (hD : Ints w ta tn tcap D) :
    Ct Tryd.prog 78 #[.slice ta tn tcap] w fun v Hn => ∃ a' cap', v = .slice a' tn cap' ∧ NewRow 3 1 tn (iv D) (.slice a' tn cap') Hn := by
  have hlen : (iv D).length = tn * 1 := by rw [Nat.mul_one]; exact (List.length_map _).trans hD.len
  have hF := wide_wide
  refine Ct_start (args := [_]) Tryd.func78 (by rfl) Tryd.ntmps78 (by rfl) ?_
  refine W_seq ?_
  refine W_region_lit (fun ds => ?_)
  refine WS_det hF (by rfl) (y_assign (c := .slice _ _ _) (by rfl)) ?_
  refine WS_nil ?_
  refine Then_normal ?_
  refine W_seq ?_
  refine W_seq ?_
  refine W_region_lit (fun ds => ?_)
  refine WS_det hF (by rfl) (y_move (c := .slice _ _ _) (by rfl)) ?_
  refine WS_det hF (by rfl) (y_eqlNil (by rfl) (by rfl) Tryd.runUnderlying22) ?_
  refine WS_nil ?_
  refine Then_normal ?_
  refine W_cond (by rfl) (fun c1 => ?_) (fun c1 => ?_)
  ·
    try simp only [Bool.not_eq_true', Bool.not_eq_false', decide_eq_true_eq, decide_eq_false_iff_not, ne_eq, Classical.not_not, Int.not_lt, Int.not_le] at c1
    obtain rfl : ta = none := Option.isNone_iff_eq_none.1 c1
    have h0 : tn = 0 := by
      cases tn with
      | zero => rfl
      | succ n => obtain ⟨b, o, h, _⟩ := hD.cell 0 (Nat.zero_lt_succ n); cases h
    subst h0
    refine W_seq ?_
    refine W_region_lit (fun ds => ?_)
    refine WS_det hF (by rfl) (y_assign (c := .slice _ _ _) (by rfl)) ?_
    refine WS_nil ?_
    refine Then_normal ?_
    refine W_ret ?_
    refine Then_ret ?_
    refine Fin_ret [.slice _ _ _] [] Tryd.results78 ⟨by rfl, trivial⟩ HSub.nil ?_
    exact ⟨none, 0, rfl, none, 0, rfl, Nat.le_refl _, .inr ⟨rfl, rfl, rfl⟩⟩
  ·
    try simp only [Bool.not_eq_true', Bool.not_eq_false', decide_eq_true_eq, decide_eq_false_iff_not, ne_eq, Classical.not_not, Int.not_lt, Int.not_le] at c1
    refine W_skip ?_
    refine Then_normal ?_
    refine W_seq ?_
    refine W_region_lit (fun ds => ?_)
    refine WS_newS hF (by rfl) (y_buildSliceL bs22_0 (by rfl)) (fun b1 => ?_)
    refine WS_det hF (by rfl) (y_move (c := .slice _ _ _) (by rfl)) ?_
    refine WS_gen hF (by rfl) (y_append0 (by rfl) (by rfl) Tryd.underlying22 infInt (by rfl) hD.src hlen (by omega) (by omega)) ?_
    rintro _ Hc hrow
    have hrow2 := hrow
    obtain ⟨a', cap', rfl, _⟩ := hrow2
    refine WS_det hF (by rfl) (y_assign (c := .slice _ _ _) (by rfl)) ?_
    refine WS_nil ?_
    refine Then_normal ?_
    refine W_ret ?_
    refine Fin_ret [.slice _ _ _] Hc Tryd.results78 ⟨by rfl, trivial⟩ (HSub.sub sbA) ?_
    exact ⟨_, _, rfl, hrow⟩
theorem co_splice (c : Cn) (h : c.inn.length ≤ 3) : splice [.int .i64 c.st, .int .i64 0, .int .i64 0, .int .i64 0] (0 + 1 * 1) (iv c.inn) = c.co.cells := by
  obtain ⟨s, i, t⟩ := c
  match i, h with
  | [], _ => rfl
  | [_], _ => rfl
  | [_, _], _ => rfl
  | [_, _, _], _ => rfl
  | _ :: _ :: _ :: _ :: _, h => simp only [List.length_cons] at h; omega
theorem iv_one (xs : List Int) : (iv xs).all Value.oneCell' = true := by
  unfold iv
  rw [List.all_eq_true]
  intro v hv
  obtain ⟨x, _, rfl⟩ := List.mem_map.1 hv
  rfl
theorem bstart_any (c : Cn) (a1 : Option Addr) (p1 : Nat) (a2 : Option Addr) (p2 : Nat) (w : World) (hok : c.Ok) (hn : c.n ≤ 1000000) (hm : c.inn.length ≤ 1000000) (h1 : Ints w a1 c.n p1 c.sz) (h2 : Ints w a2 c.inn.length p2 c.inn) : Ct Tryd.prog 50 #[.agg #[.slice a1 c.n p1, .slice a2 c.inn.length p2, .int .i64 c.st]] w fun v _ => v = .agg c.co.cells.toArray := by
  have hn3 := hok.n3
  have hlen := hok.len
  have hF := wide_wide
  refine Ct_start (args := [_]) Tryd.func50 (by rfl) Tryd.ntmps50 (by rfl) ?_
  refine W_seq ?_
  refine W_region_lit (fun ds => ?_)
  refine WS_new hF (by rfl) (y_box (by rfl)) (fun b1 => ?_)
  refine WS_new hF (by rfl) (y_alloc Tryd.zeroValue99 (by rfl)) (fun b2 => ?_)
  refine WS_nil ?_
  refine Then_normal ?_
  refine W_seq ?_
  refine W_region_lit (fun ds => ?_)
  refine WS_det hF (by rfl) (y_fieldAddr (by rfl) fa96_0) ?_
  refine WS_det hF (by rfl) (y_fieldAddr (by rfl) fa24_2) ?_
  refine WS_det hF (by rfl) (y_load1 (by rfl) Tryd.isAgg3 (Mem.own1 1 (by rfl) (by rfl))) ?_
  refine WS_det hF (by rfl) (y_buildL bd99_0 (by rfl)) ?_
  refine WS_new hF (by rfl) (y_alloc Tryd.zeroValue99 (by rfl)) (fun bx => ?_)
  refine WS_store hF (us := [.int .i64 _, .int .i64 _, .int .i64 _, .int .i64 _]) (i := 0) (by rfl) (by rfl) Tryd.sizeOf99 (by rfl) (by rfl) (by rfl) (by first | decide | exact Nat.le_of_ble_eq_true rfl | simp) ?_
  refine WS_nil ?_
  refine Then_normal ?_
  refine W_seq ?_
  apply W_drawMT 4 hF Trydmixed [] [] [] (by rfl) (by decide +kernel) (by decide) HSub.refl
  intro ds
  refine P_det (by rfl) (Over_nil (y_sliceA_lo (l := 1) (m := 4) (by rfl) (by rfl) (by rfl) (by decide) Tryd.runUnderlying99 Tryd.sizeOf3)) ?_
  refine P_det (by rfl) (Over_nil (y_fieldAddr (by rfl) fa96_0)) ?_
  refine P_det (by rfl) (Over_nil (y_fieldAddr (by rfl) fa24_1)) ?_
  refine P_det (by rfl) (Over_nil (y_load1 (by rfl) Tryd.isAgg22 (Mem.own1 2 (by rfl) (by rfl)))) ?_
  refine PW_end (by rfl) ?_
  refine OverAll_nil ?_
  rintro -
  refine WS_copyS hF (i := 0) (by rfl) (by rfl) (by rfl) Tryd.runUnderlying22 Tryd.sizeOf3 h2.src (iv_len c.inn) (by omega) (iv_one _) (by rfl) (by rw [iv_len]; show 0 + 1 * 1 + _ ≤ 4; omega) ?_
  refine WS_nil ?_
  refine Then_normal ?_
  refine W_seq ?_
  rw [show splice (splice [.int .i64 0, .int .i64 0, .int .i64 0, .int .i64 0] 0 [.int .i64 c.st, .int .i64 0, .int .i64 0, .int .i64 0]) (0 + 1 * 1) (iv c.inn) = c.co.cells from co_splice c (by omega)]
  refine W_region_lit (fun ds => ?_)
  refine WS_det hF (by rfl) (y_loadN (by rfl) Tryd.isAgg99 Tryd.sizeOf99 (Mem.own (us := [.int .i64 _, .int .i64 _, .int .i64 _, .int .i64 _]) 0 (by rfl) (by rfl)) (by rfl)) ?_
  refine WS_store hF (us := [.int .i64 _, .int .i64 _, .int .i64 _, .int .i64 _]) (i := 1) (by rfl) (by rfl) Tryd.sizeOf99 (by rfl) (by rfl) (by rfl) (by first | decide | exact Nat.le_of_ble_eq_true rfl | simp) ?_
  refine WS_nil ?_
  refine Then_normal ?_
  refine W_ret ?_
  refine Fin_ret [_] [] Tryd.results50 ⟨lvN (by rfl) Tryd.isAgg99 Tryd.sizeOf99 (Mem.own (us := [.int .i64 _, .int .i64 _, .int .i64 _, .int .i64 _]) 1 (by rfl) (by rfl)) (by rfl), trivial⟩ HSub.nil ?_
  rfl
theorem ints_of (c : Cn) (x : Co) (hn : c.n ≤ 3) {C : Ctx} {H : List Blk} {b T : Nat} (i : Nat) (hi : H[i]? = some (b, CB x.cells T)) (w : World) (hw : St C H w) : Ints w (some ⟨b, 1, none⟩) c.n 3 (c.of x).inn := by
  have hl := c.of_len x hn
  refine ⟨hl, hn, fun k hk => ⟨b, 1, rfl, ?_⟩⟩
  have := c.of_i x k hk hn
  unfold Cn.i at this
  rw [this]
  obtain ⟨rest, hd⟩ := x.drop (k := k + 1) (by omega)
  rw [show 1 + k * 1 = 0 + (k + 1) * 1 by omega]
  rw [show 0 + (k + 1) * 1 = k + 1 by omega] at hd ⊢
  have hb := hw.get hi
  exact at_block (rest := rest) hb hd
theorem bcans_any (c : Cn) (a1 : Option Addr) (p1 : Nat) (a2 : Option Addr) (p2 : Nat) (x : Co) (w : World) (hok : c.Ok) (hn : c.n ≤ 1000000) (hm : c.inn.length ≤ 1000000) (h1 : Ints w a1 c.n p1 c.sz) (h2 : Ints w a2 c.inn.length p2 c.inn) : Ct Tryd.prog 51 #[.agg #[.slice a1 c.n p1, .slice a2 c.inn.length p2, .int .i64 c.st], .agg x.cells.toArray] w (TwinC (c.of x)) := by
  have hn3 := hok.n3
  have hF := wide_wide
  refine Ct_start (args := [_, _]) Tryd.func51 (by rfl) Tryd.ntmps51 (by rfl) ?_
  refine W_seq ?_
  refine W_region_lit (fun ds => ?_)
  refine WS_new hF (by rfl) (y_box (by rfl)) (fun b1 => ?_)
  refine WS_new hF (by rfl) (y_box (by rfl)) (fun b2 => ?_)
  refine WS_new hF (by rfl) (y_alloc Tryd.zeroValue24 (by rfl)) (fun b3 => ?_)
  refine WS_nil ?_
  refine Then_normal ?_
  refine W_seq ?_
  apply W_draw1D hF Trydmixed [1000000] 18 _ (i := 0) (by rfl) (by decide +kernel)
  intro ds
  refine P_det (by rfl) (Over_out (by rfl) (Over_nil (y_fieldAddr (by rfl) fa96_0))) ?_
  refine P_det (by rfl) (Over_out (by rfl) (Over_nil (y_fieldAddr (by rfl) fa24_0))) ?_
  refine P_det (by rfl) (Over_out (by rfl) (Over_nil (y_load1 (by rfl) Tryd.isAgg22 (Mem.own1 1 (by rfl) (by rfl))))) ?_
  refine P_new (by rfl) (by rfl) (Over_out (by rfl) (Over_nil (y_callL (by rfl) (by rfl) Tryd.call78 (fun w hw => cloneN_any _ _ _ c.sz w hn (h1.st w hw))))) ?_
  refine P_det (by rfl) (Over_out (by rfl) (Over_out (by rfl) (Over_nil (y_fieldAddr (by rfl) fa96_0)))) ?_
  refine P_det (by rfl) (Over_out (by rfl) (Over_out (by rfl) (Over_nil (y_fieldAddr (by rfl) fa24_0)))) ?_
  refine P_det (by rfl) (Over_out (by rfl) (Over_out (by rfl) (Over_nil (y_load1 (by rfl) Tryd.isAgg22 (Mem.own1 1 (by rfl) (by rfl)))))) ?_
  refine P_det (by rfl) (Over_out (by rfl) (Over_out (by rfl) (Over_nil (y_len (by rfl) Tryd.runUnderlying22)))) ?_
  refine P_det (by rfl) (Over_out (by rfl) (Over_out (by rfl) (Over_nil (y_add (by rfl) (by rfl) (by unfold I64; omega))))) ?_
  refine P_det (by rfl) (Over_out (by rfl) (Over_out (by rfl) (Over_nil (YD_eq (y_sliceA_lohi (l := 1) (h := c.n + 1) (m := 4) (by rfl) (by rfl) (by rfl) (by rfl) (by omega) (by decide) (by omega) (by omega) Tryd.runUnderlying99 Tryd.sizeOf3) (show Value.slice (some ⟨b2, 1, none⟩) (c.n + 1 - 1) 3 = .slice (some ⟨b2, 1, none⟩) c.n 3 by rw [Nat.add_sub_cancel]))))) ?_
  refine P_new (by rfl) (by rfl) (Over_out (by rfl) (Over_out (by rfl) (Over_nil (y_callL (by rfl) (by rfl) Tryd.call78 (fun w hw => cloneN_any _ _ _ (c.of x).inn w hn (ints_of c x hn3 0 (by rfl) w hw)))))) ?_
  refine P_det (by rfl) (Over_out (by rfl) (Over_out (by rfl) (Over_out (by rfl) (Over_nil (y_indexA (k := 0) (by rfl) (by rfl) (by first | rfl | omega) (by first | decide | omega) Tryd.runUnderlying99 Tryd.sizeOf3))))) ?_
  refine P_det (by rfl) (Over_out (by rfl) (Over_out (by rfl) (Over_out (by rfl) (Over_nil (y_load1 (by rfl) Tryd.isAgg3 (Mem.own1 0 (by rfl) (by rfl))))))) ?_
  refine P_ali [15, 8] (aggP [.inr 8, .inr 15, .inl _]) (by rfl) (by rfl) (by rfl) (aggP_congr (by rfl)) (Over_in (by rfl) (Over_in (by rfl) (Over_out (by rfl) (Over_nil (by intro vb6 l8 hb6; obtain ⟨z1, q1, rfl, hr1⟩ := hb6; intro vb7 l15 hb7; obtain ⟨z2, q2, rfl, hr2⟩ := hb7; exact (YD0_of (y_buildL bd24_0_1_2 (by rfl)))))))) ?_
  refine P_st 1000000 3 (by rfl) (by rfl) (by rfl) (by rfl) (by rfl) (Over_in (by rfl) (Over_in (by rfl) (Over_in (by rfl) (Over_nil (by intro vb9 l8 hb9; obtain ⟨z1, q1, rfl, hr1⟩ := hb9; intro vb10 l15 hb10; obtain ⟨z2, q2, rfl, hr2⟩ := hb10; rintro vb11 _ ⟨hvb11, rfl⟩; replace hvb11 : vb11 = .agg #[.slice _ _ _, .slice _ _ _, .int .i64 _] := hvb11; subst hvb11; exact (st_preD (fun _ => by rfl) (by rfl) (by rfl) Tryd.sizeOf24 (by rfl) (by rfl) (by first | decide | exact Nat.le_of_ble_eq_true rfl | simp))))))) ?_
  refine PW_end (by rfl) ?_
  refine OverAll_cons (fun w18 l18 => ?_)
  refine OverAll_cons (fun w15 l15 => ?_)
  refine OverAll_cons (fun w8 l8 => ?_)
  refine OverAll_cons (fun w1000000 l1000000 => ?_)
  refine OverAll_nil ?_
  rintro ⟨⟨⟨⟨-, h18⟩, h15⟩, h8⟩, h1000000⟩
  obtain ⟨z1, q1, rfl, hr1⟩ := h8
  obtain ⟨z2, q2, rfl, hr2⟩ := h15
  obtain ⟨h18, rfl⟩ := h18
  replace h18 : w18 = .agg #[.slice _ _ _, .slice _ _ _, .int .i64 _] := h18
  subst h18
  obtain rfl := h1000000
  refine Then_normal ?_
  refine W_ret ?_
  refine Fin_ret [_] (l8 ++ l15) Tryd.results51 ⟨lvN (by rfl) Tryd.isAgg24 Tryd.sizeOf24 (Mem.own (us := [.slice _ _ _, .slice _ _ _, .int .i64 _]) 0 (by rfl) (by rfl)) (by rfl), trivial⟩ (HSub.sub sbA) ?_
  have hl := c.of_len x hn3
  refine ⟨z1, q1, z2, q2, l8, l15, ?_, hr1, by rw [hl]; exact hr2, rfl⟩
  rw [hl]; rfl
theorem Cn.err_iff {c : Cn} : c.err = 0 ↔ c.okB = true := by
  unfold Cn.err
  split
  · rename_i h; simp [h]
  · rename_i h; simp [h]
theorem Cn.err_no {c : Cn} (h : ¬ c.err = 0) : c.okB = false ∧ c.err = 80 := by
  rw [Cn.err_iff] at h
  have h' : c.okB = false := by simpa using h
  exact ⟨h', by unfold Cn.err; rw [h']; rfl⟩
theorem Cn.can_to {c : Cn} {x : Co} {f t : Nat} (h : c.canB x f t = true) : (if c.noB x f t then x else c.to x f t) = c.to x f t := by
  unfold Cn.canB at h
  rw [Bool.and_eq_true, Bool.not_eq_true'] at h
  rw [h.1]; rfl
end Go.Proofs.YtjekjehgmljbgaaDoor.T

/- The law CanTells, walked. -/
namespace Go.Proofs.YtjekjehgmljbgaaDoor.T
open Go.RowKit Go.Proofs Go.Eng
set_option maxRecDepth 100000
set_option maxHeartbeats 1000000
set_option linter.unusedVariables false
set_option linter.unusedSimpArgs false

theorem Cn.poC_bd (c : Cn) (p : Po) (h : c.n ≤ 10) : (c.poC p).n ≤ 1000 ∧ (c.poC p).inn.length ≤ 1000 := by
  have hof : ∀ x, (c.of x).n ≤ 1000 ∧ (c.of x).inn.length ≤ 1000 := fun x => by
    refine ⟨by show c.n ≤ 1000; omega, ?_⟩
    unfold Cn.of
    simp only [List.length_take, List.length_cons, List.length_nil]
    omega
  unfold Cn.poC
  split
  · split
    · exact hof _
    · exact ⟨Nat.zero_le _, Nat.zero_le _⟩
  · exact ⟨Nat.zero_le _, Nat.zero_le _⟩
end Go.Proofs.YtjekjehgmljbgaaDoor.T

/- Rows of zeros. No project text. -/
namespace Go.Eng
open Go.RowKit
section
variable {C : Ctx} {e : Env} {H : List Blk} {d : Option Tmp} {ty : TypeId} {pos : String} {af : Array Edge} {g : Option (Nat × Bool)}
theorem YR.sub {o : Oper} {R R' : Value → List Blk → Prop} (h : YR C o e H R) (hr : ∀ v Hn, R v Hn → ∃ Hm, Hm.Sublist Hn ∧ R' v Hm) : YR C o e H R' := fun w hw => by
  have := h w hw
  have out : ∀ {v w w'}, Out R v w w' → Out R' v w w' := fun ⟨Hn, h1, h2, h3⟩ => by
    obtain ⟨Hm, h4, h5⟩ := hr _ _ h3
    exact ⟨Hm, h1, h2.sub h4, h5⟩
  generalize (execOp (ev e) o).run C.P w = r at *
  cases r with
  | ok x w' =>
    cases x <;> simp only [OutRes] at this ⊢
    case value v => exact out this
    case skip => exact out this
    case enter f args =>
      refine ⟨this.1, Calls.mono this.2 ?_⟩
      rintro en w'' ⟨v, he, h1⟩
      exact ⟨v, he, out h1⟩
  | halt => exact this
end
section
variable {C : Ctx} {F : Fence} {n : Nat} {ds : List Deferred} {c : Code} {Q : Exit → Env → List Blk → Prop} {e : Env} {A B M : List Blk}
end
end Go.Eng

/- Cans at a tank, walked. -/
namespace Go.Proofs.YtjekjehgmljbgaaDoor.T
open Go.RowKit Go.Proofs Go.Eng
set_option maxRecDepth 100000
set_option maxHeartbeats 1000000
set_option linter.unusedVariables false
set_option linter.unusedSimpArgs false



def Lg.rdS (l : Lg) : Sn := if l.aerr = 0 then l.last.fl (l.tk.up l.tk.foot) else Sn.z
def begC0 (l : Lg) (D : List Int) : Cn := ⟨D, List.replicate D.length 0, l.rdS.lo⟩
def begC (l : Lg) (D : List Int) : Cn := if l.aerr = 0 then if (begC0 l D).okB then begC0 l D else Cn.zero else Cn.zero
def begE (l : Lg) (D : List Int) : Int := if l.aerr = 0 then (begC0 l D).err else l.aerr
def BegV (l : Lg) (D : List Int) (v : Value) (Hn : List Blk) : Prop := ∃ v0, v = .tuple #[v0, .int .i64 (begE l D)] ∧ TwinC (begC l D) v0 Hn
def czero : Value := .agg #[.slice none 0 0, .slice none 0 0, .int .i64 0]
theorem BegV.no {l : Lg} {D : List Int} (h : ¬ l.aerr = 0) : BegV l D (.tuple #[czero, .int .i64 l.aerr]) [] := by
  refine ⟨czero, ?_, ?_⟩
  · unfold begE; rw [if_neg h]
  · unfold begC; rw [if_neg h]; exact twinC_zero
theorem BegV.bad {l : Lg} {D : List Int} (h : l.aerr = 0) (hb : (begC0 l D).okB = false) : BegV l D (.tuple #[czero, .int .i64 80]) [] := by
  refine ⟨czero, ?_, ?_⟩
  · unfold begE Cn.err; rw [if_pos h, hb]; rfl
  · unfold begC; rw [if_pos h, hb]; exact twinC_zero
theorem BegV.ok {l : Lg} {D : List Int} {v0 : Value} {Hn : List Blk} (h : l.aerr = 0) (hb : (begC0 l D).okB = true) (hT : TwinC (begC0 l D) v0 Hn) : BegV l D (.tuple #[v0, .int .i64 0]) Hn := by
  refine ⟨v0, ?_, ?_⟩
  · unfold begE Cn.err; rw [if_pos h, hb]; rfl
  · unfold begC; rw [if_pos h, hb]; exact hT
theorem NewRow.sl {T : TypeId} {sz m : Nat} {us : List Value} {v : Value} {Hn : List Blk} (h : NewRow T sz m us v Hn) : ∃ a cap, v = .slice a m cap ∧ NewRow T sz m us (.slice a m cap) Hn := by
  obtain ⟨a, cap, rfl, h2⟩ := h
  exact ⟨a, cap, rfl, a, cap, rfl, h2⟩
end Go.Proofs.YtjekjehgmljbgaaDoor.T

/- The log of a tank with what was poured: pure, and the reference's walk. -/
namespace Go.Proofs.YtjekjehgmljbgaaDoor.T
open Go.RowKit Go.Proofs Go.Eng
set_option maxRecDepth 100000
set_option maxHeartbeats 2000000
set_option linter.unusedVariables false
set_option linter.unusedSimpArgs false

def dayK (l : Lg) : Nat → Int
  | 0 => 0
  | k + 1 => (l.e k).day
def dK (c : Cn) (p : List Po) (k : Nat) : Int := (c.runK p (k + 1)).a - (c.runK p k).a
def wrX (d n : Int) : En := if n < 0 then ⟨d, 2, ⟨-n, -n⟩⟩ else ⟨d, 1, ⟨n, n⟩⟩
def wrK (l : Lg) (c : Cn) (p : List Po) : Nat → Lg
  | 0 => l
  | k + 1 => if dK c p k = 0 then wrK l c p k else (wrK l c p k).put (wrX (dayK l l.es.length) (dK c p k))
def wrE (l : Lg) (c : Cn) (p : List Po) (k : Nat) : Int := if dK c p k = 0 then 0 else (wrK l c p k).addE (wrX (dayK l l.es.length) (dK c p k))
def wrBad (l : Lg) (c : Cn) (p : List Po) : Nat → Nat → Option Nat
  | _, 0 => none
  | k, m + 1 => if wrE l c p k = 0 then wrBad l c p (k + 1) m else some k
def wtE (l : Lg) (c : Cn) (p : List Po) : Int := if l.err = 0 then if c.plE p = 0 then match wrBad l c p 0 p.length with | none => 0 | some k => wrE l c p k else c.plE p else l.err
def wtL (l : Lg) (c : Cn) (p : List Po) : Lg := if l.err = 0 then if c.plE p = 0 then match wrBad l c p 0 p.length with | none => wrK l c p p.length | some _ => Lg.zero else Lg.zero else Lg.zero
theorem wrBad_none {l : Lg} {c : Cn} {p : List Po} : ∀ {m k : Nat}, (∀ j, k ≤ j → j < k + m → wrE l c p j = 0) → wrBad l c p k m = none
  | 0, _, _ => rfl
  | m + 1, k, h => by
    unfold wrBad
    rw [if_pos (h k (Nat.le_refl _) (by omega))]
    exact wrBad_none fun j h1 h2 => h j (by omega) (by omega)
theorem wrBad_some {l : Lg} {c : Cn} {p : List Po} {i : Nat} (hb : wrE l c p i ≠ 0) : ∀ {m k : Nat}, k ≤ i → i < k + m → (∀ j, k ≤ j → j < i → wrE l c p j = 0) → wrBad l c p k m = some i
  | 0, _, _, h2, _ => by omega
  | m + 1, k, h1, h2, h => by
    unfold wrBad
    by_cases hk : k = i
    · subst hk; rw [if_neg hb]
    · rw [if_pos (h k (Nat.le_refl _) (by omega))]
      exact wrBad_some hb (by omega) (by omega) fun j h3 h4 => h j (by omega) h4
def WrtV (l : Lg) (c : Cn) (p : List Po) (v : Value) (Hn : List Blk) : Prop := ∃ v0, v = .tuple #[v0, .int .i64 (wtE l c p)] ∧ TwinL (wtL l c p) v0 Hn
theorem WrtV.bad {l : Lg} {c : Cn} {p : List Po} (h : ¬ l.err = 0) : WrtV l c p (.tuple #[zeroLg, .int .i64 l.err]) [] := by
  refine ⟨zeroLg, ?_, ?_⟩
  · unfold wtE; rw [if_neg h]
  · unfold wtL; rw [if_neg h]; exact twin_zero
theorem WrtV.stop {l : Lg} {c : Cn} {p : List Po} {k : Nat} {e : Int} (h : l.err = 0) (hp : c.plE p = 0) (hk : k < p.length) (hj : ∀ j, j < k → wrE l c p j = 0) (he : wrE l c p k = e) (h0 : ¬ e = 0) : WrtV l c p (.tuple #[zeroLg, .int .i64 e]) [] := by
  have hb : wrBad l c p 0 p.length = some k := wrBad_some (by rw [he]; exact h0) (Nat.zero_le _) (by omega) fun j _ h => hj j h
  refine ⟨zeroLg, ?_, ?_⟩
  · unfold wtE; rw [if_pos h, if_pos hp, hb]; simp only [he]
  · unfold wtL; rw [if_pos h, if_pos hp, hb]; exact twin_zero
theorem WrtV.go {l : Lg} {c : Cn} {p : List Po} {v0 : Value} {Hn : List Blk} (h : l.err = 0) (hp : c.plE p = 0) (hj : ∀ j, j < p.length → wrE l c p j = 0) (hT : TwinL (wrK l c p p.length) v0 Hn) : WrtV l c p (.tuple #[v0, .int .i64 0]) Hn := by
  have hb : wrBad l c p 0 p.length = none := wrBad_none fun j _ h => hj j (by omega)
  refine ⟨v0, ?_, ?_⟩
  · unfold wtE; rw [if_pos h, if_pos hp, hb]
  · unfold wtL; rw [if_pos h, if_pos hp, hb]; exact hT
/-- Ints that can be read, old ones or those in some blocks. -/
def RdI (w0 : World) (Hs : List Blk) (a : Option Addr) (n cap : Nat) (xs : List Int) : Prop := ∀ (C : Ctx) (H : List Blk) (w : World), C.w0 = w0 → Hs.Sublist H → St C H w → Ints w a n cap xs
theorem RdI.old {w0 : World} {Hs : List Blk} {a : Option Addr} {n cap : Nat} {xs : List Int} (h : Ints w0 a n cap xs) : RdI w0 Hs a n cap xs := fun C H w hC _ hw => by subst hC; exact h.st w hw
theorem RdI.new {w0 : World} {Hs : List Blk} {a : Option Addr} {n cap : Nat} {xs : List Int} {T : TypeId} {Hn : List Blk} (h : NewRow T 1 n (iv xs) (.slice a n cap) Hn) (hl : xs.length = n) (hs : Hn.Sublist Hs) : RdI w0 Hs a n cap xs := fun C H w _ h2 hw => NewRow.ints h hl (hs.trans h2) w hw
def lgV (l : Lg) (a : Option Addr) (cap : Nat) (ae : Option Addr) (cape : Nat) : List Value := [.slice a l.tk.n cap, .int .i64 l.tk.leak, .int .i64 l.tk.foot, .int .i64 l.start.lo, .int .i64 l.start.hi, .slice ae l.es.length cape]
def cnV (c : Cn) (a1 : Option Addr) (p1 : Nat) (a2 : Option Addr) (p2 : Nat) : List Value := [.slice a1 c.n p1, .slice a2 c.inn.length p2, .int .i64 c.st]
end Go.Proofs.YtjekjehgmljbgaaDoor.T

/- The program's log of a tank with what was poured, walked. -/
namespace Go.Proofs.YtjekjehgmljbgaaDoor.T
open Go.RowKit Go.Proofs Go.Eng
set_option maxRecDepth 100000
set_option maxHeartbeats 1000000
set_option linter.unusedVariables false
set_option linter.unusedSimpArgs false

end Go.Proofs.YtjekjehgmljbgaaDoor.T

/- The law CanLogs, walked. -/
namespace Go.Proofs.YtjekjehgmljbgaaDoor.T
open Go.RowKit Go.Proofs Go.Eng
set_option maxRecDepth 100000
set_option maxHeartbeats 1000000
set_option linter.unusedVariables false
set_option linter.unusedSimpArgs false



section
variable {C : Ctx} {F : Fence} {n : Nat} {ds : List Deferred} {all : Array Oper} {Q : Exit → Env → List Blk → Prop} {rest : List Oper} {e : Env} {H M' : List Blk}
theorem WS_pull (x : Blk) (hp : H.Perm (x :: M')) (h : WS C F n ds all Q rest e (x :: M')) : WS C F n ds all Q rest e H := fun w hw a ha => h w ⟨hw.1, hw.2.perm hp.symm, hw.3⟩ a ha
end
end Go.Proofs.YtjekjehgmljbgaaDoor.T

/- How ways are ordered: the program's walks. -/
namespace Go.Proofs.YtjekjehgmljbgaaDoor.T
open Go.RowKit Go.Proofs Go.Eng
set_option maxRecDepth 100000
set_option maxHeartbeats 1000000
set_option linter.unusedVariables false
set_option linter.unusedSimpArgs false



def orL : List Int → Int
  | [] => 0
  | x :: l => if x = 0 then orL l else x
def cmpP (p q : Po) : Int := orL [cmpI p.f q.f, cmpI p.t q.t]
def cmpL : List Po → List Po → Int
  | p :: l, q :: m => if cmpP p q = 0 then cmpL l m else cmpP p q
  | [], [] => 0
  | [], _ :: _ => -1
  | _ :: _, [] => 1
def ordW (a b : Wy) : Int := orL [cmpI a.l.length b.l.length, cmpI a.back b.back, cmpL a.l b.l]
end Go.Proofs.YtjekjehgmljbgaaDoor.T

/- The first one of some ways: the program's walks. -/
namespace Go.Proofs.YtjekjehgmljbgaaDoor.T
open Go.RowKit Go.Proofs Go.Eng
set_option maxRecDepth 100000
set_option maxHeartbeats 1000000
set_option linter.unusedVariables false
set_option linter.unusedSimpArgs false

/-- A way, and where its pourings lie. -/
structure Wl where
  w : Wy
  a : Option Addr
  k : Nat
def Wl.z : Wl := ⟨⟨[], 0⟩, none, 0⟩
def Wl.cells (x : Wl) : List Value := [.slice x.a x.w.l.length x.k, .int .i64 x.w.back]
abbrev Wls (w : World) (a : Option Addr) (n cap : Nat) (xs : List Wl) : Prop := Rws Wl.cells 2 Wl.z w a n cap xs
structure Wl.Rd (w : World) (x : Wl) : Prop where
  p : Pos w x.a x.w.l.length x.k x.w.l
  n : x.w.l.length ≤ 1000000
theorem Wl.Rd.st {C : Ctx} {H : List Blk} {x : Wl} (h : x.Rd C.w0) (w : World) (hw : St C H w) : x.Rd w := ⟨h.p.st w hw, h.n⟩
end Go.Proofs.YtjekjehgmljbgaaDoor.T

/- Arrays of four numbers: equal, as keys of maps. No project text. -/
namespace Go.Eng
open Go.RowKit
set_option linter.unusedSimpArgs false
section
variable {P : Program} {T E : TypeId}
structure Arr4 (P : Program) (T E : TypeId) : Prop where
  t : P.underlying T = some (.array 4 E)
  e : P.underlying E = some (.int .i64)
  agg : ∀ w, (isAgg E).run P w = .ok false w
  sz : ∀ w, (sizeOf E).run P w = .ok 1 w
def arr4 (a b c d : Int) : Value := .agg #[.int .i64 a, .int .i64 b, .int .i64 c, .int .i64 d]
end
end Go.Eng

/- Pourings that can be, in their order; a list of pourings in new memory; a map that is copied: the program's walks. -/
namespace Go.Proofs.YtjekjehgmljbgaaDoor.T
open Go.RowKit Go.Proofs Go.Eng
set_option maxRecDepth 100000
set_option maxHeartbeats 1000000
set_option linter.unusedVariables false
set_option linter.unusedSimpArgs false

def pA (n i : Nat) : Po := ⟨((i / (n + 1) : Nat) : Int), ((i % (n + 1) : Nat) : Int)⟩
theorem pA_eq {n f t : Nat} (ht : t < n + 1) : pA n (f * (n + 1) + t) = ⟨(f : Int), (t : Int)⟩ := by
  have h1 : (f * (n + 1) + t) / (n + 1) = f := by rw [Nat.mul_comm, Nat.mul_add_div (Nat.succ_pos n), Nat.div_eq_of_lt ht, Nat.add_zero]
  have h2 : (f * (n + 1) + t) % (n + 1) = t := by rw [Nat.mul_comm, Nat.mul_add_mod, Nat.mod_eq_of_lt ht]
  unfold pA
  rw [h1, h2]
def Cn.psJ (c : Cn) (x : Co) (j : Nat) : List Po := ((List.range j).map (pA c.n)).filter fun p => decide (c.pE x p = 0)
def Cn.ps (c : Cn) (x : Co) : List Po := c.psJ x ((c.n + 1) * (c.n + 1))
theorem Cn.psJ_yes {c : Cn} {x : Co} {j : Nat} (h : c.pE x (pA c.n j) = 0) : c.psJ x (j + 1) = c.psJ x j ++ [pA c.n j] := by
  unfold Cn.psJ
  rw [List.range_succ, List.map_append, List.filter_append]
  simp [h]
theorem Cn.psJ_no {c : Cn} {x : Co} {j : Nat} (h : ¬ c.pE x (pA c.n j) = 0) : c.psJ x (j + 1) = c.psJ x j := by
  unfold Cn.psJ
  rw [List.range_succ, List.map_append, List.filter_append]
  simp [h]
theorem Cn.psJ_pre (c : Cn) (x : Co) (j : Nat) : ∀ m, ∃ r, c.psJ x (j + m) = c.psJ x j ++ r
  | 0 => ⟨[], (List.append_nil _).symm⟩
  | m + 1 => by
    obtain ⟨r, hr⟩ := c.psJ_pre x j m
    by_cases h : c.pE x (pA c.n (j + m)) = 0
    · exact ⟨r ++ [pA c.n (j + m)], by rw [← Nat.add_assoc, Cn.psJ_yes h, hr, List.append_assoc]⟩
    · exact ⟨r, by rw [← Nat.add_assoc, Cn.psJ_no h, hr]⟩
theorem Cn.ps_at {c : Cn} {x : Co} {j : Nat} (hj : j < (c.n + 1) * (c.n + 1)) (h : c.pE x (pA c.n j) = 0) : (c.psJ x j).length < (c.ps x).length ∧ (c.ps x).getD (c.psJ x j).length Po.z = pA c.n j := by
  obtain ⟨r, hr⟩ := c.psJ_pre x (j + 1) ((c.n + 1) * (c.n + 1) - (j + 1))
  rw [show j + 1 + ((c.n + 1) * (c.n + 1) - (j + 1)) = (c.n + 1) * (c.n + 1) by omega, Cn.psJ_yes h] at hr
  unfold Cn.ps
  rw [hr]
  refine ⟨by simp, ?_⟩
  simp [List.getD_eq_getElem?_getD]
theorem Cn.ps_mem {c : Cn} {x : Co} {p : Po} (h : c.pE x p = 0) : ∃ k, k < (c.ps x).length ∧ (c.ps x).getD k Po.z = p := by
  obtain ⟨h1, _⟩ := Cn.pE_zero.1 h
  rw [Cn.vld_iff] at h1
  obtain ⟨⟨f0, f1⟩, ⟨t0, t1⟩, _⟩ := h1
  obtain ⟨pf, pt⟩ := p
  simp only at f0 f1 t0 t1
  obtain ⟨f, rfl⟩ := Int.eq_ofNat_of_zero_le f0
  obtain ⟨t, rfl⟩ := Int.eq_ofNat_of_zero_le t0
  have he : pA c.n (f * (c.n + 1) + t) = ⟨(f : Int), (t : Int)⟩ := pA_eq (by omega)
  have hj : f * (c.n + 1) + t < (c.n + 1) * (c.n + 1) := by
    have : f * (c.n + 1) ≤ c.n * (c.n + 1) := Nat.mul_le_mul_right _ (by omega)
    rw [Nat.succ_mul c.n (c.n + 1)]
    omega
  obtain ⟨h2, h3⟩ := Cn.ps_at (x := x) hj (by rw [he]; exact h)
  exact ⟨_, h2, h3.trans he⟩
end Go.Proofs.YtjekjehgmljbgaaDoor.T

/- Loops over maps: what is left. No project text. -/
namespace Go.Eng
open Go.RowKit
section
variable {K : Type} [DecidableEq K] {l : List (EntK K)} {seen : Array Nat} {y : EntK K}
def leftL (l : List (EntK K)) (seen : Array Nat) : Nat := (l.filter fun x => !decide (x.2.2 ∈ seen)).length
omit [DecidableEq K] in
theorem leftL_lt (hy : y ∈ l) (hns : y.2.2 ∉ seen) : leftL l (seen.push y.2.2) < leftL l seen := by
  unfold leftL
  induction l with
  | nil => cases hy
  | cons x l ih =>
    have hle : ∀ l : List (EntK K), (l.filter fun x => !decide (x.2.2 ∈ seen.push y.2.2)).length ≤ (l.filter fun x => !decide (x.2.2 ∈ seen)).length := fun l => by
      induction l with
      | nil => exact Nat.le_refl _
      | cons z l ih =>
        by_cases h : z.2.2 ∈ seen
        · simpa [h] using ih
        · by_cases h2 : z.2.2 = y.2.2
          · simp [h2, hns]; simp at ih; omega
          · simp [h, h2]; simp at ih; omega
    have := hle l
    rcases List.mem_cons.1 hy with rfl | hy
    · simp [hns]; simp at this; omega
    · have ih := ih hy
      by_cases h : x.2.2 ∈ seen
      · simpa [h] using ih
      · by_cases h2 : x.2.2 = y.2.2
        · simp [h2, hns]; simp at this; omega
        · simp [h, h2]; simp at ih; omega
/-- The entries that were seen are copied into a map. -/
structure Copied (ls ld l : List (EntK K)) (seen : Array Nat) : Prop where
  yes : ∀ y ∈ ls, y.2.2 ∈ seen → lookK y.1 l = some y.2.1
  no : ∀ k, (∀ y ∈ ls, y.1 = k → y.2.2 ∉ seen) → lookK k l = lookK k ld
theorem Copied.nil (ls ld : List (EntK K)) : Copied ls ld ld #[] := ⟨fun _ _ h => (by simp at h), fun _ _ => rfl⟩
theorem Copied.step {ls ld l : List (EntK K)} {seen : Array Nat} {c : Nat} (h : Copied ls ld l seen) (hk : (ls.map (·.1)).Nodup) (hb : (ls.map (·.2.2)).Nodup) {y : EntK K} (hy : y ∈ ls) : Copied ls ld (putL y.1 y.2.1 l c) (seen.push y.2.2) := by
  have hkey : ∀ {x z : EntK K}, x ∈ ls → z ∈ ls → x.1 = z.1 → x.2.1 = z.2.1 := fun {x z} hx hz he => by
    have h1 := lookK_mem hk hx
    have h2 := lookK_mem hk hz
    rw [he] at h1
    exact Option.some.inj (h1.symm.trans h2)
  refine ⟨fun z hz hs => ?_, fun k hno => ?_⟩
  · rw [lookK_put]
    by_cases he : z.1 = y.1
    · rw [if_pos he, hkey hz hy he]
    · rw [if_neg he]
      refine h.yes z hz ?_
      rcases Array.mem_push.1 hs with hs | hs
      · exact hs
      · have : z = y := by
          have : ∀ {l : List (EntK K)}, (l.map (·.2.2)).Nodup → z ∈ l → y ∈ l → z = y := by
            intro l
            induction l with
            | nil => intro _ h; cases h
            | cons x l ih =>
              intro hn h1 h2
              rw [List.map_cons, List.nodup_cons] at hn
              rcases List.mem_cons.1 h1 with e1 | e1
              · rcases List.mem_cons.1 h2 with e2 | e2
                · rw [e1, e2]
                · exact absurd (List.mem_map.2 ⟨y, e2, by rw [← e1]; exact hs.symm⟩) hn.1
              · rcases List.mem_cons.1 h2 with e2 | e2
                · exact absurd (List.mem_map.2 ⟨z, e1, by rw [← e2]; exact hs⟩) hn.1
                · exact ih hn.2 e1 e2
          exact this hb hz hy
        exact absurd (by rw [this]) he
  · rw [lookK_put]
    have hne : ¬ k = y.1 := fun he => hno y hy he.symm (by simp)
    rw [if_neg hne]
    exact h.no k fun z hz he hs => hno z hz he (by simp [hs])
theorem Copied.done {ls ld l : List (EntK K)} {seen : Array Nat} (h : Copied ls ld l seen) (hall : ∀ x ∈ ls, x.2.2 ∈ seen) (k : K) : lookK k l = (lookK k ls).or (lookK k ld) := by
  cases hl : lookK k ls with
  | some v =>
    obtain ⟨x, hx, rfl, rfl⟩ := lookK_some hl
    exact h.yes x hx (hall x hx)
  | none =>
    rw [lookK_none] at hl
    exact h.no k fun y hy he => absurd (List.mem_map.2 ⟨y, hy, he⟩) hl
end
end Go.Eng

/- Maps of contents: keys, and the walk of maps.Copy. -/
namespace Go.Proofs.YtjekjehgmljbgaaDoor.T
open Go.RowKit Go.Proofs Go.Eng
set_option maxRecDepth 100000
set_option maxHeartbeats 1000000
set_option linter.unusedVariables false
set_option linter.unusedSimpArgs false



def encC (x : Co) : Value := .agg x.cells.toArray
def Wl.v (x : Wl) : Value := .agg x.cells.toArray
end Go.Proofs.YtjekjehgmljbgaaDoor.T

/- A region whose order is open, order by order: what the memory of the start settles is settled first. No project text. -/
namespace Go.Eng
open Go.RowKit
set_option linter.unusedVariables false
section
variable {F : Fence} {n : Nat} {P : Program} {ops : Array Oper} {Q : Exit → Act → World → Prop} {S : World → Prop}
/-- What an operation leaves: the same values, but for its own slot. -/
def Off (d : Option Tmp) (a a' : Act) : Prop := ∃ u ds, a' = { a.put d u with defers := ds }
theorem wpOpIn_off {j : Nat} {o : Oper} {K : Act → World → Prop} {a : Act} {w : World} (hj : ops[j]? = some o) (h : wpOpIn F n P ops Q j K a w) :
    wpOpIn F n P ops Q j (fun a' w' => K a' w' ∧ Off o.dst a a') a w := by
  unfold wpOpIn at *
  simp only [hj] at *
  split
  · rename_i hw
    simp only [hw, if_true] at h
    unfold Oper.wpIn at *
    obtain ⟨h0, h⟩ := h
    refine ⟨h0, ?_⟩
    clear h0
    generalize (o.semAt F.round a.eval).run P w = r at *
    cases r with
    | ok x w' =>
      cases x <;> simp only [Oper.uponIn] at h ⊢
      case value u => exact ⟨h, u, _, rfl⟩
      case skip => exact ⟨h, undef, _, rfl⟩
      case defer d => exact ⟨h, undef, d :: a.defers, by cases o.dst <;> rfl⟩
      case enter f args =>
        refine ⟨h.1, CallsIn.mono h.2 fun e w'' he => ?_⟩
        cases e with
        | returned u => exact ⟨he, u, _, rfl⟩
        | panicked c => exact he
        | outgrown => exact he
      case row row args => exact ⟨h.1, RowsIn.mono h.2 fun u w'' he => ⟨he, u, _, rfl⟩⟩
      case round l f tmps assign body =>
        refine ⟨h.1, RoundIn.mono h.2 fun e w'' he => ?_⟩
        cases e with
        | returned u => exact ⟨he, u, _, rfl⟩
        | panicked c => exact he
        | outgrown => exact he
    | halt x w' => cases x <;> simp only [Oper.uponIn] at h ⊢ <;> exact h
  · rename_i hw
    simp only [hw] at h
    exact ⟨h.1, h.2, undef, _, rfl⟩
/-- Whether another slot is filled already makes no difference to an operation that does not look at it. -/
theorem wpOpIn_putR {j : Nat} {oj : Oper} {d : Option Tmp} {v : Value} (hnd : noDefer oj = true) (hj : ops[j]? = some oj) (h1 : ∀ t, d = some t → t ∉ oj.looksAt ops) (h2 : ∀ t, d = some t → oj.dst ≠ some t)
    (hsj : ∀ cs b, oj.op ≠ .select cs b) {a : Act} {w : World} {K : Act → World → Prop} (hQ : ∀ c a w, Q (.panic c) (a.put d v) w → Q (.panic c) a w) (h : wpOpIn F n P ops Q j K (a.put d v) w) :
    wpOpIn F n P ops Q j (fun a' w' => K (a'.put d v) w') a w := by
  unfold wpOpIn at *
  simp only [hj] at *
  rw [wanted_put oj a d v h1, about_put oj w a d v h1] at h
  split
  · rename_i hw
    simp only [hw, if_true] at h
    unfold Oper.wpIn at *
    rw [about_put oj w a d v h1] at h
    obtain ⟨h0, h⟩ := h
    refine ⟨h0, ?_⟩
    clear h0
    rw [semAt_of hnd, execOp_put oj hsj a d v h1] at h
    rw [semAt_of hnd]
    generalize (execOp a.eval oj).run P w = r at *
    cases r with
    | ok x w' =>
      cases x <;> simp only [Oper.uponIn] at h ⊢
      case value u => rw [← Act.put_comm a v u h2]; exact h
      case skip => rw [← Act.put_comm a v undef h2]; exact h
      case defer dd => rw [← Act.put_comm _ v undef h2, ← Act.put_defers]; exact h
      case enter f args =>
        refine ⟨h.1, CallsIn.mono h.2 fun e w'' he => ?_⟩
        cases e with
        | returned u => simp only at he ⊢; rw [← Act.put_comm a v u h2]; exact he
        | panicked c => exact hQ _ _ _ he
        | outgrown => exact he
      case row row args => exact ⟨h.1, RowsIn.mono h.2 fun u w'' he => by rw [← Act.put_comm a v u h2]; exact he⟩
      case round l f tmps assign body =>
        refine ⟨h.1, RoundIn.mono h.2 fun e w'' he => ?_⟩
        cases e with
        | returned u => simp only at he ⊢; rw [← Act.put_comm a v u h2]; exact he
        | panicked c => exact hQ _ _ _ he
        | outgrown => exact he
    | halt x w' =>
      cases x <;> simp only [Oper.uponIn] at h ⊢
      case panic u => exact hQ _ _ _ h
  · rename_i hw
    simp only [hw] at h
    exact ⟨h.1, by rw [← Act.put_comm a v undef h2]; exact h.2⟩
/-- In any order, and what is said of the memory stays so. -/
def anyS (F : Fence) (n : Nat) (P : Program) (ops : Array Oper) (Q : Exit → Act → World → Prop) (S : World → Prop) : Nat → Array Bool → Act → World → Prop
  | 0, listed, a, w => Region.ready .any ops listed = [] ∧ Q .normal a w
  | fuel + 1, listed, a, w => (Region.ready .any ops listed = [] → Q .normal a w) ∧
    ∀ j ∈ Region.ready .any ops listed, wpOpIn F n P ops Q j (fun a' w' => S w' ∧ anyS F n P ops Q S fuel (listed.setIfInBounds j true) a' w') a w
theorem anyS_in : ∀ {fuel : Nat} {listed : Array Bool} {a : Act} {w : World}, anyS F n P ops Q S fuel listed a w → wpAnyIn F n P .any ops Q fuel listed a w
  | 0, _, _, _, h => h
  | fuel + 1, listed, a, w, h => ⟨h.1, fun j hj => wpOpIn_mono (fun a' w' h => anyS_in h.2) (h.2 j hj)⟩
structure YieldsS (P : Program) (ops : Array Oper) (S : World → Prop) (o : Oper) (v : Value) (a : Act) : Prop where
  run : ∀ w, S w → (execOp a.eval o).run P w = .ok (.value v) w
  about : ∀ w, o.about P w a.eval = none
theorem anyS_first {i : Nat} {oi : Oper} {v : Value} (hnd : ∀ (j : Nat) (o : Oper), ops[j]? = some o → noDefer o = true) (hi : ops[i]? = some oi) (hg : oi.guard = none) (hsel : ∀ (j : Nat) (o : Oper) cs b, ops[j]? = some o → o.op ≠ .select cs b)
    (hself : ∀ d, oi.dst = some d → d ∉ oi.looksAt ops) (hQ : ∀ c a w, Q (.panic c) (a.put oi.dst v) w → Q (.panic c) a w) :
    ∀ (fuel : Nat) (listed : Array Bool) (a : Act) (w : World),
      (∀ j oj, ops[j]? = some oj → j ≠ i → listed.getD j true = false → (∀ e ∈ oj.after, Region.binds .any e = true → e.on ≠ i) → oi.apart ops oj = true) →
      i ∈ Region.ready .any ops listed → S w → YieldsS P ops S oi v a →
      anyS F n P ops Q S fuel (listed.setIfInBounds i true) (a.put oi.dst v) w → anyS F n P ops Q S (fuel + 1) listed a w := by
  have hmine : ∀ {listed : Array Bool} {fuel : Nat} {a : Act} {w : World}, S w → YieldsS P ops S oi v a → anyS F n P ops Q S fuel (listed.setIfInBounds i true) (a.put oi.dst v) w →
      wpOpIn F n P ops Q i (fun a' w' => S w' ∧ anyS F n P ops Q S fuel (listed.setIfInBounds i true) a' w') a w := fun {listed fuel a w} hS hy H => by
    unfold wpOpIn
    simp only [hi]
    rw [if_pos (by unfold Region.wanted; rw [hg])]
    refine ⟨fun f hf => (by rw [hy.about] at hf; cases hf), ?_⟩
    rw [semAt_of (hnd i oi hi), hy.run w hS]
    exact ⟨hS, H⟩
  intro fuel
  induction fuel with
  | zero =>
    intro listed a w _ hr hS hy H
    refine ⟨fun h => (by rw [h] at hr; cases hr), fun j hj => ?_⟩
    by_cases hji : j = i
    · subst hji; exact hmine hS hy H
    · have := ready_mono hj hji
      rw [H.1] at this
      cases this
  | succ fuel ih =>
    intro listed a w hfree hr hS hy H
    refine ⟨fun h => (by rw [h] at hr; cases hr), fun j hj => ?_⟩
    by_cases hji : j = i
    · subst hji; exact hmine hS hy H
    · have h1 := H.2 j (ready_mono hj hji)
      obtain ⟨hjun, oj, hoj, hall⟩ := mem_ready.1 hj
      have hnot : ∀ e ∈ oj.after, Region.binds .any e = true → e.on ≠ i := fun e he hb heq => by
        have h1 := hall e he hb
        have h0 := (mem_ready.1 hr).1
        rw [heq] at h1
        rcases Nat.lt_or_ge i listed.size with h' | h'
        · simp [h'] at h0 h1; rw [h0] at h1; cases h1
        · simp [Array.getElem?_eq_none h'] at h1
      have hap := hfree j oj hoj hji hjun hnot
      obtain ⟨ap1, ap2, ap3⟩ := Oper.apart_spec hap
      have h2 := wpOpIn_putR (hnd j oj hoj) hoj ap1 ap2 (fun cs b => hsel j oj cs b hoj) hQ (wpOpIn_off hoj h1)
      have hfree' : ∀ k ok, ops[k]? = some ok → k ≠ i → (listed.setIfInBounds j true).getD k true = false →
          (∀ e ∈ ok.after, Region.binds .any e = true → e.on ≠ i) → oi.apart ops ok = true := fun k ok hk hki hun hno => by
        refine hfree k ok hk hki ?_ hno
        by_cases hjk : j = k
        · subst hjk; exact hjun
        · rw [getD_set_ne true hjk] at hun; exact hun
      refine wpOpIn_mono (fun a' w' h3 => ?_) h2
      obtain ⟨⟨hS', hk⟩, u, ds, hoff⟩ := h3
      refine ⟨hS', ih (listed.setIfInBounds j true) a' w' hfree' (ready_mono hr (Ne.symm hji)) hS' ?_ (by rw [Array.setIfInBounds_comm _ _ hji]; exact hk)⟩
      have hev : (a'.put oi.dst v).eval = ((a.put oi.dst v).put oj.dst u).eval := by rw [hoff]; rfl
      refine ⟨fun w hw => ?_, fun w => ?_⟩
      · rw [← execOp_put oi (fun cs b => hsel i oi cs b hi) a' oi.dst v hself, hev, execOp_put oi (fun cs b => hsel i oi cs b hi) _ oj.dst u ap3, execOp_put oi (fun cs b => hsel i oi cs b hi) a oi.dst v hself]
        exact hy.run w hw
      · rw [← about_put oi w a' oi.dst v hself, hev, about_put oi w _ oj.dst u ap3, about_put oi w a oi.dst v hself]
        exact hy.about w
end
section
variable {C : Ctx} {F : Fence} {n : Nat} {ds : List Deferred} {ops : Array Oper} {fuel : Nat} {listed : Array Bool} {e : Env} {H H0 : List Blk} {M : Env → List Blk → Prop}
/-- In any order; the blocks H0 of the start stay as they are. -/
def WH (C : Ctx) (F : Fence) (n : Nat) (ds : List Deferred) (ops : Array Oper) (M : Env → List Blk → Prop) (H0 : List Blk) (fuel : Nat) (listed : Array Bool) (e : Env) (H : List Blk) : Prop :=
  (∀ w, St C H w → St C H0 w) ∧ ∀ w, St C H w → ∀ a, Rep n ds a e → anyS F 0 C.P ops (lift C n ds (OnlyQ M)) (St C H0) fuel listed a w
theorem WH_in (h : WH C F n ds ops M H0 fuel listed e H) : WA C F n ds ops (OnlyQ M) fuel listed e H := fun w hw a ha => anyS_in (h.2 w hw a ha)
/-- What the blocks of the start settle. -/
def YE (C : Ctx) (o : Oper) (e : Env) (H0 : List Blk) (c : Value) : Prop := (∀ w, St C H0 w → (execOp (ev e) o).run C.P w = .ok (.value c) w) ∧ ∀ w, o.about C.P w (ev e) = none
theorem WH_take (i : Nat) {o : Oper} {c : Value} (hnd : ops.all noDefer = true) (hi : ops[i]? = some o) (hs : Region.noSelect ops = true)
    (hf : (Region.free .any ops listed i && (Region.ready .any ops listed).contains i && dOk n o.dst && (match o.dst with | some d => !(o.looksAt ops).contains d | none => true)) = true) (hg : o.guard = none)
    (hp : YE C o e H0 c) (h : WH C F n ds ops M H0 fuel (listed.setIfInBounds i true) (updo e o.dst c) H) : WH C F n ds ops M H0 (fuel + 1) listed e H := by
  simp only [Bool.and_eq_true] at hf
  refine ⟨h.1, fun w hw a ha => ?_⟩
  refine anyS_first (fun j o ho => by rw [Array.all_eq_true] at hnd; have := hnd j (Array.getElem?_eq_some_iff.1 ho).1; rwa [(Array.getElem?_eq_some_iff.1 ho).2] at this) hi hg (fun j o cs b ho => Region.noSelect_spec hs j o cs b ho) (fun d hd => ?_) (fun c a w hq => ?_) fuel listed a w (fun j oj hj hne hun hno => Region.free_spec hi hf.1.1.1 j oj hj hne hun hno) (by simpa using hf.1.1.2) (h.1 w hw) ⟨fun w hw => ?_, fun w => ?_⟩ (h.2 w hw _ (ha.put o.dst hf.1.2))
  · have h4 := hf.2
    rw [hd] at h4
    simpa using h4
  · obtain ⟨_, _, _, _, hq⟩ := hq; exact hq.elim
  · rw [ha.eval]; exact hp.1 w hw
  · rw [ha.eval]; exact hp.2 w
theorem WH_op {i : Nat} {o : Oper} (hi : ops[i]? = some o) (h : WS C F n ds ops (NextQ M fun e H => WH C F n ds ops M H0 fuel (listed.setIfInBounds i true) e H) [o] e H) (w : World) (hw : St C H w) (a : Act) (ha : Rep n ds a e) :
    wpOpIn F 0 C.P ops (lift C n ds (OnlyQ M)) i (fun a' w' => St C H0 w' ∧ anyS F 0 C.P ops (lift C n ds (OnlyQ M)) (St C H0) fuel (listed.setIfInBounds i true) a' w') a w := by
  have h1 := h w hw a ha
  unfold wpOpIn
  rw [hi]
  simp only []
  have hk : ∀ a w, lift C n ds (NextQ M fun e H => WH C F n ds ops M H0 fuel (listed.setIfInBounds i true) e H) .normal a w → St C H0 w ∧ anyS F 0 C.P ops (lift C n ds (OnlyQ M)) (St C H0) fuel (listed.setIfInBounds i true) a w := fun a w ⟨e', H', g1, g2, g3⟩ => ⟨g3.1 w g2, g3.2 w g2 a g1⟩
  have hq : ∀ x, x ≠ .normal → ∀ a w, lift C n ds (NextQ M fun e H => WH C F n ds ops M H0 fuel (listed.setIfInBounds i true) e H) x a w → lift C n ds (OnlyQ M) x a w := fun x hx a w ⟨e', H', g1, g2, g3⟩ => ⟨e', H', g1, g2, by cases x <;> first | exact g3 | exact absurd rfl hx⟩
  unfold wpListIn at h1
  split at h1
  · rename_i hwt
    rw [if_pos hwt]
    exact wpIn_to hk hq h1
  · rename_i hwt
    rw [if_neg hwt]
    exact ⟨h1.1, hk _ _ h1.2⟩
theorem WH_all {rs : List Nat} (hne : rs ≠ []) (hr : Region.ready .any ops listed = rs) (h0 : ∀ w, St C H w → St C H0 w)
    (h : ∀ i ∈ rs, ∃ o, ops[i]? = some o ∧ WS C F n ds ops (NextQ M fun e H => WH C F n ds ops M H0 fuel (listed.setIfInBounds i true) e H) [o] e H) : WH C F n ds ops M H0 (fuel + 1) listed e H :=
  ⟨h0, fun w hw a ha => ⟨fun hn => absurd (hr.symm.trans hn) hne, fun j hj => by
    rw [hr] at hj
    obtain ⟨o, ho, hs⟩ := h j hj
    exact WH_op ho hs w hw a ha⟩⟩
theorem WH_step1 (i : Nat) {o : Oper} (hr : Region.ready .any ops listed = [i]) (h0 : ∀ w, St C H w → St C H0 w) (hi : ops[i]? = some o)
    (h : WS C F n ds ops (NextQ M fun e H => WH C F n ds ops M H0 fuel (listed.setIfInBounds i true) e H) [o] e H) : WH C F n ds ops M H0 (fuel + 1) listed e H :=
  WH_all (by simp) hr h0 fun k hk => by
    obtain rfl := List.mem_singleton.1 hk
    exact ⟨o, hi, h⟩
theorem WH_step2 (i j : Nat) {o p : Oper} (hr : Region.ready .any ops listed = [i, j]) (h0 : ∀ w, St C H w → St C H0 w) (hi : ops[i]? = some o) (hj : ops[j]? = some p)
    (h : WS C F n ds ops (NextQ M fun e H => WH C F n ds ops M H0 fuel (listed.setIfInBounds i true) e H) [o] e H)
    (h' : WS C F n ds ops (NextQ M fun e H => WH C F n ds ops M H0 fuel (listed.setIfInBounds j true) e H) [p] e H) : WH C F n ds ops M H0 (fuel + 1) listed e H :=
  WH_all (by simp) hr h0 fun k hk => by
    rcases List.mem_cons.1 hk with rfl | hk
    · exact ⟨o, hi, h⟩
    · obtain rfl := List.mem_singleton.1 hk
      exact ⟨p, hj, h'⟩
theorem WH_done (hr : Region.ready .any ops listed = []) (h0 : ∀ w, St C H w → St C H0 w) (h : M e H) : WH C F n ds ops M H0 fuel listed e H :=
  ⟨h0, fun w hw a ha => by
    cases fuel with
    | zero => exact ⟨hr, e, H, ha, hw, h⟩
    | succ k => exact ⟨fun _ => ⟨e, H, ha, hw, h⟩, by rw [hr]; simp⟩⟩
theorem W_tailH {Q : Exit → Env → List Blk → Prop} {id : Nat} {l : List Oper} (m : Nat) (hm : C.P.follows .mixedOrders = true) (M : Env → List Blk → Prop)
    (hph : (tailB l.toArray m && Nat.ble m l.length) = true)
    (hrest : ∀ ds e H, M e H → WS (C.at ds) F n ds l.toArray Q (l.drop m) e H) (hp : ∀ ds, WH (C.at ds) F n ds (l.take m).toArray M H m (Array.replicate m false) e H) :
    W C F n ds (.region id l.toArray true) Q e H := W_tailA m hm M hph hrest fun ds => WH_in (hp ds)
end
end Go.Eng

/- Operations that the memory of the start settles. No project text. -/
namespace Go.Eng
open Go.RowKit
section
variable {C : Ctx} {e : Env} {H : List Blk} {d : Option Tmp} {ty : TypeId} {pos : String} {af : Array Edge}
theorem ye_move {x : Operand} {c : Value} (h : ev e x = c) : YE C ⟨d, .move x, ty, pos, af, none⟩ e H c := ⟨fun w _ => by simp [execOp, h], fun w => rfl⟩
section
variable {x y : Operand} {t t' : TypeId} {m n : Int} {k : IntKind}
end
theorem ye_loadN {x : Operand} {T : TypeId} {b o n : Nat} {us : List Value} (hx : ev e x = .pointer (some ⟨b, o, none⟩)) (hT : ∀ w, (isAgg T).run C.P w = .ok true w) (hs : ∀ w, (sizeOf T).run C.P w = .ok n w)
    (hm : Mem C H b o us) (hn : us.length = n) : YE C ⟨d, .load T x, ty, pos, af, none⟩ e H (.agg us.toArray) := ⟨fun w hw => by
  subst hn
  have := run_loads (P := C.P) (i := 0) (acc := #[]) (by simpa using hm w hw)
  simp [execOp, hx, Instr.loadAt, Instr.sureAddr, loadVar, hT, hs, loadCells, this], fun w => rfl⟩
end
end Go.Eng

/- What a map of ways tells; pure. -/
namespace Go.Proofs.YtjekjehgmljbgaaDoor.T
open Go.RowKit Go.Proofs Go.Eng
set_option linter.unusedVariables false

open Classical in
/-- The best way to some content, if there is one. -/
noncomputable def Cn.bestO (c : Cn) (y : Co) : Option Wy := if h : ∃ w, c.Best w y then some h.choose else none
theorem Cn.bestO_iff {c : Cn} {y : Co} {w : Wy} : c.bestO y = some w ↔ c.Best w y := by
  unfold Cn.bestO
  constructor
  · intro h
    split at h
    · rename_i hx
      cases h
      exact hx.choose_spec
    · cases h
  · intro h
    have hx : ∃ w, c.Best w y := ⟨w, h⟩
    rw [dif_pos hx, hx.choose_spec.uniq h]
noncomputable def Cn.ltO (c : Cn) (n : Nat) (y : Co) : Option Wy := (c.bestO y).filter fun w => decide (w.l.length < n)
noncomputable def Cn.eqO (c : Cn) (n : Nat) (y : Co) : Option Wy := (c.bestO y).filter fun w => decide (w.l.length = n)
theorem Cn.eqO_iff {c : Cn} {n : Nat} {y : Co} {w : Wy} : c.eqO n y = some w ↔ c.Lv n w y := by
  unfold Cn.eqO
  rw [Option.filter_eq_some_iff, Cn.bestO_iff, decide_eq_true_eq]
  rfl
/-- A way that can be read wherever some blocks lie. -/
def Wl.RdH (HH : List Blk) (x : Wl) : Prop := ∀ (C : Ctx) (H : List Blk) (w : World), HH.Sublist H → St C H w → x.Rd w
theorem Wl.RdH.mono {HH HH' : List Blk} {x : Wl} (h : x.RdH HH) (hs : HH.Sublist HH') : x.RdH HH' := fun C H w h2 hw => h C H w (hs.trans h2) hw
theorem Wl.RdH.z (HH : List Blk) : Wl.z.RdH HH := fun C H w _ _ => ⟨Rws.nil _ _ _, Nat.zero_le _⟩
theorem Wl.RdH.new {w : Wy} {a : Option Addr} {k : Nat} {Hn HH : List Blk} (h : NewRow 26 2 w.l.length (rowOf Po.cells (fun k => w.l.getD k Po.z) w.l.length) (.slice a w.l.length k) Hn) (hs : Hn.Sublist HH) (hn : w.l.length ≤ 1000000) : Wl.RdH HH ⟨w, a, k⟩ :=
  fun C H w' h2 hw => ⟨NewRow.rws po_len h rfl (hs.trans h2) w' hw, hn⟩
/-- What a map tells of a content, and what is so. -/
def TabE (HH : List Blk) : Option Value → Option Wy → Prop
  | none, none => True
  | some v, some w => ∃ x : Wl, v = x.v ∧ x.w = w ∧ x.RdH HH
  | _, _ => False
def Tab (HH : List Blk) (l : List (EntK Co)) (look : Co → Option Wy) : Prop := ∀ k, TabE HH (lookK k l) (look k)
theorem TabE.mono {HH HH' : List Blk} (hs : HH.Sublist HH') : ∀ {a : Option Value} {b : Option Wy}, TabE HH a b → TabE HH' a b
  | none, none, _ => trivial
  | some v, some w, ⟨x, h1, h2, h3⟩ => ⟨x, h1, h2, h3.mono hs⟩
  | none, some _, h => h.elim
  | some _, none, h => h.elim
theorem Tab.mono {HH HH' : List Blk} {l : List (EntK Co)} {look : Co → Option Wy} (h : Tab HH l look) (hs : HH.Sublist HH') : Tab HH' l look := fun k => (h k).mono hs
theorem TabE.or {HH : List Blk} : ∀ {a a' : Option Value} {b b' : Option Wy}, TabE HH a b → TabE HH a' b' → TabE HH (a.or a') (b.or b')
  | none, _, none, _, _, h => h
  | some _, _, some _, _, h, _ => h
  | none, _, some _, _, h, _ => h.elim
  | some _, _, none, _, h, _ => h.elim
theorem Tab.nil (HH : List Blk) {look : Co → Option Wy} (h : ∀ k, look k = none) : Tab HH [] look := fun k => by rw [lookK_nil, h]; trivial
theorem Tab.put {HH : List Blk} {l : List (EntK Co)} {look : Co → Option Wy} (h : Tab HH l look) (k : Co) (x : Wl) (c : Nat) (hx : x.RdH HH) : Tab HH (putL k x.v l c) (fun y => if y = k then some x.w else look y) := fun y => by
  rw [lookK_put]
  by_cases hy : y = k
  · simp only [if_pos hy]; exact ⟨x, rfl, rfl, hx⟩
  · simp only [if_neg hy]; exact h y
theorem Tab.mem {HH : List Blk} {l : List (EntK Co)} {c : Nat} {look : Co → Option Wy} (h : Tab HH l look) (hg : GoodM l c) {y : EntK Co} (hy : y ∈ l) : ∃ x : Wl, y.2.1 = x.v ∧ look y.1 = some x.w ∧ x.RdH HH := by
  have h1 := h y.1
  rw [lookK_mem hg.keys hy] at h1
  cases hl : look y.1 with
  | none => rw [hl] at h1; exact h1.elim
  | some w =>
    rw [hl] at h1
    obtain ⟨x, e1, e2, e3⟩ := h1
    exact ⟨x, e1, by rw [e2], e3⟩
theorem Tab.has {HH : List Blk} {l : List (EntK Co)} {look : Co → Option Wy} (h : Tab HH l look) {k : Co} {w : Wy} (hk : look k = some w) : ∃ y ∈ l, y.1 = k := by
  have h1 := h k
  rw [hk] at h1
  cases hl : lookK k l with
  | none => rw [hl] at h1; exact h1.elim
  | some v =>
    obtain ⟨y, h2, h3, _⟩ := lookK_some hl
    exact ⟨y, h2, h3⟩
theorem Tab.look {HH : List Blk} {l : List (EntK Co)} {look : Co → Option Wy} (h : Tab HH l look) (k : Co) : ∃ (x : Wl), lookV Wl.z.v (lookK k l) = .tuple #[x.v, .bool (look k).isSome] ∧ x.RdH HH ∧ ∀ w, look k = some w → x.w = w := by
  have h1 := h k
  cases hl : lookK k l with
  | none =>
    cases hk : look k with
    | none => exact ⟨Wl.z, rfl, Wl.RdH.z HH, fun w h => by cases h⟩
    | some w => rw [hl, hk] at h1; exact h1.elim
  | some v =>
    cases hk : look k with
    | none => rw [hl, hk] at h1; exact h1.elim
    | some w =>
      rw [hl, hk] at h1
      obtain ⟨x, rfl, rfl, h3⟩ := h1
      exact ⟨x, rfl, h3, fun w h => by cases h; rfl⟩
end Go.Proofs.YtjekjehgmljbgaaDoor.T

/- How all that can be reached is found: the program's walk. -/
namespace Go.Proofs.YtjekjehgmljbgaaDoor.T
open Go.RowKit Go.Proofs Go.Eng
set_option maxRecDepth 100000
set_option maxHeartbeats 1000000
set_option linter.unusedVariables false
set_option linter.unusedSimpArgs false

/-- Some ways of the next level, and the least of them. -/
structure Cn.Stp (c : Cn) (n : Nat) (P : Co → Wy → Prop) (look : Co → Option Wy) : Prop where
  min : ∀ y, IsMin (P y) (look y)
  snd : ∀ y v, P y v → ¬ c.Kn n y ∧ ∃ x w p, c.Lv n w x ∧ c.pE x p = 0 ∧ y = c.stp x p ∧ v = c.nx w x p
theorem Cn.Stp.nil (c : Cn) (n : Nat) : c.Stp n (fun _ _ => False) (fun _ => none) := ⟨fun y v h => h, fun y v h => h.elim⟩
theorem Cn.Stp.put {c : Cn} {n : Nat} {P : Co → Wy → Prop} {look : Co → Option Wy} (h : c.Stp n P look) {x : Co} {w : Wy} {p : Po} (hw : c.Lv n w x) (hp : c.pE x p = 0) (hk : ¬ c.Kn n (c.stp x p)) :
    c.Stp n (fun y v => P y v ∨ (y = c.stp x p ∧ v = c.nx w x p)) (fun y => if y = c.stp x p then some (pickW (look (c.stp x p)) (c.nx w x p)) else look y) := by
  refine ⟨fun y => ?_, fun y v hv => ?_⟩
  · by_cases hy : y = c.stp x p
    · subst hy
      simp only [if_true, true_and]
      exact (h.min _).step _
    · simp only [if_neg hy, hy, false_and, or_false]
      exact h.min y
  · rcases hv with hv | ⟨rfl, rfl⟩
    · exact h.snd y v hv
    · exact ⟨hk, x, w, p, hw, hp, rfl, rfl⟩
/-- All ways on from some content are among these. -/
def Cn.Dn (c : Cn) (n : Nat) (P : Co → Wy → Prop) (x : Co) (w : Wy) (k : Nat) : Prop := ∀ j, j < k → ¬ c.Kn n (c.stp x ((c.ps x).getD j Po.z)) → P (c.stp x ((c.ps x).getD j Po.z)) (c.nx w x ((c.ps x).getD j Po.z))
theorem Cn.Stp.level {c : Cn} {n : Nat} (hn : c.n ≤ 3) {P : Co → Wy → Prop} {look : Co → Option Wy} (h : c.Stp n P look) (hd : ∀ x w, c.Lv n w x → c.Dn n P x w (c.ps x).length) (y : Co) : look y = c.eqO (n + 1) y := by
  have hl := Cn.level hn h.min h.snd fun x w p hw hp hk => by
    obtain ⟨j, hj, rfl⟩ := Cn.ps_mem hp
    exact hd x w hw j hj hk
  cases he : c.eqO (n + 1) y with
  | some w => exact (hl y w).2 (Cn.eqO_iff.1 he)
  | none =>
    cases hk : look y with
    | none => rfl
    | some w => rw [Cn.eqO_iff.2 ((hl y w).1 hk)] at he; cases he
/-- The open map while it is walked: what is left of it was not seen, what was taken out is done. -/
structure OpenM (c : Cn) (n : Nat) (P : Co → Wy → Prop) (HX : List Blk) (lo : List (EntK Co)) (co : Nat) (seen : Array Nat) : Prop where
  good : GoodM lo co
  ent : ∀ y ∈ lo, ∃ x : Wl, y.2.1 = x.v ∧ x.RdH HX ∧ c.Lv n x.w y.1
  un : ∀ y ∈ lo, y.2.2 ∉ seen
  dn : ∀ x w, c.Lv n w x → (∃ y ∈ lo, y.1 = x) ∨ c.Dn n P x w (c.ps x).length
theorem OpenM.start {c : Cn} {n : Nat} {P : Co → Wy → Prop} {HX : List Blk} {lo : List (EntK Co)} {co : Nat} (hg : GoodM lo co) (ht : Tab HX lo (c.eqO n)) : OpenM c n P HX lo co #[] := by
  refine ⟨hg, fun y hy => ?_, fun y hy => by simp, fun x w hw => .inl (ht.has (Cn.eqO_iff.2 hw))⟩
  obtain ⟨x, h1, h2, h3⟩ := ht.mem hg hy
  exact ⟨x, h1, h3, Cn.eqO_iff.1 h2⟩
theorem OpenM.step {c : Cn} {n : Nat} {P P' : Co → Wy → Prop} {HX HX' : List Blk} {lo : List (EntK Co)} {co : Nat} {seen : Array Nat} (h : OpenM c n P HX lo co seen) (hP : ∀ y v, P y v → P' y v) (hs : HX.Sublist HX') {k : Co} {x : Wl} {bn : Nat} (hy : (k, x.v, bn) ∈ lo)
    (hd : ∀ w, c.Lv n w k → c.Dn n P' k w (c.ps k).length) : OpenM c n P' HX' (delK k lo) co (seen.push bn) := by
  refine ⟨h.good.del k, fun y hm => ?_, fun y hm => ?_, fun z w hw => ?_⟩
  · obtain ⟨h1, _⟩ := (mem_delK h.good.keys).1 hm
    obtain ⟨x, e1, e2, e3⟩ := h.ent y h1
    exact ⟨x, e1, e2.mono hs, e3⟩
  · obtain ⟨h1, h2⟩ := (mem_delK h.good.keys).1 hm
    rw [Array.mem_push]
    rintro (h3 | h3)
    · exact h.un y h1 h3
    · have : ∀ {l : List (EntK Co)}, (l.map (·.2.2)).Nodup → y ∈ l → (k, x.v, bn) ∈ l → y = (k, x.v, bn) := by
        intro l
        induction l with
        | nil => intro _ h; cases h
        | cons z l ih =>
          intro hn a1 a2
          rw [List.map_cons, List.nodup_cons] at hn
          rcases List.mem_cons.1 a1 with e1 | e1
          · rcases List.mem_cons.1 a2 with e2 | e2
            · rw [e1, e2]
            · exact absurd (List.mem_map.2 ⟨_, e2, by rw [← e1]; exact h3.symm⟩) hn.1
          · rcases List.mem_cons.1 a2 with e2 | e2
            · exact absurd (List.mem_map.2 ⟨_, e1, by rw [← e2]; exact h3⟩) hn.1
            · exact ih hn.2 e1 e2
      have he := this h.good.born h1 hy
      exact h2 (by rw [he])
  · rcases h.dn z w hw with ⟨y, h1, rfl⟩ | h1
    · by_cases hk : y.1 = k
      · right
        rw [hk] at hw ⊢
        exact hd w hw
      · exact .inl ⟨y, (mem_delK h.good.keys).2 ⟨h1, hk⟩, rfl⟩
    · exact .inr fun j hj hn => hP _ _ (h1 j hj hn)
theorem OpenM.all {c : Cn} {n : Nat} {P : Co → Wy → Prop} {HX : List Blk} {lo : List (EntK Co)} {co : Nat} {seen : Array Nat} (h : OpenM c n P HX lo co seen) (hov : ∀ x ∈ lo, x.2.2 ∈ seen) (x : Co) (w : Wy) (hw : c.Lv n w x) : c.Dn n P x w (c.ps x).length := by
  rcases h.dn x w hw with ⟨y, h1, _⟩ | h1
  · exact absurd (hov y h1) (h.un y h1)
  · exact h1
theorem Cn.nx_len (c : Cn) (w : Wy) (x : Co) (p : Po) : (c.nx w x p).l.length = w.l.length + 1 := by unfold Cn.nx; simp
theorem Wls.two {C : Ctx} {H : List Blk} {b T : Nat} {x y : Wl} (i : Nat) (hi : H[i]? = some (b, CB [.slice x.a x.w.l.length x.k, .int .i64 x.w.back, .slice y.a y.w.l.length y.k, .int .i64 y.w.back] T)) (w : World) (hw : St C H w) : Wls w (some ⟨b, 0, none⟩) 2 2 [x, y] := by
  refine ⟨rfl, Nat.le_refl _, fun k hk => ⟨b, 0, rfl, ?_⟩⟩
  have hb := hw.get hi
  obtain rfl | rfl : k = 0 ∨ k = 1 := by omega
  · exact at_block (rest := [.slice y.a y.w.l.length y.k, .int .i64 y.w.back]) hb rfl
  · exact at_block (rest := []) hb rfl
end Go.Proofs.YtjekjehgmljbgaaDoor.T

/- What the reference has reached, level by level; pure. -/
namespace Go.Proofs.YtjekjehgmljbgaaDoor.T
open Go.RowKit Go.Proofs Go.Eng
set_option linter.unusedVariables false

/-- The list of what is reached, and the table of where. -/
structure Cn.TabK (c : Cn) (xs : List (Co × Wy)) (ks : List Int) : Prop where
  len : ks.length = 9261
  tab : ∀ y, c.In y → y.sm = c.co.sm → (ks.getD (c.ky y).toNat 0 = 0 ∧ ∀ z ∈ xs, z.1 ≠ y) ∨ ∃ (j : Nat) (z : Co × Wy), xs[j]? = some z ∧ z.1 = y ∧ ks.getD (c.ky y).toNat 0 = (j : Int) + 1
  inn : ∀ z ∈ xs, c.In z.1 ∧ z.1.sm = c.co.sm
  nd : (xs.map Prod.fst).Nodup
theorem Cn.TabK.bd {c : Cn} (hok : c.Ok) {xs : List (Co × Wy)} {ks : List Int} (h : c.TabK xs ks) : xs.length ≤ 9261 := by
  have hnd : (xs.map fun z => (c.ky z.1).toNat).Nodup := by
    have h1 := h.nd
    rw [List.nodup_iff_pairwise_ne, List.pairwise_map] at h1 ⊢
    refine h1.imp_of_mem fun {a b} ha hb hab he => hab ?_
    obtain ⟨a1, a2⟩ := h.inn a ha
    obtain ⟨b1, b2⟩ := h.inn b hb
    have k1 := Cn.ky_bd hok a1
    have k2 := Cn.ky_bd hok b1
    exact Cn.ky_inj hok a1 b1 (a2.trans b2.symm) (by omega)
  have := nodup_bd (N := 9261) hnd fun n hn => by
    obtain ⟨z, hz, rfl⟩ := List.mem_map.1 hn
    have := Cn.ky_bd hok (h.inn z hz).1
    omega
  rwa [List.length_map] at this
theorem Cn.TabK.push {c : Cn} (hok : c.Ok) {xs : List (Co × Wy)} {ks : List Int} (h : c.TabK xs ks) {y : Co} (hy : c.In y) (hs : y.sm = c.co.sm) (hk : ks.getD (c.ky y).toNat 0 = 0) (v : Wy) : c.TabK (xs ++ [(y, v)]) (ks.set (c.ky y).toNat ((xs.length : Int) + 1)) := by
  have hb := Cn.ky_bd hok hy
  have hn : ∀ z ∈ xs, z.1 ≠ y := by
    rcases h.tab y hy hs with h1 | ⟨j, z, _, _, h3⟩
    · exact h1.2
    · omega
  refine ⟨by rw [List.length_set]; exact h.len, fun u hu hus => ?_, fun z hz => ?_, ?_⟩
  · by_cases he : u = y
    · subst he
      refine .inr ⟨xs.length, (u, v), by simp, rfl, ?_⟩
      rw [List.getD_eq_getElem?_getD, List.getElem?_set_self (by rw [h.len]; omega)]
      rfl
    · have hne : (c.ky y).toNat ≠ (c.ky u).toNat := fun hh => he (by
        have := Cn.ky_bd hok hu
        exact Cn.ky_inj hok hu hy (hus.trans hs.symm) (by omega))
      have hg : (ks.set (c.ky y).toNat ((xs.length : Int) + 1)).getD (c.ky u).toNat 0 = ks.getD (c.ky u).toNat 0 := by
        rw [List.getD_eq_getElem?_getD, List.getD_eq_getElem?_getD, List.getElem?_set_ne hne]
      rw [hg]
      rcases h.tab u hu hus with ⟨h1, h2⟩ | ⟨j, z, h1, h2, h3⟩
      · refine .inl ⟨h1, fun z hz => ?_⟩
        rcases List.mem_append.1 hz with hz | hz
        · exact h2 z hz
        · simp only [List.mem_singleton] at hz; subst hz; exact fun e => he e.symm
      · exact .inr ⟨j, z, by rw [List.getElem?_append_left (List.getElem?_eq_some_iff.1 h1).1]; exact h1, h2, h3⟩
  · rcases List.mem_append.1 hz with hz | hz
    · exact h.inn z hz
    · simp only [List.mem_singleton] at hz; subst hz; exact ⟨hy, hs⟩
  · rw [List.map_append, List.nodup_append]
    refine ⟨h.nd, by simp, fun a ha b hb2 hab => ?_⟩
    obtain ⟨z, hz, rfl⟩ := List.mem_map.1 ha
    simp only [List.map_cons, List.map_nil, List.mem_singleton] at hb2
    exact hn z hz (hab.trans hb2)
theorem map_set_fst {xs : List (Co × Wy)} {j : Nat} {y : Co} {u v : Wy} (h : xs[j]? = some (y, u)) : (xs.set j (y, v)).map Prod.fst = xs.map Prod.fst := by
  obtain ⟨hj, he⟩ := List.getElem?_eq_some_iff.1 h
  rw [List.map_set]
  refine List.ext_getElem (by simp) fun i h1 h2 => ?_
  rw [List.getElem_set]
  split
  · rename_i hij; subst hij; simp [he]
  · rfl
theorem Cn.TabK.upd {c : Cn} {xs : List (Co × Wy)} {ks : List Int} (h : c.TabK xs ks) {j : Nat} {y : Co} {u : Wy} (hj : xs[j]? = some (y, u)) (v : Wy) : c.TabK (xs.set j (y, v)) ks := by
  have hjl := (List.getElem?_eq_some_iff.1 hj).1
  have hfst : ∀ z ∈ xs.set j (y, v), z.1 ∈ xs.map Prod.fst := fun z hz => by
    rw [← map_set_fst hj (v := v)]; exact List.mem_map.2 ⟨z, hz, rfl⟩
  refine ⟨h.len, fun a ha has => ?_, fun z hz => ?_, by rw [map_set_fst hj]; exact h.nd⟩
  · rcases h.tab a ha has with ⟨h1, h2⟩ | ⟨i, z, h1, h2, h3⟩
    · refine .inl ⟨h1, fun z hz => ?_⟩
      obtain ⟨z', hz', he⟩ := List.mem_map.1 (hfst z hz)
      rw [← he]; exact h2 z' hz'
    · by_cases hij : j = i
      · subst hij
        rw [hj] at h1
        cases h1
        exact .inr ⟨j, (y, v), List.getElem?_set_self hjl, h2, h3⟩
      · exact .inr ⟨i, z, by rw [List.getElem?_set_ne hij]; exact h1, h2, h3⟩
  · obtain ⟨z', hz', he⟩ := List.mem_map.1 (hfst z hz)
    rw [← he]; exact h.inn z' hz'
/-- All of the levels up to one are reached. -/
structure Cn.Rc0 (c : Cn) (n fr : Nat) (xs : List (Co × Wy)) (ks : List Int) : Prop where
  tb : c.TabK xs ks
  frl : fr ≤ xs.length
  best : ∀ (j : Nat) (z : Co × Wy), xs[j]? = some z → c.Best z.2 z.1 ∧ (j < fr → z.2.l.length < n) ∧ (fr ≤ j → z.2.l.length = n)
  all : ∀ y w, c.Best w y → w.l.length ≤ n → (y, w) ∈ xs
  srt : xs.Pairwise fun a b => a.2.l.length ≤ b.2.l.length
/-- While the next level is walked. -/
structure Cn.RcI (c : Cn) (n fr en : Nat) (P : Co → Wy → Prop) (look : Co → Option Wy) (xs : List (Co × Wy)) (ks : List Int) : Prop where
  tb : c.TabK xs ks
  stp : c.Stp n P look
  frl : fr ≤ en
  enl : en ≤ xs.length
  best : ∀ (j : Nat) (z : Co × Wy), j < en → xs[j]? = some z → c.Best z.2 z.1 ∧ (j < fr → z.2.l.length < n) ∧ (fr ≤ j → z.2.l.length = n)
  all : ∀ y w, c.Best w y → w.l.length ≤ n → ∃ j : Nat, j < en ∧ xs[j]? = some (y, w)
  new : ∀ y w, look y = some w ↔ ∃ j : Nat, en ≤ j ∧ xs[j]? = some (y, w)
  srt : ∀ (i j : Nat) (a b : Co × Wy), i ≤ j → j < en → xs[i]? = some a → xs[j]? = some b → a.2.l.length ≤ b.2.l.length
theorem Cn.Rc0.start {c : Cn} {n fr : Nat} {xs : List (Co × Wy)} {ks : List Int} (h : c.Rc0 n fr xs ks) : c.RcI n fr xs.length (fun _ _ => False) (fun _ => none) xs ks := by
  refine ⟨h.tb, .nil c n, h.frl, Nat.le_refl _, fun j z _ hz => h.best j z hz, fun y w hw hl => ?_, fun y w => ?_, fun i j a b hij hj ha hb => ?_⟩
  · obtain ⟨j, hj⟩ := List.getElem?_of_mem (h.all y w hw hl)
    exact ⟨j, (List.getElem?_eq_some_iff.1 hj).1, hj⟩
  · constructor
    · intro h; cases h
    · rintro ⟨j, h1, h2⟩
      have := (List.getElem?_eq_some_iff.1 h2).1
      omega
  · by_cases he : i = j
    · subst he; rw [ha] at hb; cases hb; exact Nat.le_refl _
    · have hp := List.pairwise_iff_getElem.1 h.srt i j (by omega) hj (by omega)
      rw [(List.getElem?_eq_some_iff.1 ha).2, (List.getElem?_eq_some_iff.1 hb).2] at hp
      exact hp
theorem Cn.RcI.kn {c : Cn} {n fr en : Nat} {P : Co → Wy → Prop} {look : Co → Option Wy} {xs : List (Co × Wy)} {ks : List Int} (h : c.RcI n fr en P look xs ks) {y : Co} : c.Kn n y ↔ ∃ (j : Nat) (z : Co × Wy), j < en ∧ xs[j]? = some z ∧ z.1 = y := by
  constructor
  · rintro ⟨u, h1, h2⟩
    obtain ⟨j, h3, h4⟩ := h.all y u h1 h2
    exact ⟨j, _, h3, h4, rfl⟩
  · rintro ⟨j, z, h1, h2, rfl⟩
    obtain ⟨h3, h4, h5⟩ := h.best j z h1 h2
    refine ⟨z.2, h3, ?_⟩
    by_cases hj : j < fr
    · exact Nat.le_of_lt (h4 hj)
    · exact Nat.le_of_eq (h5 (by omega))
/-- Two entries of one content are one. -/
theorem Cn.TabK.uniq {c : Cn} {xs : List (Co × Wy)} {ks : List Int} (h : c.TabK xs ks) {i j : Nat} {a b : Co × Wy} (ha : xs[i]? = some a) (hb : xs[j]? = some b) (he : a.1 = b.1) : i = j := by
  obtain ⟨hi, ei⟩ := List.getElem?_eq_some_iff.1 ha
  obtain ⟨hj, ej⟩ := List.getElem?_eq_some_iff.1 hb
  have h1 := h.nd
  rw [List.nodup_iff_pairwise_ne, List.pairwise_iff_getElem] at h1
  rcases Nat.lt_trichotomy i j with hl | rfl | hl
  · exact (h1 i j (by simpa using hi) (by simpa using hj) hl (by simp only [List.getElem_map, ei, ej, he])).elim
  · rfl
  · exact (h1 j i (by simpa using hj) (by simpa using hi) hl (by simp only [List.getElem_map, ei, ej, he])).elim
def addP (P : Co → Wy → Prop) (y : Co) (v : Wy) : Co → Wy → Prop := fun y' v' => P y' v' ∨ (y' = y ∧ v' = v)
def addL (look : Co → Option Wy) (y : Co) (v : Wy) : Co → Option Wy := fun y' => if y' = y then some (pickW (look y) v) else look y'
theorem Cn.RcI.zero {c : Cn} {n fr en : Nat} {P : Co → Wy → Prop} {look : Co → Option Wy} {xs : List (Co × Wy)} {ks : List Int} (h : c.RcI n fr en P look xs ks) (hn : c.n ≤ 3) {x : Co} {w : Wy} {p : Po} (hx : c.In x) (hxs : x.sm = c.co.sm) (hp : c.pE x p = 0) (hk : ks.getD (c.ky (c.stp x p)).toNat 0 = 0) :
    (∀ z ∈ xs, z.1 ≠ c.stp x p) ∧ look (c.stp x p) = none ∧ ¬ c.Kn n (c.stp x p) := by
  have hz : ∀ z ∈ xs, z.1 ≠ c.stp x p := by
    rcases h.tb.tab _ (hx.stp hn hp) ((Cn.stp_sm hn hp).trans hxs) with h1 | ⟨j, z, _, _, h3⟩
    · exact h1.2
    · omega
  refine ⟨hz, ?_, fun hkn => ?_⟩
  · cases hl : look (c.stp x p) with
    | none => rfl
    | some u =>
      obtain ⟨j, _, hj⟩ := (h.new _ _).1 hl
      exact absurd rfl (hz _ (List.mem_of_getElem? hj))
  · obtain ⟨j, z, _, hj, he⟩ := h.kn.1 hkn
    exact hz _ (List.mem_of_getElem? hj) he
theorem Cn.RcI.push {c : Cn} (hok : c.Ok) {n fr en : Nat} {P : Co → Wy → Prop} {look : Co → Option Wy} {xs : List (Co × Wy)} {ks : List Int} (h : c.RcI n fr en P look xs ks) {x : Co} {w : Wy} {p : Po} (hw : c.Lv n w x) (hp : c.pE x p = 0) (hk : ks.getD (c.ky (c.stp x p)).toNat 0 = 0) :
    c.RcI n fr en (addP P (c.stp x p) (c.nx w x p)) (addL look (c.stp x p) (c.nx w x p)) (xs ++ [(c.stp x p, c.nx w x p)]) (ks.set (c.ky (c.stp x p)).toNat ((xs.length : Int) + 1)) := by
  obtain ⟨hx, hxs⟩ := hw.1.way.in hok
  obtain ⟨hz, hl, hkn⟩ := h.zero (w := w) hok.n3 hx hxs hp hk
  refine ⟨h.tb.push hok (hx.stp hok.n3 hp) ((Cn.stp_sm hok.n3 hp).trans hxs) hk _, h.stp.put hw hp hkn, h.frl, by rw [List.length_append]; have := h.enl; omega, fun j z hj hjz => ?_, fun y u hu hul => ?_, fun y u => ?_, fun i j a b hij hj ha hb => ?_⟩
  · rw [List.getElem?_append_left (by have := h.enl; omega)] at hjz
    exact h.best j z hj hjz
  · obtain ⟨j, h1, h2⟩ := h.all y u hu hul
    exact ⟨j, h1, by rw [List.getElem?_append_left (by have := h.enl; omega)]; exact h2⟩
  · unfold addL
    by_cases hy : y = c.stp x p
    · subst hy
      rw [if_pos rfl, hl]
      change some (c.nx w x p) = some u ↔ _
      constructor
      · intro e; cases e; exact ⟨xs.length, h.enl, by simp⟩
      · rintro ⟨j, h1, h2⟩
        by_cases hj : j < xs.length
        · rw [List.getElem?_append_left hj] at h2
          exact absurd rfl (hz _ (List.mem_of_getElem? h2))
        · rw [List.getElem?_append_right (by omega)] at h2
          obtain ⟨_, h3⟩ := List.getElem?_eq_some_iff.1 h2
          simp only [List.getElem_singleton, Prod.mk.injEq, true_and] at h3
          rw [h3]
    · rw [if_neg hy, h.new]
      constructor
      · rintro ⟨j, h1, h2⟩
        exact ⟨j, h1, by rw [List.getElem?_append_left (List.getElem?_eq_some_iff.1 h2).1]; exact h2⟩
      · rintro ⟨j, h1, h2⟩
        by_cases hj : j < xs.length
        · rw [List.getElem?_append_left hj] at h2; exact ⟨j, h1, h2⟩
        · rw [List.getElem?_append_right (by omega)] at h2
          obtain ⟨_, h3⟩ := List.getElem?_eq_some_iff.1 h2
          simp only [List.getElem_singleton, Prod.mk.injEq] at h3
          exact absurd h3.1.symm hy
  · have := h.enl
    rw [List.getElem?_append_left (by omega)] at ha hb
    exact h.srt i j a b hij hj ha hb
theorem Cn.RcI.known {c : Cn} (hok : c.Ok) {n fr en : Nat} {P : Co → Wy → Prop} {look : Co → Option Wy} {xs : List (Co × Wy)} {ks : List Int} (h : c.RcI n fr en P look xs ks) {x : Co} {w : Wy} {p : Po} (hw : c.Lv n w x) (hp : c.pE x p = 0) (hk : ¬ ks.getD (c.ky (c.stp x p)).toNat 0 = 0) :
    ∃ (j : Nat) (u : Wy), xs[j]? = some (c.stp x p, u) ∧ ks.getD (c.ky (c.stp x p)).toNat 0 = (j : Int) + 1 ∧ (j < en → c.Kn n (c.stp x p)) ∧ (en ≤ j → look (c.stp x p) = some u ∧ u.l.length = n + 1 ∧ ¬ c.Kn n (c.stp x p)) := by
  obtain ⟨hx, hxs⟩ := hw.1.way.in hok
  rcases h.tb.tab _ (hx.stp hok.n3 hp) ((Cn.stp_sm hok.n3 hp).trans hxs) with h1 | ⟨j, z, h1, h2, h3⟩
  · exact absurd h1.1 hk
  · obtain ⟨y, u⟩ := z
    simp only at h2
    subst h2
    refine ⟨j, u, h1, h3, fun hj => h.kn.2 ⟨j, _, hj, h1, rfl⟩, fun hj => ?_⟩
    have hl := (h.new _ u).2 ⟨j, hj, h1⟩
    have hm := h.stp.min (c.stp x p)
    rw [hl] at hm
    obtain ⟨hn, x', w', p', hw', hp', he, rfl⟩ := h.stp.snd _ _ hm.1
    exact ⟨hl, by rw [c.nx_len, hw'.2], hn⟩
theorem Cn.RcI.upd {c : Cn} {n fr en : Nat} {P : Co → Wy → Prop} {look : Co → Option Wy} {xs : List (Co × Wy)} {ks : List Int} (h : c.RcI n fr en P look xs ks) {x : Co} {w : Wy} {p : Po} (hw : c.Lv n w x) (hp : c.pE x p = 0) {j : Nat} {u : Wy} (hj : xs[j]? = some (c.stp x p, u)) (hje : en ≤ j) (hl : look (c.stp x p) = some u) (hkn : ¬ c.Kn n (c.stp x p)) :
    c.RcI n fr en (addP P (c.stp x p) (c.nx w x p)) (addL look (c.stp x p) (c.nx w x p)) (xs.set j (c.stp x p, pickW (some u) (c.nx w x p))) ks := by
  have hjl := (List.getElem?_eq_some_iff.1 hj).1
  refine ⟨h.tb.upd hj _, h.stp.put hw hp hkn, h.frl, by rw [List.length_set]; exact h.enl, fun i z hi hiz => ?_, fun y v hv hvl => ?_, fun y v => ?_, fun i k a b hik hk ha hb => ?_⟩
  · rw [List.getElem?_set_ne (by omega)] at hiz
    exact h.best i z hi hiz
  · obtain ⟨i, h1, h2⟩ := h.all y v hv hvl
    exact ⟨i, h1, by rw [List.getElem?_set_ne (by omega)]; exact h2⟩
  · unfold addL
    by_cases hy : y = c.stp x p
    · subst hy
      rw [if_pos rfl, hl]
      constructor
      · intro e; cases e; exact ⟨j, hje, List.getElem?_set_self hjl⟩
      · rintro ⟨i, h1, h2⟩
        by_cases hij : j = i
        · subst hij
          rw [List.getElem?_set_self hjl] at h2
          simp only [Option.some.injEq, Prod.mk.injEq, true_and] at h2
          rw [h2]
        · rw [List.getElem?_set_ne hij] at h2
          exact absurd (h.tb.uniq hj h2 rfl) hij
    · rw [if_neg hy, h.new]
      constructor
      · rintro ⟨i, h1, h2⟩
        have hij : j ≠ i := fun e => by subst e; rw [hj] at h2; cases h2; exact hy rfl
        exact ⟨i, h1, by rw [List.getElem?_set_ne hij]; exact h2⟩
      · rintro ⟨i, h1, h2⟩
        by_cases hij : j = i
        · subst hij
          rw [List.getElem?_set_self hjl] at h2
          simp only [Option.some.injEq, Prod.mk.injEq] at h2
          exact absurd h2.1.symm hy
        · rw [List.getElem?_set_ne hij] at h2
          exact ⟨i, h1, h2⟩
  · rw [List.getElem?_set_ne (by omega)] at ha hb
    exact h.srt i k a b hik hk ha hb
theorem Cn.RcI.done {c : Cn} (hok : c.Ok) {n fr en : Nat} {P : Co → Wy → Prop} {look : Co → Option Wy} {xs : List (Co × Wy)} {ks : List Int} (h : c.RcI n fr en P look xs ks) (hd : ∀ (j : Nat) (z : Co × Wy), fr ≤ j → j < en → xs[j]? = some z → c.Dn n P z.1 z.2 (c.ps z.1).length) : c.Rc0 (n + 1) en xs ks := by
  have hlv := h.stp.level hok.n3 fun x w hw => by
    obtain ⟨j, h1, h2⟩ := h.all x w hw.1 (Nat.le_of_eq hw.2)
    refine hd j (x, w) ?_ h1 h2
    obtain ⟨_, h3, _⟩ := h.best j _ h1 h2
    have := hw.2
    refine Nat.le_of_not_lt fun hj => ?_
    have := h3 hj
    simp only at this
    omega
  have hnew : ∀ j z, en ≤ j → xs[j]? = some z → c.Lv (n + 1) z.2 z.1 := fun j z h1 h2 => Cn.eqO_iff.1 ((hlv z.1).symm.trans ((h.new z.1 z.2).2 ⟨j, h1, h2⟩))
  have hle : ∀ (j : Nat) (z : Co × Wy), j < en → xs[j]? = some z → z.2.l.length ≤ n := fun j z h1 h2 => by
    obtain ⟨_, h3, h4⟩ := h.best j z h1 h2
    by_cases hj : j < fr
    · exact Nat.le_of_lt (h3 hj)
    · exact Nat.le_of_eq (h4 (by omega))
  refine ⟨h.tb, h.enl, fun j z hz => ?_, fun y w hw hl => ?_, ?_⟩
  · by_cases hj : j < en
    · have := hle j z hj hz
      exact ⟨(h.best j z hj hz).1, fun _ => by omega, fun h => by omega⟩
    · have := hnew j z (by omega) hz
      exact ⟨this.1, fun h => by omega, fun _ => this.2⟩
  · by_cases hn : w.l.length ≤ n
    · obtain ⟨j, _, h2⟩ := h.all y w hw hn
      exact List.mem_of_getElem? h2
    · have : look y = some w := (hlv y).trans (Cn.eqO_iff.2 ⟨hw, by omega⟩)
      obtain ⟨j, _, h2⟩ := (h.new y w).1 this
      exact List.mem_of_getElem? h2
  · rw [List.pairwise_iff_getElem]
    intro i j hi hj hij
    have ei : xs[i]? = some xs[i] := List.getElem?_eq_getElem hi
    have ej : xs[j]? = some xs[j] := List.getElem?_eq_getElem hj
    by_cases hje : j < en
    · exact h.srt i j _ _ (Nat.le_of_lt hij) hje ei ej
    · have h1 := (hnew j _ (by omega) ej).2
      by_cases hie : i < en
      · have := hle i _ hie ei; omega
      · have := (hnew i _ (by omega) ei).2; omega
/-- All is reached. -/
structure Cn.Rcd (c : Cn) (xs : List (Co × Wy)) : Prop where
  best : ∀ z ∈ xs, c.Best z.2 z.1
  all : ∀ y w, c.Best w y → (y, w) ∈ xs
  nd : (xs.map Prod.fst).Nodup
  srt : xs.Pairwise fun a b => a.2.l.length ≤ b.2.l.length
  len : xs.length ≤ 9261
theorem Cn.Rc0.end {c : Cn} (hok : c.Ok) {n fr : Nat} {xs : List (Co × Wy)} {ks : List Int} (h : c.Rc0 n fr xs ks) (hf : xs.length ≤ fr) : c.Rcd xs := by
  have hno : ∀ w y, ¬ c.Lv n w y := fun w y hw => by
    obtain ⟨j, hj⟩ := List.getElem?_of_mem (h.all y w hw.1 (Nat.le_of_eq hw.2))
    have h1 := (List.getElem?_eq_some_iff.1 hj).1
    have h2 := (h.best j _ hj).2.1 (by omega)
    have := hw.2
    simp only at h2
    omega
  refine ⟨fun z hz => ?_, fun y w hw => h.all y w hw (Nat.le_of_lt (Cn.no_more hno hw)), h.tb.nd, h.srt, h.tb.bd hok⟩
  obtain ⟨j, hj⟩ := List.getElem?_of_mem hz
  exact (h.best j z hj).1
theorem Cn.Rc0.first {c : Cn} (hok : c.Ok) : c.Rc0 0 0 [(c.co, ⟨[], 0⟩)] ((List.replicate 9261 0).set (c.ky c.co).toNat 1) := by
  have hb : c.Best ⟨[], 0⟩ c.co := (Cn.lv_zero.2 ⟨rfl, rfl⟩).1
  have h0 : c.TabK [] (List.replicate 9261 0) := by
    refine ⟨List.length_replicate, fun y hy hs => .inl ⟨?_, fun z hz => (by cases hz)⟩, fun z hz => (by cases hz), List.nodup_nil⟩
    have := Cn.ky_bd hok hy
    rw [List.getD_eq_getElem?_getD, List.getElem?_replicate, if_pos (by omega)]
    rfl
  have h1 := h0.push hok hok.co_in rfl (v := ⟨[], 0⟩) (by
    have := Cn.ky_bd hok hok.co_in
    rw [List.getD_eq_getElem?_getD, List.getElem?_replicate, if_pos (by omega)]
    rfl)
  refine ⟨h1, Nat.zero_le _, fun j z hz => ?_, fun y w hw hl => ?_, by simp⟩
  · obtain ⟨hj, e⟩ := List.getElem?_eq_some_iff.1 hz
    simp only [List.length_singleton] at hj
    obtain rfl : j = 0 := by omega
    simp only [List.getElem_singleton] at e
    subst e
    exact ⟨hb, fun h => by omega, fun _ => rfl⟩
  · obtain ⟨rfl, rfl⟩ := Cn.lv_zero.1 ⟨hw, Nat.le_zero.1 hl⟩
    exact List.mem_singleton.2 rfl
theorem Cn.Dn.step {c : Cn} {n : Nat} {P P' : Co → Wy → Prop} (hP : ∀ y v, P y v → P' y v) {x : Co} {w : Wy} {k : Nat} (h : c.Dn n P x w k) (hk : ¬ c.Kn n (c.stp x ((c.ps x).getD k Po.z)) → P' (c.stp x ((c.ps x).getD k Po.z)) (c.nx w x ((c.ps x).getD k Po.z))) : c.Dn n P' x w (k + 1) := fun j hj hn => by
  by_cases he : j = k
  · subst he; exact hk hn
  · exact hP _ _ (h j (by omega) hn)
end Go.Proofs.YtjekjehgmljbgaaDoor.T

/- The fewest pourings for an aim: the program's walks. -/
namespace Go.Proofs.YtjekjehgmljbgaaDoor.T
open Go.RowKit Go.Proofs Go.Eng
set_option maxRecDepth 100000
set_option maxHeartbeats 1000000
set_option linter.unusedVariables false
set_option linter.unusedSimpArgs false

/-- A function value that tells of contents; what it reads lies among some blocks, or in the memory of the start. -/
structure AimOk (P : Program) (w0 : World) (HA : List Blk) (fid : FuncId) (first caps : List Value) (Q : Co → Prop) (p : Co → Bool) : Prop where
  enter : ∀ args w, (callFunc fid args).run P w = .ok (.enter fid args) w
  call : ∀ x, Q x → ∀ (C : Ctx) (H : List Blk) (w : World), C.w0 = w0 → HA.Sublist H → St C H w → Ct P fid (first ++ (Value.agg x.cells.toArray :: caps)).toArray w fun v _ => v = .bool (p x)
def wRow (xs : List Wl) : List Value := rowOf Wl.cells (fun k => xs.getD k Wl.z) xs.length
def addX (p : Co → Bool) (xs : List Wl) (x : Co) (y : Wl) : List Wl := if p x then xs ++ [y] else xs
/-- The ways that were taken, of the entries that were seen. -/
structure FwI (c : Cn) (p : Co → Bool) (l : List (EntK Co)) (HX : List Blk) (seen : Array Nat) (xs : List Wl) : Prop where
  snd : ∀ y ∈ xs, ∃ k, p k = true ∧ c.Best y.w k ∧ y.RdH HX
  cmp : ∀ e ∈ l, e.2.2 ∈ seen → p e.1 = true → ∃ y ∈ xs, c.Best y.w e.1
  len : xs.length + leftL l seen ≤ l.length
theorem FwI.nil (c : Cn) (p : Co → Bool) (l : List (EntK Co)) (HX : List Blk) : FwI c p l HX #[] [] := ⟨fun y h => (by cases h), fun e _ h => (by simp at h), (by rw [List.length_nil, Nat.zero_add]; exact List.length_filter_le _ _)⟩
theorem FwI.step {c : Cn} {p : Co → Bool} {l : List (EntK Co)} {HX : List Blk} {seen : Array Nat} {xs : List Wl} (h : FwI c p l HX seen xs) {k : Co} {y : Wl} {bn : Nat} (hy : (k, y.v, bn) ∈ l) (hb : (l.map (·.2.2)).Nodup) (hns : bn ∉ seen) (hbst : c.Best y.w k) (hr : y.RdH HX) :
    FwI c p l HX (seen.push bn) (addX p xs k y) := by
  have hlt := leftL_lt (l := l) (seen := seen) (y := (k, y.v, bn)) hy hns
  unfold addX
  refine ⟨fun z hz => ?_, fun e he hs hp => ?_, ?_⟩
  · split at hz
    · rename_i hp
      rcases List.mem_append.1 hz with hz | hz
      · exact h.snd z hz
      · simp only [List.mem_singleton] at hz; subst hz; exact ⟨k, hp, hbst, hr⟩
    · exact h.snd z hz
  · rcases Array.mem_push.1 hs with hs | hs
    · obtain ⟨z, hz, hzv⟩ := h.cmp e he hs hp
      refine ⟨z, ?_, hzv⟩
      split
      · exact List.mem_append_left _ hz
      · exact hz
    · have : ∀ {l : List (EntK Co)}, (l.map (·.2.2)).Nodup → e ∈ l → (k, y.v, bn) ∈ l → e = (k, y.v, bn) := by
        intro l
        induction l with
        | nil => intro _ h; cases h
        | cons z l ih =>
          intro hn a1 a2
          rw [List.map_cons, List.nodup_cons] at hn
          rcases List.mem_cons.1 a1 with e1 | e1
          · rcases List.mem_cons.1 a2 with e2 | e2
            · rw [e1, e2]
            · exact absurd (List.mem_map.2 ⟨_, e2, by rw [← e1]; exact hs.symm⟩) hn.1
          · rcases List.mem_cons.1 a2 with e2 | e2
            · exact absurd (List.mem_map.2 ⟨_, e1, by rw [← e2]; exact hs⟩) hn.1
            · exact ih hn.2 e1 e2
      have he := this hb he hy
      subst he
      rw [if_pos hp]
      exact ⟨y, List.mem_append_right _ (List.mem_singleton.2 rfl), hbst⟩
  · have := h.len
    split
    · rw [List.length_append, List.length_singleton]
      change xs.length + 1 + leftL l (seen.push bn) ≤ l.length
      change leftL l (seen.push bn) < leftL l seen at hlt
      omega
    · change leftL l (seen.push bn) < leftL l seen at hlt
      omega
theorem FwI.few {c : Cn} {p : Co → Bool} {l : List (EntK Co)} {ck : Nat} {HX : List Blk} {seen : Array Nat} {xs : List Wl} (h : FwI c p l HX seen xs) (hT : Tab HX l c.bestO) (hov : ∀ x ∈ l, x.2.2 ∈ seen) {k : Co} {v : Wy} (hp : p k = true) (hb : c.Best v k) : ∃ y ∈ xs, y.w = v := by
  obtain ⟨e, he, rfl⟩ := hT.has (Cn.bestO_iff.2 hb)
  obtain ⟨y, hy, hyb⟩ := h.cmp e he (hov e he) hp
  exact ⟨y, hy, hyb.uniq hb⟩
/-- The best way to what is wanted, of all ways of a map. -/
structure FewV (c : Cn) (p : Co → Bool) (HX : List Blk) (x : Wl) (b : Bool) : Prop where
  rd : x.RdH HX
  yes : b = true → (∃ k, p k = true ∧ c.Best x.w k) ∧ ∀ k v, p k = true → c.Best v k → v.lt x.w = false
  no : b = false → x = Wl.z ∧ ∀ k v, p k = true → ¬ c.Best v k
end Go.Proofs.YtjekjehgmljbgaaDoor.T

/- What is wanted, and the fewest pourings for it; pure. -/
namespace Go.Proofs.YtjekjehgmljbgaaDoor.T
open Go.RowKit Go.Proofs Go.Eng
set_option linter.unusedVariables false

/-- What is wanted: of some can, of all cans together, or of each one. -/
def Cn.someP (c : Cn) (n : Int) (x : Co) : Bool := decide (n ∈ (c.of x).inn)
def totP (n : Int) (x : Co) : Bool := decide (x.b + x.c + x.d = n)
def Cn.bothP (c : Cn) (want : List Int) (x : Co) : Bool := (List.range want.length).all fun k => decide (want.getD k 0 < 0 ∨ (c.of x).i k = want.getD k 0)
/-- The fewest pourings. -/
def Cn.IsFew (c : Cn) (p : Co → Bool) (w : Wy) : Prop := (∃ k, p k = true ∧ c.Best w k) ∧ ∀ k v, p k = true → c.Best v k → v.lt w = false
open Classical in
noncomputable def Cn.few (c : Cn) (p : Co → Bool) : Option Wy := if h : ∃ w, c.IsFew p w then some h.choose else none
theorem Cn.IsFew.uniq {c : Cn} {p : Co → Bool} {w v : Wy} (h : c.IsFew p w) (h' : c.IsFew p v) : w = v := by
  obtain ⟨⟨k, h1, h2⟩, h3⟩ := h
  obtain ⟨⟨k', h1', h2'⟩, h3'⟩ := h'
  exact Wy.tot (h3' k w h1 h2) (h3 k' v h1' h2')
def fewL (o : Option Wy) : List Po := match o with | some w => w.l | none => []
def fewB (o : Option Wy) : Int := match o with | some w => w.back | none => 0
def fewE (o : Option Wy) : Int := match o with | some _ => 0 | none => 6
/-- A list of pourings in new memory. -/
def TwinP (l : List Po) (v : Value) (Hn : List Blk) : Prop := ∃ a k, v = .slice a l.length k ∧ ∀ (C : Ctx) (H : List Blk) (w : World), Hn.Sublist H → St C H w → Pos w a l.length k l
theorem TwinP.nil (Hn : List Blk) : TwinP [] (.slice none 0 0) Hn := ⟨none, 0, rfl, fun C H w _ _ => Rws.nil _ _ _⟩
def AimV (o : Option Wy) (v : Value) (Hn : List Blk) : Prop := ∃ v0, v = .tuple #[v0, .int .i64 (fewB o), .int .i64 (fewE o)] ∧ TwinP (fewL o) v0 Hn
/-- The reference's search, part way. -/
def FewK (p : Co → Bool) (xs : List (Co × Wy)) (k : Nat) (b : Bool) (i : Nat) : Prop :=
  if b then i < k ∧ (∃ z : Co × Wy, xs[i]? = some z ∧ p z.1 = true ∧ ∀ (j : Nat) (y : Co × Wy), j < k → xs[j]? = some y → p y.1 = true → y.2.lt z.2 = false)
  else ∀ (j : Nat) (y : Co × Wy), j < k → xs[j]? = some y → p y.1 = false
theorem FewK.zero (p : Co → Bool) (xs : List (Co × Wy)) : FewK p xs 0 false 0 := fun j y h => absurd h (Nat.not_lt_zero _)
theorem FewK.skip {p : Co → Bool} {xs : List (Co × Wy)} {k i : Nat} {b : Bool} {z : Co × Wy} (h : FewK p xs k b i) (hz : xs[k]? = some z) (hp : p z.1 = false) : FewK p xs (k + 1) b i := by
  unfold FewK at h ⊢
  cases b
  · intro j y hj hy
    by_cases he : j = k
    · subst he; rw [hz] at hy; cases hy; exact hp
    · exact h j y (by omega) hy
  · obtain ⟨h1, z', h2, h3, h4⟩ := h
    refine ⟨by omega, z', h2, h3, fun j y hj hy hpy => ?_⟩
    by_cases he : j = k
    · subst he; rw [hz] at hy; cases hy; rw [hp] at hpy; cases hpy
    · exact h4 j y (by omega) hy hpy
theorem FewK.fst {p : Co → Bool} {xs : List (Co × Wy)} {k i : Nat} {z : Co × Wy} (h : FewK p xs k false i) (hz : xs[k]? = some z) (hp : p z.1 = true) : FewK p xs (k + 1) true k := by
  refine ⟨Nat.lt_succ_self _, z, hz, hp, fun j y hj hy hpy => ?_⟩
  by_cases he : j = k
  · subst he; rw [hz] at hy; cases hy; exact Wy.lt_irrefl _
  · have := h j y (by omega) hy
    rw [hpy] at this; cases this
theorem FewK.take {p : Co → Bool} {xs : List (Co × Wy)} {k i : Nat} {z u : Co × Wy} (h : FewK p xs k true i) (hi : xs[i]? = some u) (hz : xs[k]? = some z) (hp : p z.1 = true) (hl : z.2.lt u.2 = true) : FewK p xs (k + 1) true k := by
  obtain ⟨h1, z', h2, h3, h4⟩ := h
  rw [hi] at h2
  cases h2
  refine ⟨Nat.lt_succ_self _, z, hz, hp, fun j y hj hy hpy => ?_⟩
  by_cases he : j = k
  · subst he; rw [hz] at hy; cases hy; exact Wy.lt_irrefl _
  · cases hlt : y.2.lt z.2 with
    | false => rfl
    | true => have := h4 j y (by omega) hy hpy; rw [Wy.lt_trans hlt hl] at this; exact this
theorem FewK.keep {p : Co → Bool} {xs : List (Co × Wy)} {k i : Nat} {z u : Co × Wy} (h : FewK p xs k true i) (hi : xs[i]? = some u) (hz : xs[k]? = some z) (hl : z.2.lt u.2 = false) : FewK p xs (k + 1) true i := by
  obtain ⟨h1, z', h2, h3, h4⟩ := h
  rw [hi] at h2
  cases h2
  refine ⟨by omega, u, hi, h3, fun j y hj hy hpy => ?_⟩
  by_cases he : j = k
  · subst he; rw [hz] at hy; cases hy; exact hl
  · exact h4 j y (by omega) hy hpy
/-- The reference's comparison of two ways. -/
def wbetB (a b : Wy) : Bool := decide (a.back < b.back) || (decide (a.back = b.back) && plt a.l b.l)
theorem Cn.Rcd.mono {c : Cn} {xs : List (Co × Wy)} (hR : c.Rcd xs) {i k : Nat} {a b : Co × Wy} (hik : i < k) (hi : xs[i]? = some a) (hk : xs[k]? = some b) : a.2.l.length ≤ b.2.l.length := by
  obtain ⟨h1, e1⟩ := List.getElem?_eq_some_iff.1 hi
  obtain ⟨h2, e2⟩ := List.getElem?_eq_some_iff.1 hk
  have := List.pairwise_iff_getElem.1 hR.srt i k h1 h2 hik
  rw [e1, e2] at this
  exact this
def sumL : List Int → Int
  | [] => 0
  | x :: l => x + sumL l
def sumTo (xs : List Int) (k : Nat) : Int := sumL (xs.take k)
theorem sumL_app (l m : List Int) : sumL (l ++ m) = sumL l + sumL m := by
  induction l with
  | nil => simp [sumL]
  | cons x l ih => simp only [List.cons_append, sumL, ih]; omega
theorem sumTo_succ {xs : List Int} {k : Nat} (h : k < xs.length) : sumTo xs (k + 1) = sumTo xs k + xs.getD k 0 := by
  unfold sumTo
  rw [List.take_add_one, sumL_app]
  simp [h, sumL, List.getD_eq_getElem?_getD]
end Go.Proofs.YtjekjehgmljbgaaDoor.T

/- The reference's numbers of contents, and its comparisons of ways, walked. -/
namespace Go.Proofs.YtjekjehgmljbgaaDoor.T
open Go.RowKit Go.Proofs Go.Eng
set_option maxRecDepth 100000
set_option maxHeartbeats 1000000
set_option linter.unusedVariables false
set_option linter.unusedSimpArgs false

/-- The number so far. -/
def kyT (xs : List Int) (k : Nat) : Int := kyL 0 (xs.take k)
def pcmp : List Po → List Po → Nat → Prop := fun l m k => plt (l.drop k) (m.drop k) = plt l m
end Go.Proofs.YtjekjehgmljbgaaDoor.T

/- What the reference has reached, and where it lies. -/
namespace Go.Proofs.YtjekjehgmljbgaaDoor.T
open Go.RowKit Go.Proofs Go.Eng
set_option maxRecDepth 100000
set_option maxHeartbeats 1000000
set_option linter.unusedVariables false
set_option linter.unusedSimpArgs false



/-- A content that is reached, its way, and where all lies. -/
structure Rl where
  x : Co
  w : Wy
  s : Option Addr
  ks : Nat
  i : Option Addr
  ki : Nat
  l : Option Addr
  kl : Nat
def Rl.z : Rl := ⟨Co.z, ⟨[], 0⟩, none, 0, none, 0, none, 0⟩
def Rl.cells (c : Cn) (r : Rl) : List Value := [.slice r.s c.n r.ks, .slice r.i (c.of r.x).inn.length r.ki, .int .i64 r.x.a, .slice r.l r.w.l.length r.kl, .int .i64 r.w.back]
theorem rl_len (c : Cn) : ∀ r, (Rl.cells c r).length = 5 := fun _ => rfl
def Rl.zz (r : Rl) : Co × Wy := (r.x, r.w)
structure Rl.RdH (c : Cn) (HH : List Blk) (r : Rl) : Prop where
  s : ∀ (C : Ctx) (H : List Blk) (w : World), HH.Sublist H → St C H w → Ints w r.s c.n r.ks c.sz
  i : ∀ (C : Ctx) (H : List Blk) (w : World), HH.Sublist H → St C H w → Ints w r.i (c.of r.x).inn.length r.ki (c.of r.x).inn
  p : ∀ (C : Ctx) (H : List Blk) (w : World), HH.Sublist H → St C H w → Pos w r.l r.w.l.length r.kl r.w.l
theorem Rl.RdH.mono {c : Cn} {HH HH' : List Blk} {r : Rl} (h : r.RdH c HH) (hs : HH.Sublist HH') : r.RdH c HH' :=
  ⟨fun C H w h2 hw => h.s C H w (hs.trans h2) hw, fun C H w h2 hw => h.i C H w (hs.trans h2) hw, fun C H w h2 hw => h.p C H w (hs.trans h2) hw⟩
theorem Rl.RdH.new {c : Cn} {HH H1 H2 H3 : List Blk} {r : Rl} (h1 : NewRow 3 1 c.n (iv c.sz) (.slice r.s c.n r.ks) H1) (h2 : NewRow 3 1 (c.of r.x).inn.length (iv (c.of r.x).inn) (.slice r.i (c.of r.x).inn.length r.ki) H2)
    (h3 : NewRow 26 2 r.w.l.length (rowOf Po.cells (fun k => r.w.l.getD k Po.z) r.w.l.length) (.slice r.l r.w.l.length r.kl) H3) (s1 : H1.Sublist HH) (s2 : H2.Sublist HH) (s3 : H3.Sublist HH) : r.RdH c HH :=
  ⟨fun C H w h hw => NewRow.ints h1 rfl (s1.trans h) w hw, fun C H w h hw => NewRow.ints h2 rfl (s2.trans h) w hw, fun C H w h hw => NewRow.rws po_len h3 rfl (s3.trans h) w hw⟩
def rRow (c : Cn) (rs : List Rl) : List Value := rowOf (Rl.cells c) (fun k => rs.getD k Rl.z) rs.length
theorem rRow_len (c : Cn) (rs : List Rl) : (rRow c rs).length = rs.length * 5 := rowOf_len (rl_len c) _ _
/-- Where the walk of the reference stands. -/
structure RcG where
  k : Nat
  P : Co → Wy → Prop
  look : Co → Option Wy
  rs : List Rl
  ks : List Int
  bo : Nat
  cap : Nat
  junk : List Value
  HX : List Blk
structure RcS (c : Cn) (n fr en i : Nat) (q : RcG) : Prop where
  rc : c.RcI n fr en q.P q.look (q.rs.map Rl.zz) q.ks
  rd : ∀ r ∈ q.rs, r.RdH c q.HX
  len : (rRow c q.rs ++ q.junk).length = q.cap * 5
  cap : q.rs.length ≤ q.cap
  dn : ∀ (j : Nat) (z : Co × Wy), fr ≤ j → j < i → (q.rs.map Rl.zz)[j]? = some z → c.Dn n q.P z.1 z.2 (c.ps z.1).length
structure RcR (c : Cn) (n fr en i : Nat) (r : Rl) (J : Nat) (q : RcG) : Prop where
  s : RcS c n fr en i q
  e : q.rs[i]? = some r
  fi : fr ≤ i
  ie : i < en
  d : c.Dn n q.P r.x r.w (c.psJ r.x J).length
theorem zz_at {rs : List Rl} {i : Nat} {r : Rl} (h : rs[i]? = some r) : (rs.map Rl.zz)[i]? = some (r.x, r.w) := by rw [List.getElem?_map, h]; rfl
theorem zz_of {rs : List Rl} {i : Nat} {z : Co × Wy} (h : (rs.map Rl.zz)[i]? = some z) : ∃ r, rs[i]? = some r ∧ r.x = z.1 ∧ r.w = z.2 := by
  rw [List.getElem?_map] at h
  obtain ⟨r, h1, rfl⟩ := Option.map_eq_some_iff.1 h
  exact ⟨r, h1, rfl, rfl⟩
theorem RcS.bd {c : Cn} (hok : c.Ok) {n fr en i : Nat} {q : RcG} (h : RcS c n fr en i q) : q.rs.length ≤ 9261 := by
  have := h.rc.tb.bd hok
  rwa [List.length_map] at this
theorem RcS.ent {c : Cn} {n fr en i : Nat} {q : RcG} (h : RcS c n fr en i q) (hi : i < en) (hf : fr ≤ i) : ∃ r, q.rs[i]? = some r ∧ RcR c n fr en i r 0 q := by
  have he := h.rc.enl
  rw [List.length_map] at he
  exact ⟨_, List.getElem?_eq_getElem (by omega), h, List.getElem?_eq_getElem (by omega), hf, hi, fun j hj => absurd hj (by simp [Cn.psJ])⟩
theorem RcR.lv {c : Cn} {n fr en i J : Nat} {r : Rl} {q : RcG} (h : RcR c n fr en i r J q) : c.Lv n r.w r.x := by
  obtain ⟨h1, _, h3⟩ := h.s.rc.best i _ h.ie (zz_at h.e)
  exact ⟨h1, h3 h.fi⟩
theorem RcR.fin {c : Cn} {n fr en i : Nat} {r : Rl} {q : RcG} (h : RcR c n fr en i r ((c.n + 1) * (c.n + 1)) q) (k : Nat) : RcS c n fr en (i + 1) { q with k := k } := by
  refine ⟨h.s.rc, h.s.rd, h.s.len, h.s.cap, fun j z h1 h2 h3 => ?_⟩
  by_cases hj : j = i
  · subst hj
    have := zz_at h.e
    change (List.map Rl.zz q.rs)[j]? = some z at h3
    rw [this] at h3
    cases h3
    exact h.d
  · exact h.s.dn j z h1 (by omega) h3
theorem RcR.skip {c : Cn} {n fr en i J : Nat} {r : Rl} {q : RcG} (h : RcR c n fr en i r J q) (k : Nat) (hp : ¬ c.pE r.x (pA c.n J) = 0) : RcR c n fr en i r (J + 1) { q with k := k } :=
  ⟨⟨h.s.rc, h.s.rd, h.s.len, h.s.cap, h.s.dn⟩, h.e, h.fi, h.ie, by rw [Cn.psJ_no hp]; exact h.d⟩
theorem RcR.nxt {c : Cn} {n fr en i J : Nat} {r : Rl} {q : RcG} (h : RcR c n fr en i r J q) (hJ : J < (c.n + 1) * (c.n + 1)) (hp : c.pE r.x (pA c.n J) = 0) (q' : RcG) (hP : q'.P = addP q.P (c.stp r.x (pA c.n J)) (c.nx r.w r.x (pA c.n J)))
    (hrc : c.RcI n fr en q'.P q'.look (q'.rs.map Rl.zz) q'.ks) (hrd : ∀ r ∈ q'.rs, r.RdH c q'.HX) (hlen : (rRow c q'.rs ++ q'.junk).length = q'.cap * 5) (hcap : q'.rs.length ≤ q'.cap) (hsame : ∀ j, j < en → q'.rs[j]? = q.rs[j]?) : RcR c n fr en i r (J + 1) q' := by
  obtain ⟨_, h2⟩ := Cn.ps_at hJ hp
  have hm : ∀ y v, q.P y v → q'.P y v := fun y v h => by rw [hP]; exact .inl h
  refine ⟨⟨hrc, hrd, hlen, hcap, fun j z h1 h2 h3 => ?_⟩, by rw [hsame i h.ie]; exact h.e, h.fi, h.ie, ?_⟩
  · rw [List.getElem?_map, hsame j (by have := h.ie; omega), ← List.getElem?_map] at h3
    have := h.s.dn j z h1 h2 h3
    exact fun t ht hn => hm _ _ (this t ht hn)
  · rw [Cn.psJ_yes hp, List.length_append, List.length_singleton]
    exact h.d.step hm fun hn => by rw [hP, h2]; exact .inr ⟨rfl, rfl⟩
theorem RcR.push {c : Cn} (hok : c.Ok) {n fr en i J : Nat} {r y : Rl} {q : RcG} (h : RcR c n fr en i r J q) {p : Po} (hpA : pA c.n J = p) (hJ : J < (c.n + 1) * (c.n + 1)) (hp : c.pE r.x (p) = 0) (hk : q.ks.getD (c.ky (c.stp r.x (p))).toNat 0 = 0)
    (hyx : y.x = c.stp r.x (p)) (hyw : y.w = c.nx r.w r.x (p)) {HX : List Blk} (hs : q.HX.Sublist HX) (hy : y.RdH c HX) (k bo : Nat) {cap : Nat} {junk : List Value} (hlen : (rRow c (q.rs ++ [y]) ++ junk).length = cap * 5) (hcap : q.rs.length + 1 ≤ cap) :
    RcR c n fr en i r (J + 1) ⟨k, addP q.P (c.stp r.x (p)) (c.nx r.w r.x (p)), addL q.look (c.stp r.x (p)) (c.nx r.w r.x (p)), q.rs ++ [y], q.ks.set (c.ky (c.stp r.x (p))).toNat ((q.rs.length : Int) + 1), bo, cap, junk, HX⟩ := by
  subst hpA
  refine h.nxt hJ hp _ rfl ?_ (fun z hz => ?_) hlen (by simpa using hcap) fun j hj => ?_
  · have := h.s.rc.push hok h.lv hp hk
    rw [List.length_map] at this
    simp only [List.map_append, List.map_cons, List.map_nil]
    rw [show y.zz = (c.stp r.x (pA c.n J), c.nx r.w r.x (pA c.n J)) by unfold Rl.zz; rw [hyx, hyw]]
    exact this
  · rcases List.mem_append.1 hz with hz | hz
    · exact (h.s.rd z hz).mono hs
    · simp only [List.mem_singleton] at hz; subst hz; exact hy
  · have he := h.s.rc.enl
    rw [List.length_map] at he
    exact List.getElem?_append_left (by omega)
theorem set_same {α : Type} {l : List α} {j : Nat} {a : α} (h : l[j]? = some a) : l.set j a = l := by
  obtain ⟨hj, rfl⟩ := List.getElem?_eq_some_iff.1 h
  exact List.set_getElem_self hj
theorem RcR.keep {c : Cn} {n fr en i J j : Nat} {r : Rl} {u : Wy} {q : RcG} (h : RcR c n fr en i r J q) {p : Po} (hpA : pA c.n J = p) (hJ : J < (c.n + 1) * (c.n + 1)) (hp : c.pE r.x (p) = 0) (hj : (q.rs.map Rl.zz)[j]? = some (c.stp r.x (p), u)) (hje : en ≤ j) (hl : q.look (c.stp r.x (p)) = some u) (hkn : ¬ c.Kn n (c.stp r.x (p)))
    (hlt : (c.nx r.w r.x (p)).lt u = false) (k : Nat) :
    RcR c n fr en i r (J + 1) ⟨k, addP q.P (c.stp r.x (p)) (c.nx r.w r.x (p)), addL q.look (c.stp r.x (p)) (c.nx r.w r.x (p)), q.rs, q.ks, q.bo, q.cap, q.junk, q.HX⟩ := by
  subst hpA
  refine h.nxt hJ hp _ rfl ?_ h.s.rd h.s.len h.s.cap fun _ _ => rfl
  have := h.s.rc.upd h.lv hp hj hje hl hkn
  rw [show pickW (some u) (c.nx r.w r.x (pA c.n J)) = u by unfold pickW; simp [hlt], set_same hj] at this
  exact this
theorem RcR.upd {c : Cn} {n fr en i J j : Nat} {r y : Rl} {u : Wy} {q : RcG} (h : RcR c n fr en i r J q) {p : Po} (hpA : pA c.n J = p) (hJ : J < (c.n + 1) * (c.n + 1)) (hp : c.pE r.x (p) = 0) (hj : (q.rs.map Rl.zz)[j]? = some (c.stp r.x (p), u)) (hje : en ≤ j) (hl : q.look (c.stp r.x (p)) = some u) (hkn : ¬ c.Kn n (c.stp r.x (p)))
    (hlt : (c.nx r.w r.x (p)).lt u = true) (hyx : y.x = c.stp r.x (p)) (hyw : y.w = c.nx r.w r.x (p)) {HX : List Blk} (hs : q.HX.Sublist HX) (hy : y.RdH c HX) (k : Nat) :
    RcR c n fr en i r (J + 1) ⟨k, addP q.P (c.stp r.x (p)) (c.nx r.w r.x (p)), addL q.look (c.stp r.x (p)) (c.nx r.w r.x (p)), q.rs.set j y, q.ks, q.bo, q.cap, q.junk, HX⟩ := by
  subst hpA
  refine h.nxt hJ hp _ rfl ?_ (fun z hz => ?_) ?_ (by rw [List.length_set]; exact h.s.cap) fun t ht => ?_
  · have := h.s.rc.upd h.lv hp hj hje hl hkn
    rw [show pickW (some u) (c.nx r.w r.x (pA c.n J)) = c.nx r.w r.x (pA c.n J) by unfold pickW; simp [hlt]] at this
    simp only [List.map_set]
    rw [show y.zz = (c.stp r.x (pA c.n J), c.nx r.w r.x (pA c.n J)) by unfold Rl.zz; rw [hyx, hyw]]
    exact this
  · rcases List.mem_or_eq_of_mem_set hz with hz | rfl
    · exact (h.s.rd z hz).mono hs
    · exact hy
  · have := h.s.len
    rw [List.length_append, rRow_len] at this ⊢
    rw [List.length_set]; exact this
  · exact List.getElem?_set_ne (by omega)
end Go.Proofs.YtjekjehgmljbgaaDoor.T

/- What the reference has reached: its walk. -/
namespace Go.Proofs.YtjekjehgmljbgaaDoor.T
open Go.RowKit Go.Proofs Go.Eng
set_option maxRecDepth 100000
set_option maxHeartbeats 1000000
set_option linter.unusedVariables false
set_option linter.unusedSimpArgs false

/-- All that is reached, in memory. -/
def RchV (c : Cn) (v : Value) (Hn : List Blk) : Prop := ∃ rs bo cap junk HX, v = .slice (some ⟨bo, 0, none⟩) rs.length cap ∧ Hn = (bo, CB (rRow c rs ++ junk) 128) :: HX ∧ c.Rcd (rs.map Rl.zz) ∧ (∀ r ∈ rs, r.RdH c HX) ∧ rs.length ≤ cap
def Cn.key (c : Cn) (y : Co) : Nat := (c.ky y).toNat
end Go.Proofs.YtjekjehgmljbgaaDoor.T

/- Aims, and the fewest pourings for them: the program's walks. -/
namespace Go.Proofs.YtjekjehgmljbgaaDoor.T
open Go.RowKit Go.Proofs Go.Eng
set_option maxRecDepth 100000
set_option maxHeartbeats 1000000
set_option linter.unusedVariables false
set_option linter.unusedSimpArgs false



/-- A function value that tells of contents, in some world and all later ones. -/
structure AimW (P : Program) (w : World) (fid : FuncId) (first caps : List Value) (Q : Co → Prop) (p : Co → Bool) : Prop where
  enter : ∀ args w, (callFunc fid args).run P w = .ok (.enter fid args) w
  call : ∀ x, Q x → ∀ w', Below w.heap.size w w' → Ct P fid (first ++ (Value.agg x.cells.toArray :: caps)).toArray w' fun v _ => v = .bool (p x)
theorem AimW.st {C : Ctx} {H : List Blk} {fid : FuncId} {first caps : List Value} {Q : Co → Prop} {p : Co → Bool} (h : AimW C.P C.w0 fid first caps Q p) (w : World) (hw : St C H w) : AimW C.P w fid first caps Q p :=
  ⟨h.enter, fun x hx w' hb => h.call x hx w' (hw.1.trans (hb.mono hw.1.size))⟩
def idxF (x : Int) : List Int → Nat → Int
  | [], _ => -1
  | y :: l, k => if x = y then (k : Int) else idxF x l (k + 1)
/-- What is answered, by the error of what is asked. -/
def AskA (e : Int) (o : Option Wy) (v : Value) (Hn : List Blk) : Prop := ∃ v0, v = .tuple #[v0, .int .i64 (if e = 0 then fewB o else 0), .int .i64 (if e = 0 then fewE o else e)] ∧ TwinP (if e = 0 then fewL o else []) v0 Hn
theorem AskA.err {e e' : Int} {o : Option Wy} {Hn : List Blk} (h : e = e') (h0 : e' ≠ 0) : AskA e o (.tuple #[.slice none 0 0, .int .i64 0, .int .i64 e']) Hn := by
  subst h
  refine ⟨_, by rw [if_neg h0, if_neg h0], ?_⟩
  rw [if_neg h0]
  exact TwinP.nil _
theorem AskA.ok {e : Int} {o : Option Wy} {v0 : Value} {Hn : List Blk} (h : e = 0) (hT : TwinP (fewL o) v0 Hn) : AskA e o (.tuple #[v0, .int .i64 (fewB o), .int .i64 (fewE o)]) Hn := by
  subst h
  exact ⟨_, rfl, hT⟩
def Cn.lsE (c : Cn) (n : Int) : Int := if c.okB then if inB 0 20 [n] then 0 else 2 else 80
def Cn.ttE (c : Cn) (n : Int) : Int := if c.okB then if inB 0 (sumL c.sz) [n] then 0 else 2 else 80
def Cn.wantB (c : Cn) (want : List Int) : Bool := decide (want.length = c.n) && (List.range want.length).all fun k => inB (-1) (c.s k) [want.getD k 0]
def Cn.boE (c : Cn) (want : List Int) : Int := if c.okB then if c.wantB want then 0 else 2 else 80
end Go.Proofs.YtjekjehgmljbgaaDoor.T

/- The fewest pourings for all cans together, and for each one: the program's walks. -/
namespace Go.Proofs.YtjekjehgmljbgaaDoor.T
open Go.RowKit Go.Proofs Go.Eng
set_option maxRecDepth 100000
set_option maxHeartbeats 1000000
set_option linter.unusedVariables false
set_option linter.unusedSimpArgs false



theorem sumTo_bd {xs : List Int} (h : ∀ k, k < xs.length → 0 ≤ xs.getD k 0 ∧ xs.getD k 0 ≤ 600) : ∀ k, k ≤ xs.length → 0 ≤ sumTo xs k ∧ sumTo xs k ≤ 600 * (k : Int)
  | 0, _ => by unfold sumTo; simp [sumL]
  | k + 1, hk => by
    have ih := sumTo_bd h k (by omega)
    have hx := h k (by omega)
    rw [sumTo_succ (by omega)]
    omega
theorem sumTo_all (xs : List Int) : sumTo xs xs.length = sumL xs := by unfold sumTo; rw [List.take_length]
end Go.Proofs.YtjekjehgmljbgaaDoor.T

/- What is wanted, and the fewest pourings for it: the reference's walks. -/
namespace Go.Proofs.YtjekjehgmljbgaaDoor.T
open Go.RowKit Go.Proofs Go.Eng
set_option maxRecDepth 100000
set_option maxHeartbeats 1000000
set_option linter.unusedVariables false
set_option linter.unusedSimpArgs false

structure Am where
  some : Int
  total : Int
  each : List Int
def Am.p (c : Cn) (a : Am) (x : Co) : Bool := if 0 ≤ a.total then totP a.total x else if 0 ≤ a.some then c.someP a.some x else c.bothP a.each x
def sumA (s : Int) (xs : List Int) : Nat → Int
  | 0 => s
  | k + 1 => sumA s xs k + xs.getD k 0
theorem sumA_eq (s : Int) (xs : List Int) : ∀ k, k ≤ xs.length → sumA s xs k = s + sumTo xs k
  | 0, _ => by show s = s + sumTo xs 0; rw [show sumTo xs 0 = 0 from rfl, Int.add_zero]
  | k + 1, h => by
    rw [sumTo_succ (by omega)]
    unfold sumA
    rw [sumA_eq s xs k (by omega)]
    omega
theorem rcsum_any (c : Cn) (a1 : Option Addr) (p1 : Nat) (a2 : Option Addr) (p2 : Nat) (w : World) (hl : c.inn.length ≤ 1000) (hs : 0 ≤ c.st ∧ c.st ≤ 600) (hbd : ∀ k, k < c.inn.length → 0 ≤ c.inn.getD k 0 ∧ c.inn.getD k 0 ≤ 600) (h2 : Ints w a2 c.inn.length p2 c.inn) : Ct Tryd.prog 90 #[.agg #[.slice a1 c.n p1, .slice a2 c.inn.length p2, .int .i64 c.st]] w fun v _ => v = .int .i64 (c.st + sumL c.inn) := by
  have hF := wide_wide
  refine Ct_start (args := [_]) Tryd.func90 (by rfl) Tryd.ntmps90 (by rfl) ?_
  refine W_seq ?_
  refine W_region_lit (fun ds => ?_)
  refine WS_new hF (by rfl) (y_box (by rfl)) (fun b1 => ?_)
  refine WS_det hF (by rfl) (y_assign (c := .int .i64 _) (by rfl)) ?_
  refine WS_nil ?_
  refine Then_normal ?_
  refine W_seq ?_
  refine W_region_lit (fun ds => ?_)
  refine WS_det hF (by rfl) (y_fieldAddr (by rfl) fa24_2) ?_
  refine WS_det hF (by rfl) (y_load1 (by rfl) Tryd.isAgg3 (Mem.own1 0 (by rfl) (by rfl))) ?_
  refine WS_det hF (by rfl) (y_assign (c := .int .i64 _) (by rfl)) ?_
  refine WS_nil ?_
  refine Then_normal ?_
  refine W_seq ?_
  refine W_seq ?_
  refine W_region_lit (fun ds => ?_)
  refine WS_det hF (by rfl) (y_fieldAddr (by rfl) fa24_1) ?_
  refine WS_det hF (by rfl) (y_load1 (by rfl) Tryd.isAgg22 (Mem.own1 0 (by rfl) (by rfl))) ?_
  refine WS_det hF (by rfl) (y_len (by rfl) Tryd.runUnderlying22) ?_
  refine WS_det hF (by rfl) (y_move (c := .int .i64 _) (by rfl)) ?_
  refine WS_nil ?_
  refine Then_normal ?_
  refine W_block ?_
  refine W_loop (γ := Nat) (fun k => k ≤ c.inn.length) (fun k => [(3, .int .i64 (sumA c.st c.inn k)), (9, .slice a2 c.inn.length p2), (10, .int .i64 (c.inn.length : Int)), (11, .int .i64 (k : Int))]) (fun _ => _) (fun k => c.inn.length - k) (0) (Nat.zero_le _) (by repeat (first | exact trivial | refine ⟨by rfl, ?_⟩)) (List.Sublist.refl _) ?_
  intro k e hk
  refine W_seq ?_
  refine W_region_lit (fun ds => ?_)
  refine WS_det hF (by rfl) (y_lss (by rfl) (by rfl)) ?_
  refine WS_nil ?_
  refine Then_normal ?_
  refine W_seq ?_
  refine W_cond (by rfl) (fun c3 => ?_) (fun c3 => ?_)
  ·
    try simp only [Bool.not_eq_true', Bool.not_eq_false', decide_eq_true_eq, decide_eq_false_iff_not, ne_eq, Classical.not_not, Int.not_lt, Int.not_le] at c3
    obtain ⟨b, o, rfl, hc⟩ := h2.cell k (by omega)
    have hb := sumTo_bd hbd k hk
    have hx' := hbd k (by omega)
    have hse := sumA_eq c.st c.inn k hk
    refine W_skip ?_
    refine Then_normal ?_
    refine W_seq ?_
    refine W_block ?_
    refine W_seq ?_
    refine W_region_lit (fun ds => ?_)
    refine WS_det hF (by rfl) (y_index (k := k) (by rfl) (by rfl) (by first | rfl | omega) (by first | decide | omega) Tryd.runUnderlying22 Tryd.sizeOf3) ?_
    refine WS_det hF (by rfl) (y_load1 (by rfl) Tryd.isAgg3 (by first | exact Mem.old1 (by assumption) | exact Mem.oldAt1 (by assumption) (by rfl) | exact Mem.old (by assumption) | exact Mem.oldAtL1 (by assumption) (by rfl) (by rfl))) ?_
    refine WS_det hF (by rfl) (y_assign (c := .int .i64 _) (by rfl)) ?_
    refine WS_nil ?_
    refine Then_normal ?_
    refine W_region_lit (fun ds => ?_)
    refine WS_det hF (by rfl) (y_move (c := .int .i64 _) (by rfl)) ?_
    refine WS_det hF (by rfl) (y_move (c := .int .i64 _) (by rfl)) ?_
    refine WS_det hF (by rfl) (y_add (by rfl) (by rfl) (by unfold I64; omega)) ?_
    refine WS_det hF (by rfl) (y_assign (c := .int .i64 _) (by rfl)) ?_
    refine WS_nil ?_
    refine InB_normal ?_
    refine Then_normal ?_
    refine W_region_lit (fun ds => ?_)
    refine WS_det hF (by rfl) (y_add (by rfl) (by rfl) (by unfold I64; omega)) ?_
    refine WS_det hF (by rfl) (y_move (c := .int .i64 _) (by rfl)) ?_
    refine WS_nil ?_
    exact Loop_next (k + 1) (by omega) (by repeat (first | exact trivial | refine ⟨by rfl, ?_⟩)) (by repeat (first | exact List.Sublist.refl _ | exact List.nil_sublist _ | apply List.Sublist.cons_cons | apply List.Sublist.cons)) (by omega)
  ·
    try simp only [Bool.not_eq_true', Bool.not_eq_false', decide_eq_true_eq, decide_eq_false_iff_not, ne_eq, Classical.not_not, Int.not_lt, Int.not_le] at c3
    refine W_exit ?_
    refine Then_exit ?_
    refine Loop_exit ?_
    refine InB_same ?_
    refine Then_normal ?_
    refine W_seq ?_
    refine W_region_lit (fun ds => ?_)
    refine WS_det hF (by rfl) (y_move (c := .int .i64 _) (by rfl)) ?_
    refine WS_det hF (by rfl) (y_assign (c := .int .i64 _) (by rfl)) ?_
    refine WS_nil ?_
    refine Then_normal ?_
    refine W_ret ?_
    refine Fin_ret [.int .i64 _] [] Tryd.results90 ⟨by rfl, trivial⟩ HSub.nil ?_
    have : k = c.inn.length := by omega
    subst this
    rw [← sumTo_all, ← sumA_eq c.st c.inn _ (Nat.le_refl _)]
    rfl
theorem Cn.Ok.inn_bd {c : Cn} (h : c.Ok) : c.inn.length ≤ 1000 ∧ ∀ k, k < c.inn.length → 0 ≤ c.inn.getD k 0 ∧ c.inn.getD k 0 ≤ 600 := by
  have h3 := h.n3
  have hl := h.len
  refine ⟨by omega, fun k hk => ?_⟩
  have h1 := h.i k (by omega)
  have h2 := h.s k (by omega)
  unfold Cn.i at h1
  omega
end Go.Proofs.YtjekjehgmljbgaaDoor.T

/- The fewest pourings, as the reference finds them: its walks. -/
namespace Go.Proofs.YtjekjehgmljbgaaDoor.T
open Go.RowKit Go.Proofs Go.Eng
set_option maxRecDepth 100000
set_option maxHeartbeats 1000000
set_option linter.unusedVariables false
set_option linter.unusedSimpArgs false

/-- A way of the reference, part by part. -/
structure Rv where
  s : Option Addr
  sn : Nat
  sk : Nat
  i : Option Addr
  im : Nat
  ik : Nat
  st : Int
  l : Option Addr
  ln : Nat
  lk : Nat
  back : Int
def Rv.cells (v : Rv) : List Value := [.slice v.s v.sn v.sk, .slice v.i v.im v.ik, .int .i64 v.st, .slice v.l v.ln v.lk, .int .i64 v.back]
def Rv.z : Rv := ⟨none, 0, 0, none, 0, 0, 0, none, 0, 0, 0⟩
def Rl.rv (c : Cn) (r : Rl) : Rv := ⟨r.s, c.n, r.ks, r.i, (c.of r.x).inn.length, r.ki, r.x.a, r.l, r.w.l.length, r.kl, r.w.back⟩
structure Rl.Rd (c : Cn) (w : World) (r : Rl) : Prop where
  i : Ints w r.i (c.of r.x).inn.length r.ki (c.of r.x).inn
  p : Pos w r.l r.w.l.length r.kl r.w.l
theorem Rl.Rd.st {c : Cn} {C : Ctx} {H : List Blk} {r : Rl} (h : r.Rd c C.w0) (w : World) (hw : St C H w) : r.Rd c w := ⟨h.i.st w hw, h.p.st w hw⟩
/-- What the reference's search returns. -/
def FewR (c : Cn) (p : Co → Bool) (rs : List Rl) (v : Value) : Prop := ∃ (b : Bool) (q : Rv), v = .tuple #[.agg q.cells.toArray, .bool b] ∧ (b = true → ∃ r ∈ rs, q = r.rv c ∧ c.few p = some r.w) ∧ (b = false → c.few p = none)
end Go.Proofs.YtjekjehgmljbgaaDoor.T

/- Lists in order, without those that follow an equal one; the amounts that can be made; pure. -/
namespace Go.Proofs.YtjekjehgmljbgaaDoor.T
open Go.RowKit Go.Proofs Go.Eng
set_option linter.unusedVariables false

theorem sl_ext : ∀ {l m : List Int}, l.Pairwise (· < ·) → m.Pairwise (· < ·) → (∀ x, x ∈ l ↔ x ∈ m) → l = m
  | [], [], _, _, _ => rfl
  | [], y :: m, _, _, h => by have := (h y).2 List.mem_cons_self; cases this
  | x :: l, [], _, _, h => by have := (h x).1 List.mem_cons_self; cases this
  | x :: l, y :: m, h1, h2, h => by
    rw [List.pairwise_cons] at h1 h2
    have hxy : x = y := by
      rcases List.mem_cons.1 ((h x).1 List.mem_cons_self) with e | e
      · exact e
      · rcases List.mem_cons.1 ((h y).2 List.mem_cons_self) with e' | e'
        · exact e'.symm
        · have := h2.1 x e; have := h1.1 y e'; omega
    subst hxy
    rw [sl_ext h1.2 h2.2 fun z => ?_]
    have hz := h z
    simp only [List.mem_cons] at hz
    constructor
    · intro hm
      rcases hz.1 (.inr hm) with e | e
      · subst e; have := h1.1 _ hm; omega
      · exact e
    · intro hm
      rcases hz.2 (.inr hm) with e | e
      · subst e; have := h2.1 _ hm; omega
      · exact e
def sortL (xs : List Int) : List Int := xs.mergeSort fun x y => decide (x ≤ y)
theorem sortL_mem {xs : List Int} {x : Int} : x ∈ sortL xs ↔ x ∈ xs := (List.mergeSort_perm xs _).mem_iff
theorem sortL_le (xs : List Int) : (sortL xs).Pairwise (· ≤ ·) := by
  have h := List.pairwise_mergeSort (le := fun x y : Int => decide (x ≤ y)) (fun a b c h1 h2 => by simp only [decide_eq_true_eq] at *; omega) (fun a b => by simp only [Bool.or_eq_true, decide_eq_true_eq]; omega) xs
  exact h.imp fun h => by simpa using h
theorem le_get {zs : List Int} (h : zs.Pairwise (· ≤ ·)) {i j : Nat} (hij : i ≤ j) (hj : j < zs.length) : zs.toArray[i]! ≤ zs.toArray[j]! := by
  have hi : i < zs.length := by omega
  simp only [hi, hj, getElem!_pos, List.size_toArray, List.getElem_toArray]
  by_cases he : i = j
  · subst he; exact Int.le_refl _
  · exact List.pairwise_iff_getElem.1 h i j hi hj (by omega)
theorem compact_lt {zs : List Int} (h : zs.Pairwise (· ≤ ·)) : (Lib.compact zs).Pairwise (· < ·) := by
  unfold Lib.compact Lib.compactUpTo
  rw [List.pairwise_map]
  refine (List.Pairwise.filter _ List.pairwise_lt_range).imp_of_mem fun {i j} hi hj hij => ?_
  obtain ⟨hir, hik⟩ := List.mem_filter.1 hi
  obtain ⟨hjr, hjk⟩ := List.mem_filter.1 hj
  rw [List.mem_range] at hir hjr
  unfold Lib.keeps at hjk
  rw [decide_eq_true_eq] at hjk
  have h1 := le_get h (i := i) (j := j - 1) (by omega) (by omega)
  have h2 := le_get h (i := j - 1) (j := j) (by omega) hjr
  rcases hjk with h0 | hne
  · omega
  · omega
theorem compact_mem {zs : List Int} {x : Int} : x ∈ Lib.compact zs ↔ x ∈ zs := by
  unfold Lib.compact Lib.compactUpTo
  constructor
  · intro h
    obtain ⟨j, hj, rfl⟩ := List.mem_map.1 h
    have hjr := List.mem_range.1 (List.mem_filter.1 hj).1
    simp only [hjr, getElem!_pos, List.size_toArray, List.getElem_toArray]
    exact List.getElem_mem _
  · intro h
    obtain ⟨j, hj, rfl⟩ := List.getElem_of_mem h
    have key : ∀ (n j : Nat), j ≤ n → ∀ (hj : j < zs.length), zs[j] ∈ ((List.range zs.length).filter (Lib.keeps zs.toArray)).map (zs.toArray[·]!) := by
      intro n
      induction n with
      | zero =>
        intro j hjn hj
        obtain rfl : j = 0 := by omega
        refine List.mem_map.2 ⟨0, List.mem_filter.2 ⟨List.mem_range.2 hj, by unfold Lib.keeps; simp⟩, by simp [hj]⟩
      | succ n ih =>
        intro j hjn hj
        by_cases h0 : j = 0
        · exact ih j (by omega) hj
        · by_cases he : zs.toArray[j]! = zs.toArray[j - 1]!
          · have h1 := ih (j - 1) (by omega) (by omega)
            have h2 : zs[j] = zs[j - 1] := by
              have hj1 : j - 1 < zs.length := by omega
              simpa [hj, hj1] using he
            rw [h2]; exact h1
          · exact List.mem_map.2 ⟨j, List.mem_filter.2 ⟨List.mem_range.2 hj, by unfold Lib.keeps; exact decide_eq_true (.inr he)⟩, by simp [hj]⟩
    exact key j j (Nat.le_refl _) hj
/-- The amounts that can be made. -/
def Cn.mkP (c : Cn) (n : Int) : Prop := ∃ w y, c.Best w y ∧ n ∈ (c.of y).inn
open Classical in
noncomputable def Cn.madeL (c : Cn) : List Int := ((List.range 21).map fun (k : Nat) => (k : Int)).filter fun n => decide (c.mkP n)
theorem Cn.mkP_bd {c : Cn} (hok : c.Ok) {n : Int} (h : c.mkP n) : 0 ≤ n ∧ n ≤ 20 := by
  obtain ⟨w, y, hb, hm⟩ := h
  have hin := (hb.way.in hok).1
  have hoky := hok.of hin
  obtain ⟨k, hk, rfl⟩ := List.getElem_of_mem hm
  have h1 := hoky.i k (by rw [← hoky.len]; exact hk)
  have h2 := hoky.s k (by rw [← hoky.len]; exact hk)
  unfold Cn.i at h1
  rw [List.getD_eq_getElem?_getD, List.getElem?_eq_getElem hk] at h1
  simp only [Option.getD_some] at h1
  omega
theorem Cn.madeL_lt (c : Cn) : c.madeL.Pairwise (· < ·) := by
  unfold Cn.madeL
  refine List.Pairwise.filter _ ?_
  rw [List.pairwise_map]
  exact List.pairwise_lt_range.imp fun h => by omega
theorem Cn.madeL_mem {c : Cn} (hok : c.Ok) {n : Int} : n ∈ c.madeL ↔ c.mkP n := by
  unfold Cn.madeL
  simp only [List.mem_filter, decide_eq_true_eq]
  constructor
  · exact fun h => h.2
  · intro h
    obtain ⟨h0, h1⟩ := Cn.mkP_bd hok h
    exact ⟨List.mem_map.2 ⟨n.toNat, List.mem_range.2 (by omega), by omega⟩, h⟩
/-- The amounts of the entries that were seen. -/
structure MdI (c : Cn) (l : List (EntK Co)) (seen : Array Nat) (L : List Int) : Prop where
  snd : ∀ n ∈ L, ∃ e ∈ l, n ∈ (c.of e.1).inn
  cmp : ∀ e ∈ l, e.2.2 ∈ seen → ∀ n ∈ (c.of e.1).inn, n ∈ L
  len : L.length + 3 * leftL l seen ≤ 3 * l.length
theorem MdI.nil (c : Cn) (l : List (EntK Co)) : MdI c l #[] [] := ⟨fun n h => (by cases h), fun e _ h => (by simp at h), (by rw [List.length_nil, Nat.zero_add]; exact Nat.mul_le_mul_left 3 (List.length_filter_le _ _))⟩
theorem MdI.step {c : Cn} (hok : c.Ok) {l : List (EntK Co)} {seen : Array Nat} {L : List Int} (h : MdI c l seen L) {k : Co} {v : Value} {bn : Nat} (hy : (k, v, bn) ∈ l) (hb : (l.map (·.2.2)).Nodup) (hns : bn ∉ seen) (hin : c.In k) : MdI c l (seen.push bn) (L ++ (c.of k).inn) := by
  have hlt := leftL_lt (l := l) (seen := seen) (y := (k, v, bn)) hy hns
  have h3 := hok.n3
  have hk := (hok.of hin).len
  refine ⟨fun n hn => ?_, fun e he hs n hn => ?_, ?_⟩
  · rcases List.mem_append.1 hn with hn | hn
    · exact h.snd n hn
    · exact ⟨_, hy, hn⟩
  · rcases Array.mem_push.1 hs with hs | hs
    · exact List.mem_append_left _ (h.cmp e he hs n hn)
    · have : ∀ {l : List (EntK Co)}, (l.map (·.2.2)).Nodup → e ∈ l → (k, v, bn) ∈ l → e = (k, v, bn) := by
        intro l
        induction l with
        | nil => intro _ h; cases h
        | cons z l ih =>
          intro hn a1 a2
          rw [List.map_cons, List.nodup_cons] at hn
          rcases List.mem_cons.1 a1 with e1 | e1
          · rcases List.mem_cons.1 a2 with e2 | e2
            · rw [e1, e2]
            · exact absurd (List.mem_map.2 ⟨_, e2, by rw [← e1]; exact hs.symm⟩) hn.1
          · rcases List.mem_cons.1 a2 with e2 | e2
            · exact absurd (List.mem_map.2 ⟨_, e1, by rw [← e2]; exact hs⟩) hn.1
            · exact ih hn.2 e1 e2
      have he := this hb he hy
      subst he
      exact List.mem_append_right _ hn
  · have h1 := h.len
    rw [List.length_append]
    change leftL l (seen.push bn) < leftL l seen at hlt
    have h4 : (c.of k).inn.length ≤ 3 := by rw [hk]; exact h3
    omega
theorem MdI.made {c : Cn} (hok : c.Ok) {l : List (EntK Co)} {ck : Nat} {HX : List Blk} {seen : Array Nat} {L : List Int} (h : MdI c l seen L) (hg : GoodM l ck) (hT : Tab HX l c.bestO) (hov : ∀ x ∈ l, x.2.2 ∈ seen) : Lib.compact (sortL L) = c.madeL := by
  refine sl_ext (compact_lt (sortL_le L)) c.madeL_lt fun n => ?_
  rw [compact_mem, sortL_mem, Cn.madeL_mem hok]
  constructor
  · intro hn
    obtain ⟨e, he, hne⟩ := h.snd n hn
    obtain ⟨x, _, h2, _⟩ := hT.mem hg he
    exact ⟨_, _, Cn.bestO_iff.1 h2, hne⟩
  · rintro ⟨w, y, hb, hm⟩
    obtain ⟨e, he, rfl⟩ := hT.has (Cn.bestO_iff.2 hb)
    exact h.cmp e he (hov e he) n hm
end Go.Proofs.YtjekjehgmljbgaaDoor.T

/- Comparing contents: exact worlds, by the library's own walk. -/
namespace Go.Proofs.YtjekjehgmljbgaaDoor.T
open Go.RowKit Go.Proofs Go.Eng Go.Lib
set_option maxRecDepth 100000
set_option linter.unusedVariables false
set_option linter.unusedSimpArgs false



theorem isNaN_w (x : Int) (w : World) : Calls Tryd.prog 105 #[.int .i64 x] w fun e w' => e = .returned (.bool false) ∧ w' = w := by
  go_enter Tryd.func105, Tryd.ntmps105
  go_wp2
  go_ret
  exact ⟨by simp, rfl⟩
set_option maxHeartbeats 1000000 in
theorem compare_w (x y : Int) (w : World) : Calls Tryd.prog 64 #[.int .i64 x, .int .i64 y] w fun e w' => e = .returned (.int .i64 (Lib.compareInt x y)) ∧ w' = w := by
  go_enter Tryd.func64, Tryd.ntmps64
  go_wp2_with (go_at_call 105; refine (isNaN_w _ _).mono ?_; rintro e w' ⟨rfl, hw⟩; rw [hw])
  all_goals (go_ret; refine ⟨?_, rfl⟩; unfold Lib.compareInt; (repeat' split) <;> first | rfl | (exfalso; omega))
def cmpF (f g : Nat → Int) : Nat → Nat → Int
  | _, 0 => 0
  | k, m + 1 => if Lib.compareInt (f k) (g k) = 0 then cmpF f g (k + 1) m else Lib.compareInt (f k) (g k)
theorem cmpF_skip {f g : Nat → Int} : ∀ (k i m : Nat), (∀ j, i ≤ j → j < i + k → Lib.compareInt (f j) (g j) = 0) → cmpF f g i (k + m) = cmpF f g (i + k) m
  | 0, i, m, _ => by rw [Nat.zero_add, Nat.add_zero]
  | k + 1, i, m, h => by
    rw [show k + 1 + m = (k + m) + 1 by omega]
    simp only [cmpF]
    rw [if_pos (h i (Nat.le_refl _) (by omega)), cmpF_skip k (i + 1) m fun j h1 h2 => h j (by omega) (by omega), show i + 1 + k = i + (k + 1) by omega]
set_option maxHeartbeats 2000000 in
theorem sCompare_w (b1 o1 c b2 o2 d n : Nat) (f g : Nat → Int) (w : World) (hn : n ≤ 1000) (hc1 : ∀ j, j < n → w.cell? ⟨b1, o1 + j, none⟩ = some (.int .i64 (f j))) (hc2 : ∀ j, j < n → w.cell? ⟨b2, o2 + j, none⟩ = some (.int .i64 (g j))) :
    Calls Tryd.prog 89 #[.slice (some ⟨b1, o1, none⟩) n c, .slice (some ⟨b2, o2, none⟩) n d] w fun e w' => e = .returned (.int .i64 (cmpF f g 0 n)) ∧ w' = w := by
  go_enter Tryd.func89, Tryd.ntmps89
  go_wp2
  go_loopg [11] n (fun q s11 wr => ∃ k : Nat, k ≤ n ∧ n - k ≤ q ∧ s11 = .int .i64 k ∧ wr = w ∧ ∀ j, j < k → Lib.compareInt (f j) (g j) = 0)
  case atStart => exact ⟨0, Nat.zero_le _, by omega, rfl, rfl, fun j hj => absurd hj (Nat.not_lt_zero _)⟩
  case round =>
    obtain ⟨k, hk, hg, rfl, rfl, heq⟩ := hrel
    by_cases hlt : k < n
    · have g1 := hc1 k hlt
      have g2 := hc2 k hlt
      have A : Aside (∀ j, j < k → Lib.compareInt (f j) (g j) = 0) := heq
      clear heq hc1 hc2
      have hcon := fun w' => compare_w (f k) (g k) w'
      generalize hxk : f k = x at g1 hcon
      generalize hyk : g k = y at g2 hcon
      have B : Aside (f k = x ∧ g k = y) := ⟨hxk, hyk⟩
      clear hxk hyk
      generalize hr : Lib.compareInt x y = r at hcon
      have R : Aside (Lib.compareInt x y = r) := hr
      clear hr
      by_cases h0 : r = 0
      · subst h0
        go_wp2_with (go_at_call 64; refine (hcon _).mono ?_; rintro e w' ⟨rfl, rfl⟩)
        go_roundg (n - (k + 1))
        case measure => omega
        case rel =>
          refine ⟨k + 1, by omega, by omega, by go_num, rfl, fun j hj => ?_⟩
          by_cases e : j = k
          · subst e
            rw [B.out.1, B.out.2]; exact R.out
          · exact A.out j (by omega)
      · go_wp2_with (go_at_call 64; refine (hcon _).mono ?_; rintro e w' ⟨rfl, rfl⟩)
        go_ret
        refine ⟨?_, rfl⟩
        obtain ⟨m, hm⟩ : ∃ m, n = k + (m + 1) := ⟨n - k - 1, by omega⟩
        rw [hm, cmpF_skip k 0 (m + 1) fun j _ h2 => A.out j (by omega), Nat.zero_add]
        simp only [cmpF]
        rw [B.out.1, B.out.2, R.out, if_neg h0]
        rfl
    · obtain rfl : k = n := by omega
      clear hc1 hc2
      have A : Aside (∀ j, j < k → Lib.compareInt (f j) (g j) = 0) := heq
      clear heq
      go_wp2
      go_ret
      refine ⟨?_, rfl⟩
      have := cmpF_skip k 0 0 fun j _ h2 => A.out j (by omega)
      rw [Nat.add_zero] at this
      rw [this]
      rfl
set_option maxHeartbeats 1000000 in
theorem ins0_w (a : Option Addr) (cap : Nat) (fv : Value) (w : World) : Calls Tryd.prog 153 #[.slice a 0 cap, .int .i64 0, .int .i64 0, fv] w fun e w' => e = .returned (.tuple #[]) ∧ w' = w := by
  go_enter Tryd.func153, Tryd.ntmps153
  go_wp2
  go_loopg [8] 0 (fun _ s8 wr => s8 = .int .i64 1 ∧ wr = w)
  case atStart => exact ⟨rfl, rfl⟩
  case round =>
    obtain ⟨rfl, rfl⟩ := hrel
    go_wp2
    go_end0
    exact ⟨rfl, rfl⟩
set_option maxHeartbeats 1000000 in
theorem pdq0_w (a : Option Addr) (cap : Nat) (lim : Int) (fv : Value) (w : World) : Calls Tryd.prog 122 #[.slice a 0 cap, .int .i64 0, .int .i64 0, .int .i64 lim, fv] w fun e w' => e = .returned (.tuple #[]) ∧ w' = w := by
  go_enter Tryd.func122, Tryd.ntmps122
  go_wp2
  go_loopg [1, 2] 0 (fun _ s1 s2 wr => s1 = .int .i64 0 ∧ s2 = .int .i64 0 ∧ wr = w)
  case atStart => exact ⟨rfl, rfl, rfl⟩
  case round =>
    obtain ⟨rfl, rfl, rfl⟩ := hrel
    go_wp2_with (go_at_call 153; refine (ins0_w _ _ _ _).mono ?_; rintro e w' ⟨rfl, rfl⟩)
    (try simp only [Exit.inBlock, Exit.then]); refine bodyPost_ret (results_none rfl _ _ _) rfl ?_
    exact ⟨rfl, rfl⟩
set_option maxHeartbeats 1000000 in
theorem sort0_w (hl : ∀ w, Calls Tryd.prog 123 #[.int .u64 0] w fun e w' => (∃ n : Int, e = .returned (.int .i64 n)) ∧ w' = w) (a : Option Addr) (cap : Nat) (fv : Value) (w : World) : Calls Tryd.prog 87 #[.slice a 0 cap, fv] w fun e w' => e = .returned (.tuple #[]) ∧ w' = w := by
  go_enter Tryd.func87, Tryd.ntmps87
  go_wp2_with (first | (go_at_call 123; refine (hl _).mono ?_; rintro e w' ⟨⟨n, rfl⟩, rfl⟩) | (go_at_call 122; refine (pdq0_w _ _ _ _ _).mono ?_; rintro e w' ⟨rfl, rfl⟩))
  go_end0
  exact ⟨rfl, rfl⟩
/-- The comparison of what is in the cans. -/
def coF (x : Co) (j : Nat) : Int := x.g (j + 1)
def cmpC (x y : Co) : Int := cmpF (coF x) (coF y) 0 3
theorem two_first (W : World) (xs ys : Array Value) (T T' n i : Nat) (fr fr' : Nat × Nat) : (((W.alloc (.cells xs T fr)).alloc (.cells ys T' fr')).drewN n).cell? ⟨W.heap.size, i, none⟩ = xs[i]? := by
  unfold World.cell? World.drewN World.alloc
  simp [Array.getElem?_push]
theorem two_second (W : World) (xs ys : Array Value) (T T' n i : Nat) (fr fr' : Nat × Nat) : (((W.alloc (.cells xs T fr)).alloc (.cells ys T' fr')).drewN n).cell? ⟨W.heap.size + 1, i, none⟩ = ys[i]? := by
  have h : (((W.alloc (.cells xs T fr)).alloc (.cells ys T' fr')).drewN n).heap[W.heap.size + 1]? = some (.cells ys T' fr') := by
    show ((W.heap.push _).push _)[W.heap.size + 1]? = _
    rw [Array.getElem?_push, if_pos (by simp)]
  unfold World.cell?
  simp only [h]
  rfl
theorem co_at (x : Co) (j : Nat) (h : j < 3) : (#[Value.int .i64 x.a, .int .i64 x.b, .int .i64 x.c, .int .i64 x.d] : Array Value)[1 + j]? = some (.int .i64 (coF x j)) := by
  obtain rfl | rfl | rfl : j = 0 ∨ j = 1 ∨ j = 2 := by omega
  all_goals rfl
set_option maxHeartbeats 2000000 in
theorem before1_w (x y : Co) (W : World) : Calls Tryd.prog 88 #[.agg x.cells.toArray, .agg y.cells.toArray] W fun e w' => e = .returned (.int .i64 (cmpC x y)) ∧ ∃ q os', w' = Sort.grow (W.drewN q) os' := by
  have hcon := fun b1 b2 w' h1 h2 => sCompare_w b1 1 3 b2 1 3 3 (coF x) (coF y) w' (by decide) h1 h2
  change ∀ b1 b2 w' h1 h2, Calls _ _ _ _ (fun e w'' => e = .returned (.int .i64 (cmpC x y)) ∧ _) at hcon
  generalize cmpC x y = r at hcon ⊢
  unfold Co.cells
  go_enter Tryd.func88, Tryd.ntmps88
  go_wp2
  go_quiet ((go_at_call 89; exact Calls.quiet_of_same (hcon _ _ _ (fun j hj => (two_first _ _ _ _ _ _ _ _ _).trans (co_at x j hj)) (fun j hj => (two_second _ _ _ _ _ _ _ _ _).trans (co_at y j hj)))))
  go_wp2
  go_ret
  exact ⟨rfl, nq, _, by rw [Sort.alloc_eq_grow, Sort.alloc_eq_grow, Sort.grow_grow]; rfl⟩
end Go.Proofs.YtjekjehgmljbgaaDoor.T

/- Cans from which a pouring leads to some; pure. -/
namespace Go.Proofs.YtjekjehgmljbgaaDoor.T
open Go.RowKit Go.Proofs Go.Eng
set_option maxRecDepth 100000
set_option maxHeartbeats 1000000
set_option linter.unusedVariables false
set_option linter.unusedSimpArgs false

def Co.lt (x y : Co) : Prop := x.b < y.b ∨ x.b = y.b ∧ (x.c < y.c ∨ x.c = y.c ∧ x.d < y.d)
instance (x y : Co) : Decidable (x.lt y) := by unfold Co.lt; infer_instance
theorem Co.lt_irr (x : Co) : ¬ x.lt x := by unfold Co.lt; omega
theorem Co.lt_tr {x y z : Co} (h : x.lt y) (h' : y.lt z) : x.lt z := by unfold Co.lt at *; omega
theorem cL_lt {x y : Int} : Lib.compareInt x y < 0 ↔ x < y := by
  unfold Lib.compareInt; (repeat' split) <;> omega
theorem cL_z {x y : Int} : Lib.compareInt x y = 0 ↔ x = y := by
  unfold Lib.compareInt; (repeat' split) <;> omega
theorem cmpC_lt {x y : Co} : cmpC x y < 0 ↔ x.lt y := by
  unfold cmpC Co.lt
  simp only [cmpF]
  show (if Lib.compareInt x.b y.b = 0 then (if Lib.compareInt x.c y.c = 0 then (if Lib.compareInt x.d y.d = 0 then 0 else Lib.compareInt x.d y.d) else Lib.compareInt x.c y.c) else Lib.compareInt x.b y.b) < 0 ↔ _
  simp only [cL_z]
  split
  · split
    · split
      · omega
      · rw [cL_lt]; omega
    · rw [cL_lt]; omega
  · rw [cL_lt]; omega
theorem co_ext : ∀ {l m : List Co}, l.Pairwise Co.lt → m.Pairwise Co.lt → (∀ x, x ∈ l ↔ x ∈ m) → l = m
  | [], [], _, _, _ => rfl
  | [], y :: m, _, _, h => by have := (h y).2 List.mem_cons_self; cases this
  | x :: l, [], _, _, h => by have := (h x).1 List.mem_cons_self; cases this
  | x :: l, y :: m, h1, h2, h => by
    rw [List.pairwise_cons] at h1 h2
    have hxy : x = y := by
      rcases List.mem_cons.1 ((h x).1 List.mem_cons_self) with h3 | h3
      · exact h3
      · rcases List.mem_cons.1 ((h y).2 List.mem_cons_self) with h4 | h4
        · exact h4.symm
        · exact absurd (Co.lt_tr (h1.1 y h4) (h2.1 x h3)) (Co.lt_irr x)
    subst hxy
    rw [co_ext h1.2 h2.2 fun z => ?_]
    have hz := h z
    simp only [List.mem_cons] at hz
    constructor
    · intro h3
      rcases hz.1 (.inr h3) with h4 | h4
      · subst h4; exact absurd (h1.1 _ h3) (Co.lt_irr _)
      · exact h4
    · intro h3
      rcases hz.2 (.inr h3) with h4 | h4
      · subst h4; exact absurd (h2.1 _ h3) (Co.lt_irr _)
      · exact h4
/-- From it the pouring leads here. -/
structure Cn.IsBef (c : Cn) (f t : Nat) (x : Co) : Prop where
  inn : c.In x
  can : c.canB x f t = true
  to : c.to x f t = c.co
structure Cn.Fp (c : Cn) (f t : Nat) : Prop where
  fb : f ≤ c.n
  tb : t ≤ c.n
  ne : f ≠ t
theorem Cn.IsBef.gs {c : Cn} {f t : Nat} {x : Co} (h : c.IsBef f t x) (hok : c.Ok) (hp : c.Fp f t) : c.co.g t = x.g t + c.amt x f t ∧ c.co.g f = x.g f - c.amt x f t ∧ ∀ k, k < 4 → k ≠ f → k ≠ t → c.co.g k = x.g k := by
  have h3 := hok.n3
  have h1 := hp.fb
  have h2 := hp.tb
  have hne := hp.ne
  refine ⟨?_, ?_, fun k hk h4 h5 => ?_⟩
  · rw [← h.to, c.to_g x (by omega) (by omega) (by omega), if_pos rfl]
  · rw [← h.to, c.to_g x (by omega) (by omega) (by omega), if_neg hne, if_pos rfl]
  · rw [← h.to, c.to_g x (by omega) (by omega) hk, if_neg h5, if_neg h4]
theorem Cn.IsBef.amt {c : Cn} {f t : Nat} {x : Co} (h : c.IsBef f t x) (hok : c.Ok) (hp : c.Fp f t) : 0 < c.amt x f t ∧ c.amt x f t ≤ 20 := by
  have h3 := hok.n3
  have h1 := hp.fb
  have h2 := hp.tb
  have hne := hp.ne
  refine ⟨(Cn.canB_iff.1 h.can).2, ?_⟩
  unfold Cn.amt Cn.lack
  by_cases hf : f = 0
  · have := h.inn.lo t (by omega)
    obtain ⟨t', rfl⟩ : ∃ t', t = t' + 1 := ⟨t - 1, by omega⟩
    rw [c.room_s]
    have := hok.s t' (by omega)
    omega
  · have := h.inn.hi f h1
    obtain ⟨f', rfl⟩ : ∃ f', f = f' + 1 := ⟨f - 1, by omega⟩
    rw [c.room_s] at this
    have := hok.s f' (by omega)
    omega
theorem Co.sm_g (x : Co) : x.sm = x.g 0 + x.g 1 + x.g 2 + x.g 3 := rfl
theorem Cn.IsBef.sm {c : Cn} {f t : Nat} {x : Co} (h : c.IsBef f t x) (hok : c.Ok) (hp : c.Fp f t) : x.sm = c.co.sm := by
  have h3 := hok.n3
  have h1 := hp.fb
  have h2 := hp.tb
  have hne := hp.ne
  obtain ⟨ht, hf, hk⟩ := h.gs hok hp
  have hk0 := hk 0 (by decide)
  have hk1 := hk 1 (by decide)
  have hk2 := hk 2 (by decide)
  have hk3 := hk 3 (by decide)
  have hf4 := lt4 (show f < 4 by omega)
  have ht4 := lt4 (show t < 4 by omega)
  rw [Co.sm_g, Co.sm_g]
  rcases hf4 with rfl | rfl | rfl | rfl <;> rcases ht4 with rfl | rfl | rfl | rfl <;> first | exact absurd rfl hne | (simp at hk0 hk1 hk2 hk3; omega)
theorem Cn.IsBef.tot {c : Cn} {f t : Nat} {x y : Co} (h : c.IsBef f t x) (h' : c.IsBef f t y) (hok : c.Ok) (hp : c.Fp f t) (hne : x ≠ y) : x.lt y ∨ y.lt x := by
  have h1 := (h.sm hok hp).trans (h'.sm hok hp).symm
  obtain ⟨a, b, c1, d⟩ := x
  obtain ⟨a', b', c', d'⟩ := y
  have h2 : ¬ (b = b' ∧ c1 = c' ∧ d = d') := by
    rintro ⟨rfl, rfl, rfl⟩
    refine hne ?_
    have : a = a' := by simp only [Co.sm] at h1; omega
    rw [this]
  unfold Co.lt
  simp only
  omega
structure Cn.BefS (c : Cn) (f t : Nat) (L : List Co) : Prop where
  srt : L.Pairwise Co.lt
  mem : ∀ x, x ∈ L ↔ c.IsBef f t x
def Cn.Bef (c : Cn) (p : Po) (e : Int) (L : List Co) : Prop := if c.okB = true then (if c.vldB p = true then e = 0 ∧ c.BefS p.f.toNat p.t.toNat L else e = 81 ∧ L = []) else e = 80 ∧ L = []
theorem Cn.Bef.uniq {c : Cn} {p : Po} {e e' : Int} {L L' : List Co} (h : c.Bef p e L) (h' : c.Bef p e' L') : e = e' ∧ L = L' := by
  unfold Cn.Bef at h h'
  by_cases h1 : c.okB = true
  · rw [if_pos h1] at h h'
    by_cases h2 : c.vldB p = true
    · rw [if_pos h2] at h h'
      exact ⟨h.1.trans h'.1.symm, co_ext h.2.srt h'.2.srt fun x => (h.2.mem x).trans (h'.2.mem x).symm⟩
    · rw [if_neg h2] at h h'
      exact ⟨h.1.trans h'.1.symm, h.2.trans h'.2.symm⟩
  · rw [if_neg h1] at h h'
    exact ⟨h.1.trans h'.1.symm, h.2.trans h'.2.symm⟩
/-- The program's candidates. -/
def Cn.old (c : Cn) (f t n : Nat) : Co := (c.co.w f (c.co.g f + (n : Int))).w t (c.co.g t - (n : Int))
theorem Cn.old_g (c : Cn) (n : Nat) {f t k : Nat} (hf : f < 4) (ht : t < 4) (hk : k < 4) : (c.old f t n).g k = if k = t then c.co.g t - n else if k = f then c.co.g f + n else c.co.g k := by
  unfold Cn.old
  rw [Co.g_w _ _ ht hk, Co.g_w _ _ hf hk]
theorem Cn.IsBef.old {c : Cn} {f t : Nat} {x : Co} (h : c.IsBef f t x) (hok : c.Ok) (hp : c.Fp f t) : x = c.old f t (c.amt x f t).toNat := by
  have h3 := hok.n3
  have h1 := hp.fb
  have h2 := hp.tb
  have hne := hp.ne
  have ha := h.amt hok hp
  obtain ⟨ht, hf, hk⟩ := h.gs hok hp
  refine Co.ext4 fun k hk4 => ?_
  rw [c.old_g _ (by omega) (by omega) hk4]
  split
  · rename_i e; subst e; omega
  · split
    · rename_i e; subst e; omega
    · exact (hk k hk4 (by assumption) (by assumption)).symm
theorem Cn.old_inj {c : Cn} {f t n m : Nat} (hok : c.Ok) (hp : c.Fp f t) (h : c.old f t n = c.old f t m) : n = m := by
  have h3 := hok.n3
  have h1 := hp.fb
  have h2 := hp.tb
  have e : (c.old f t n).g t = (c.old f t m).g t := by rw [h]
  rw [c.old_g _ (by omega) (by omega) (by omega), c.old_g _ (by omega) (by omega) (by omega), if_pos rfl, if_pos rfl] at e
  omega
theorem Cn.old_in {c : Cn} {f t n : Nat} (hok : c.Ok) (hp : c.Fp f t) (h : ∀ k, k ≤ c.n → 0 ≤ (c.old f t n).g k ∧ (c.old f t n).g k ≤ c.room k) : c.In (c.old f t n) := by
  have h3 := hok.n3
  have h1 := hp.fb
  have h2 := hp.tb
  have hz : ∀ k, c.n < k → k < 4 → (c.old f t n).g k = 0 := fun k hk hk4 => by
    rw [c.old_g _ (by omega) (by omega) hk4, if_neg (by omega), if_neg (by omega)]
    exact hok.co_in.z k hk hk4
  exact ⟨fun k hk => by
    by_cases hkn : k ≤ c.n
    · exact (h k hkn).1
    · rw [hz k (by omega) hk]; exact Int.le_refl _, fun k hk => (h k hk).2, hz⟩
/-- After so many of them. -/
structure Cn.BefI (c : Cn) (f t m : Nat) (L : List Co) : Prop where
  len : L.length ≤ m
  nd : L.Nodup
  mem : ∀ x, x ∈ L ↔ c.IsBef f t x ∧ ∃ n, n < m ∧ x = c.old f t n
theorem Cn.BefI.nil (c : Cn) (f t : Nat) : c.BefI f t 0 [] := ⟨Nat.le_refl _, List.nodup_nil, fun x => ⟨fun h => (by cases h), fun ⟨_, n, h, _⟩ => (by omega)⟩⟩
theorem Cn.BefI.skip {c : Cn} {f t m : Nat} {L : List Co} (h : c.BefI f t m L) (hn : ¬ c.IsBef f t (c.old f t m)) : c.BefI f t (m + 1) L := ⟨by have := h.len; omega, h.nd, fun x => (h.mem x).trans ⟨fun ⟨h1, n, h2, h3⟩ => ⟨h1, n, by omega, h3⟩, fun ⟨h1, n, h2, h3⟩ => by
  by_cases hnm : n = m
  · subst hnm; rw [h3] at h1; exact absurd h1 hn
  · exact ⟨h1, n, by omega, h3⟩⟩⟩
theorem Cn.BefI.add {c : Cn} {f t m : Nat} {L : List Co} (hok : c.Ok) (hp : c.Fp f t) (h : c.BefI f t m L) (hn : c.IsBef f t (c.old f t m)) : c.BefI f t (m + 1) (L ++ [c.old f t m]) := by
  refine ⟨by have := h.len; rw [List.length_append]; simp only [List.length_singleton]; omega, ?_, fun x => ?_⟩
  · rw [List.nodup_append]
    refine ⟨h.nd, by simp, fun x hx y hy e => ?_⟩
    simp only [List.mem_singleton] at hy
    subst hy
    obtain ⟨_, n, h2, h3⟩ := (h.mem x).1 hx
    rw [h3] at e
    have := c.old_inj hok hp e
    omega
  · rw [List.mem_append, List.mem_singleton, h.mem x]
    constructor
    · rintro (⟨h1, n, h2, h3⟩ | rfl)
      · exact ⟨h1, n, by omega, h3⟩
      · exact ⟨hn, m, by omega, rfl⟩
    · rintro ⟨h1, n, h2, h3⟩
      by_cases hnm : n = m
      · subst hnm; exact .inr h3
      · exact .inl ⟨h1, n, by omega, h3⟩
theorem Cn.BefI.done {c : Cn} {f t : Nat} {L M : List Co} (hok : c.Ok) (hp : c.Fp f t) (h : c.BefI f t 21 L) (hm : M.Perm L) (hs : ∀ i j, i < j → j < M.length → ¬ (M.getD j Co.z).lt (M.getD i Co.z)) : c.BefS f t M := by
  have hmem : ∀ x, x ∈ M ↔ c.IsBef f t x := fun x => by
    rw [hm.mem_iff, h.mem x]
    refine ⟨fun h => h.1, fun h => ⟨h, _, ?_, h.old hok hp⟩⟩
    have := h.amt hok hp
    omega
  refine ⟨?_, hmem⟩
  rw [List.pairwise_iff_getElem]
  intro i j hi hj hij
  have h1 := hs i j hij hj
  simp only [List.getD_eq_getElem?_getD, hi, hj, List.getElem?_eq_getElem, Option.getD_some] at h1
  have hne : M[i] ≠ M[j] := fun e => by
    have hnd : M.Nodup := hm.nodup_iff.2 h.nd
    rw [List.nodup_iff_pairwise_ne, List.pairwise_iff_getElem] at hnd
    exact hnd i j hi hj hij e
  rcases ((hmem _).1 (List.getElem_mem hi)).tot ((hmem _).1 (List.getElem_mem hj)) hok hp hne with h2 | h2
  · exact h2
  · exact absurd h2 h1
end Go.Proofs.YtjekjehgmljbgaaDoor.T

/- The amounts that can be made: the reference's walk. -/
namespace Go.Proofs.YtjekjehgmljbgaaDoor.T
open Go.RowKit Go.Proofs Go.Eng
set_option maxRecDepth 100000
set_option maxHeartbeats 1000000
set_option linter.unusedVariables false
set_option linter.unusedSimpArgs false



def bE (b : Bool) : List Value := [.bool b]
def bRow (F : Nat → Bool) : List Value := rowOf bE F 21
def setF (F : Nat → Bool) (n : Nat) : Nat → Bool := fun k => if k = n then true else F k
/-- The flags after some entries. -/
def FlI (c : Cn) (rs : List Rl) (k : Nat) (F : Nat → Bool) : Prop := ∀ n, n < 21 → (F n = true ↔ ∃ j r, j < k ∧ rs[j]? = some r ∧ (n : Int) ∈ (c.of r.x).inn)
def FlJ (F0 : Nat → Bool) (xs : List Int) (i : Nat) (F : Nat → Bool) : Prop := ∀ n, n < 21 → (F n = true ↔ F0 n = true ∨ ∃ t, t < i ∧ xs.getD t 0 = (n : Int))
theorem FlJ.zero (F0 : Nat → Bool) (xs : List Int) : FlJ F0 xs 0 F0 := fun n _ => ⟨.inl, fun h => h.elim id fun ⟨t, h, _⟩ => absurd h (Nat.not_lt_zero _)⟩
theorem FlJ.step {F0 F : Nat → Bool} {xs : List Int} {i z : Nat} (h : FlJ F0 xs i F) (hz : xs.getD i 0 = (z : Int)) : FlJ F0 xs (i + 1) (setF F z) := fun n hn => by
  unfold setF
  by_cases he : n = z
  · subst he
    simp only [if_pos, true_iff]
    exact .inr ⟨i, Nat.lt_succ_self _, hz⟩
  · rw [if_neg he, h n hn]
    constructor
    · rintro (h1 | ⟨t, h1, h2⟩)
      · exact .inl h1
      · exact .inr ⟨t, by omega, h2⟩
    · rintro (h1 | ⟨t, h1, h2⟩)
      · exact .inl h1
      · by_cases ht : t = i
        · subst ht; rw [hz] at h2; exact absurd (by omega) he
        · exact .inr ⟨t, by omega, h2⟩
theorem FlI.step {c : Cn} {rs : List Rl} {k : Nat} {r : Rl} {F F2 : Nat → Bool} (h : FlI c rs k F) (hr : rs[k]? = some r) (h2 : FlJ F (c.of r.x).inn (c.of r.x).inn.length F2) : FlI c rs (k + 1) F2 := fun n hn => by
  rw [h2 n hn, h n hn]
  constructor
  · rintro (⟨j, r', h1, h3, h4⟩ | ⟨t, h1, h3⟩)
    · exact ⟨j, r', by omega, h3, h4⟩
    · refine ⟨k, r, Nat.lt_succ_self _, hr, ?_⟩
      rw [← h3, List.getD_eq_getElem?_getD, List.getElem?_eq_getElem h1]
      exact List.getElem_mem _
  · rintro ⟨j, r', h1, h3, h4⟩
    by_cases hj : j = k
    · subst hj
      rw [hr] at h3
      cases h3
      obtain ⟨t, ht, he⟩ := List.getElem_of_mem h4
      exact .inr ⟨t, ht, by rw [List.getD_eq_getElem?_getD, List.getElem?_eq_getElem ht]; exact he⟩
    · exact .inl ⟨j, r', by omega, h3, h4⟩
theorem FlI.made {c : Cn} {rs : List Rl} {F : Nat → Bool} (h : FlI c rs rs.length F) (hR : c.Rcd (rs.map Rl.zz)) {n : Nat} (hn : n < 21) : F n = true ↔ c.mkP (n : Int) := by
  rw [h n hn]
  constructor
  · rintro ⟨j, r, _, h2, h3⟩
    exact ⟨r.w, r.x, hR.best _ (List.mem_of_getElem? (zz_at h2)), h3⟩
  · rintro ⟨w, y, hb, hm⟩
    obtain ⟨j, hj⟩ := List.getElem?_of_mem (hR.all y w hb)
    obtain ⟨r, hr, hx, _⟩ := zz_of hj
    simp only at hx
    exact ⟨j, r, (List.getElem?_eq_some_iff.1 hr).1, hr, by rw [hx]; exact hm⟩
open Classical in
noncomputable def Cn.madeK (c : Cn) (n : Nat) : List Int := ((List.range n).map fun (k : Nat) => (k : Int)).filter fun n => decide (c.mkP n)
noncomputable def Cn.mdL (c : Cn) : List Int := if c.okB then c.madeL else []
/-- A list of amounts in new memory, and the error. -/
def MadeV (c : Cn) (v : Value) (Hn : List Blk) : Prop := ∃ a cap, v = .tuple #[.slice a c.mdL.length cap, .int .i64 c.err] ∧ NewRow 3 1 c.mdL.length (iv c.mdL) (.slice a c.mdL.length cap) Hn
theorem MadeV.bad {c : Cn} (h : c.okB = false) : MadeV c (.tuple #[.slice none 0 0, .int .i64 80]) [] := by
  have h1 : c.mdL = [] := by unfold Cn.mdL; rw [h]; rfl
  have h2 : c.err = 80 := by unfold Cn.err; rw [h]; rfl
  unfold MadeV
  rw [h1, h2]
  exact ⟨none, 0, rfl, none, 0, rfl, Nat.le_refl _, .inr ⟨rfl, rfl, rfl⟩⟩
theorem MadeV.ok {c : Cn} {a : Option Addr} {cap : Nat} {Hn : List Blk} (h : c.okB = true) (hr : NewRow 3 1 c.madeL.length (iv c.madeL) (.slice a c.madeL.length cap) Hn) : MadeV c (.tuple #[.slice a c.madeL.length cap, .int .i64 0]) Hn := by
  have h1 : c.mdL = c.madeL := by unfold Cn.mdL; rw [h]; rfl
  have h2 : c.err = 0 := by unfold Cn.err; rw [h]; rfl
  unfold MadeV
  rw [h1, h2]
  exact ⟨a, cap, rfl, hr⟩
end Go.Proofs.YtjekjehgmljbgaaDoor.T

/- The amount that takes longest: the reference's walk. -/
namespace Go.Proofs.YtjekjehgmljbgaaDoor.T
open Go.RowKit Go.Proofs Go.Eng
set_option maxRecDepth 100000
set_option maxHeartbeats 1000000
set_option linter.unusedVariables false
set_option linter.unusedSimpArgs false



noncomputable def Cn.fl (c : Cn) (n : Int) : Int := match c.few (c.someP n) with | some w => (w.l.length : Int) | none => 0
noncomputable def Cn.farS (c : Cn) (b : Int × Int) (n : Int) : Int × Int := if b.2 < c.fl n then (n, c.fl n) else b
noncomputable def Cn.farT (c : Cn) (k : Nat) : Int × Int := (c.madeL.take k).foldl c.farS (0, -1)
def FarV (c : Cn) (v : Value) : Prop := v = .tuple #[.int .i64 (if c.okB then (c.farT c.madeL.length).1 else 0), .int .i64 (if c.okB then (c.farT c.madeL.length).2 else 0), .int .i64 c.err]
theorem FarV.bad {c : Cn} {e : Int} (h : c.okB = false) (he : c.err = e) : FarV c (.tuple #[.int .i64 0, .int .i64 0, .int .i64 e]) := by
  unfold FarV
  rw [h, he]
  rfl
theorem FarV.ok {c : Cn} (h : c.okB = true) (he : c.err = 0) : FarV c (.tuple #[.int .i64 (c.farT c.madeL.length).1, .int .i64 (c.farT c.madeL.length).2, .int .i64 0]) := by
  unfold FarV
  rw [h, he]
  rfl
end Go.Proofs.YtjekjehgmljbgaaDoor.T

/- A region whose order is open, state by state: what is done already, whatever its order. No project text. -/
namespace Go.Eng
open Go.RowKit
section
variable {C : Ctx} {F : Fence} {n : Nat} {ds : List Deferred} {ops : Array Oper} {fuel : Nat} {listed : Array Bool} {e : Env} {H H' H0 M' L : List Blk} {M : Env → List Blk → Prop} {x : Blk}
theorem St.hsub {w : World} (hs : HSub H H') (hw : St C H w) : St C H' w := ⟨hw.1, hs _ _ hw.2, hw.3⟩
theorem PulL.base : (L ++ M').Perm (L ++ M') := List.Perm.refl _
theorem PulL.cons {y : Blk} (h : H.Perm (L ++ M')) : (y :: H).Perm (L ++ (y :: M')) := (h.cons y).trans List.perm_middle.symm
theorem PulL.app {X : List Blk} (h : H.Perm (L ++ M')) : (X ++ H).Perm (L ++ (X ++ M')) := (h.append_left X).trans (by rw [← List.append_assoc, ← List.append_assoc]; exact List.perm_append_comm.append_right M')
theorem PulE.one : L.Perm ([] ++ L) := List.Perm.refl _
theorem PulE.hd {M : List Blk} : (L ++ M).Perm (M ++ L) := List.perm_append_comm
theorem PulE.snd {X : List Blk} : (X ++ L).Perm (X ++ L) := List.Perm.refl _
theorem PulE.cons {y : Blk} (h : H.Perm (M' ++ L)) : (y :: H).Perm ((y :: M') ++ L) := h.cons y
theorem PulE.app {X : List Blk} (h : H.Perm (M' ++ L)) : (X ++ H).Perm ((X ++ M') ++ L) := by rw [List.append_assoc]; exact h.append_left X
theorem WS_pullE {all : Array Oper} {Q : Exit → Env → List Blk → Prop} {rest : List Oper} (L : List Blk) (hp : H.Perm (M' ++ L)) (h : WS C F n ds all Q rest e (M' ++ L)) : WS C F n ds all Q rest e H := fun w hw a ha => h w ⟨hw.1, hw.2.perm hp.symm, hw.3⟩ a ha
end
end Go.Eng

/- Sorting numbers, and striking those that follow an equal one: the library's contracts over this program. -/
namespace Go.Proofs.YtjekjehgmljbgaaDoor.T
open Go.RowKit Go.Proofs Go.Eng Go.Shelf
set_option maxRecDepth 100000
set_option maxHeartbeats 1000000
set_option linter.unusedVariables false
set_option linter.unusedSimpArgs false



def soR : Go.Shelf.Ren := ⟨fun n => match n with
  | 53 => 125
  | 59 => 188
  | 63 => 163
  | 64 => 123
  | 68 => 105
  | 70 => 182
  | 71 => 183
  | 72 => 184
  | 73 => 185
  | 74 => 186
  | 75 => 187
  | 76 => 189
  | 77 => 190
  | 78 => 161
  | 79 => 162
  | 88 => 201
  | 89 => 178
  | 90 => 179
  | 91 => 202
  | 92 => 203
  | 96 => 206
  | _ => 0, fun n => match n with
  | 0 => 0
  | 3 => 3
  | 4 => 4
  | 5 => 5
  | 9 => 9
  | 22 => 22
  | 23 => 3
  | 44 => 231
  | 51 => 199
  | 60 => 226
  | 61 => 227
  | 67 => 234
  | 69 => 236
  | 75 => 247
  | 79 => 251
  | 83 => 264
  | 84 => 87
  | _ => 0, fun x => x⟩
def coR : Go.Shelf.Ren := ⟨fun n => match n with
  | 43 => 126
  | _ => 0, fun n => match n with
  | 0 => 0
  | 3 => 3
  | 4 => 4
  | 22 => 22
  | 23 => 3
  | _ => 0, fun x => x⟩
theorem swap_map {w : World} {b T : Nat} {vs us : List Value} {f : Array Value → Array Value} (h : w.heap[b]? = some (CB vs T)) (hf : f vs.toArray = us.toArray) : Swap [(b, CB vs T)] [(b, CB us T)] w (Sort.mapBlock w b f) :=
  ⟨rfl, rfl, rfl, rfl, by simp [Sort.mapBlock], fun k hk => by
    have hk' : b ≠ k := fun e => hk (by simp [e])
    simp [Sort.mapBlock, Array.getElem?_modify, hk'], fun x hx => by
    simp only [List.mem_singleton] at hx
    subst hx
    simp only [Sort.mapBlock, Array.getElem?_modify, if_pos, h]
    show some (Sort.onCells f (CB vs T)) = some (CB us T)
    unfold CB
    simp only [Sort.onCells, hf], fun x hx => by
    simp only [List.mem_singleton] at hx
    subst hx
    unfold CB
    simp⟩
theorem st_mapRow {C : Ctx} {X : List Blk} {w : World} {b T : Nat} {vs us : List Value} {f : Array Value → Array Value} (h : St C ((b, CB vs T) :: X) w) (hf : f vs.toArray = us.toArray) : St C ((b, CB us T) :: X) (Sort.mapBlock w b f) := by
  have hs := swap_map (f := f) (h.get (i := 0) rfl) hf
  exact ⟨swap_below (X := X) hs h.2 h.1, swap_ok (X := X) hs h.2, swap_marks (X := X) hs h.2 h.3⟩
theorem st_ahead {C : Ctx} {H : List Blk} {w : World} (h : St C H w) : ∀ n, St C H (Sort.ahead w n)
  | 0 => h
  | n + 1 => by rw [← Sort.ahead_drew]; exact (st_ahead h n).drew
theorem st_more {C : Ctx} {H : List Blk} {w : World} (h : St C H w) (os : Array Obj) : St C H (Sort.grow w os) := by
  have hb : Below w.heap.size w (Sort.grow w os) := ⟨rfl, rfl, rfl, by simp [Sort.grow], fun k hk => by simp [Sort.grow, Array.getElem?_append_left hk]⟩
  exact h.grow (Hn := []) hb (HOk.nil _ _)
end Go.Proofs.YtjekjehgmljbgaaDoor.T

/- Sorting contents: the library's contract over this program. -/
namespace Go.Proofs.YtjekjehgmljbgaaDoor.T
open Go.RowKit Go.Proofs Go.Eng Go.Shelf Go.Sort
set_option maxRecDepth 100000
set_option maxHeartbeats 1000000
set_option linter.unusedVariables false
set_option linter.unusedSimpArgs false



def sfR : Go.Shelf.Ren := ⟨fun n => match n with
  | 6 => 87
  | 14 => 122
  | 15 => 123
  | 20 => 153
  | 21 => 154
  | 22 => 155
  | 23 => 156
  | 24 => 157
  | 25 => 158
  | 26 => 159
  | 27 => 160
  | 28 => 161
  | 29 => 162
  | 46 => 177
  | 47 => 178
  | 48 => 179
  | 49 => 180
  | 50 => 181
  | 57 => 200
  | _ => 0, fun n => match n with
  | 0 => 0
  | 3 => 3
  | 4 => 4
  | 5 => 5
  | 9 => 9
  | 22 => 151
  | 24 => 99
  | 25 => 155
  | 39 => 199
  | 45 => 226
  | 46 => 227
  | 50 => 231
  | 53 => 234
  | 55 => 236
  | 66 => 247
  | 70 => 251
  | 76 => 264
  | 77 => 87
  | _ => 0, fun x => x⟩
theorem sfL : SlLaysF0.n6 Tryd.prog sfR where
  mixed := by kernel_rfl
  f6 := ⟨Tryd.f87.name, by kernel_rfl, (Tryd.func87).trans (congrArg some (by kernel_rfl))⟩
  f14 := ⟨Tryd.f122.name, by kernel_rfl, (Tryd.func122).trans (congrArg some (by kernel_rfl))⟩
  f15 := (Tryd.func123).trans (congrArg some (by kernel_rfl))
  f20 := ⟨Tryd.f153.name, by kernel_rfl, (Tryd.func153).trans (congrArg some (by kernel_rfl))⟩
  f21 := ⟨Tryd.f154.name, by kernel_rfl, (Tryd.func154).trans (congrArg some (by kernel_rfl))⟩
  f22 := ⟨Tryd.f155.name, by kernel_rfl, (Tryd.func155).trans (congrArg some (by kernel_rfl))⟩
  f23 := ⟨Tryd.f156.name, by kernel_rfl, (Tryd.func156).trans (congrArg some (by kernel_rfl))⟩
  f24 := ⟨Tryd.f157.name, by kernel_rfl, (Tryd.func157).trans (congrArg some (by kernel_rfl))⟩
  f25 := ⟨Tryd.f158.name, by kernel_rfl, (Tryd.func158).trans (congrArg some (by kernel_rfl))⟩
  f26 := ⟨Tryd.f159.name, by kernel_rfl, (Tryd.func159).trans (congrArg some (by kernel_rfl))⟩
  f27 := ⟨Tryd.f160.name, by kernel_rfl, (Tryd.func160).trans (congrArg some (by kernel_rfl))⟩
  f28 := (Tryd.func161).trans (congrArg some (by kernel_rfl))
  f29 := (Tryd.func162).trans (congrArg some (by kernel_rfl))
  f46 := ⟨Tryd.f177.name, by kernel_rfl, (Tryd.func177).trans (congrArg some (by kernel_rfl))⟩
  f47 := (Tryd.func178).trans (congrArg some (by kernel_rfl))
  f48 := (Tryd.func179).trans (congrArg some (by kernel_rfl))
  f49 := ⟨Tryd.f180.name, by kernel_rfl, (Tryd.func180).trans (congrArg some (by kernel_rfl))⟩
  f50 := ⟨Tryd.f181.name, by kernel_rfl, (Tryd.func181).trans (congrArg some (by kernel_rfl))⟩
  f57 := ⟨Tryd.f200.name, by kernel_rfl, (Tryd.func200).trans (congrArg some (by kernel_rfl))⟩
  t0 := by kernel_rfl
  a0 := fun w => by kernel_rfl
  z0 := fun w => by kernel_rfl
  v0 := fun w => by kernel_rfl
  t3 := by kernel_rfl
  a3 := fun w => by kernel_rfl
  z3 := fun w => by kernel_rfl
  v3 := fun w => by kernel_rfl
  t4 := by kernel_rfl
  a4 := fun w => by kernel_rfl
  z4 := fun w => by kernel_rfl
  v4 := fun w => by kernel_rfl
  t5 := by kernel_rfl
  a5 := fun w => by kernel_rfl
  z5 := fun w => by kernel_rfl
  v5 := fun w => by kernel_rfl
  t9 := by kernel_rfl
  a9 := fun w => by kernel_rfl
  z9 := fun w => by kernel_rfl
  v9 := fun w => by kernel_rfl
  t22 := by kernel_rfl
  a22 := fun w => by kernel_rfl
  z22 := fun w => by kernel_rfl
  v22 := fun w => by kernel_rfl
  t25 := by kernel_rfl
  a25 := fun w => by kernel_rfl
  z25 := fun w => by kernel_rfl
  v25 := fun w => by kernel_rfl
  t39 := by kernel_rfl
  a39 := fun w => by kernel_rfl
  z39 := fun w => by kernel_rfl
  v39 := fun w => by kernel_rfl
  t45 := by kernel_rfl
  a45 := fun w => by kernel_rfl
  z45 := fun w => by kernel_rfl
  v45 := fun w => by kernel_rfl
  t46 := by kernel_rfl
  a46 := fun w => by kernel_rfl
  z46 := fun w => by kernel_rfl
  v46 := fun w => by kernel_rfl
  t50 := by kernel_rfl
  a50 := fun w => by kernel_rfl
  z50 := fun w => by kernel_rfl
  v50 := fun w => by kernel_rfl
  t53 := by kernel_rfl
  a53 := fun w => by kernel_rfl
  z53 := fun w => by kernel_rfl
  v53 := fun w => by kernel_rfl
  t55 := by kernel_rfl
  a55 := fun w => by kernel_rfl
  z55 := fun w => by kernel_rfl
  v55 := fun w => by kernel_rfl
  t66 := by kernel_rfl
  a66 := fun w => by kernel_rfl
  z66 := fun w => by kernel_rfl
  v66 := fun w => by kernel_rfl
  t70 := by kernel_rfl
  a70 := fun w => by kernel_rfl
  z70 := fun w => by kernel_rfl
  v70 := fun w => by kernel_rfl
  t76 := by kernel_rfl
  a76 := fun w => by kernel_rfl
  z76 := fun w => by kernel_rfl
  v76 := fun w => by kernel_rfl
  t77 := by kernel_rfl
  a77 := fun w => by kernel_rfl
  z77 := fun w => by kernel_rfl
  v77 := fun w => by kernel_rfl
instance : Inhabited Co := ⟨Co.z⟩
def cRow (xs : List Co) : List Value := rowOf Co.cells (fun k => xs.getD k Co.z) xs.length
theorem co_len4 : ∀ x : Co, (Co.cells x).length = 4 := fun _ => rfl
theorem cRow_len (xs : List Co) : (cRow xs).length = xs.length * 4 := rowOf_len co_len4 _ _
theorem row_range (f : Nat → Co) : ∀ m, rowOf Co.cells f m = (List.range (m * 4)).map fun t => ((f (t / 4)).cells)[t % 4]!
  | 0 => rfl
  | m + 1 => by
    rw [rowOf_succ, row_range f m, show (m + 1) * 4 = m * 4 + 1 + 1 + 1 + 1 by omega]
    simp only [List.range_succ, List.map_append, List.map_cons, List.map_nil, List.append_assoc]
    congr 1
    rw [show m * 4 / 4 = m by omega, show (m * 4 + 1) / 4 = m by omega, show (m * 4 + 1 + 1) / 4 = m by omega, show (m * 4 + 1 + 1 + 1) / 4 = m by omega, show m * 4 % 4 = 0 by omega, show (m * 4 + 1) % 4 = 1 by omega, show (m * 4 + 1 + 1) % 4 = 2 by omega, show (m * 4 + 1 + 1 + 1) % 4 = 3 by omega]
    rfl
theorem toArr_get (xs : List Co) (k : Nat) : xs.toArray[k]! = xs.getD k Co.z := by
  by_cases h : k < xs.length
  · simp [h, List.getD_eq_getElem?_getD]
  · simp [h, List.getD_eq_getElem?_getD]; rfl
theorem flat_cRow (xs : List Co) : flatK Co.cells 4 xs.toArray = (cRow xs).toArray := by
  apply Array.ext'
  unfold flatK cRow
  rw [row_range]
  simp only [Array.toList_map, Array.toList_range, List.size_toArray, toArr_get]
theorem put_row {us vs junk : List Value} (h : vs.length = us.length) : Sort.putCells (id : Value → Value) 0 vs.toArray (us ++ junk).toArray = (vs ++ junk).toArray := by
  apply Array.ext
  · simp [Sort.putCells, h]
  · intro k h1 h2
    simp only [Sort.putCells, Array.getElem_mapIdx, List.getElem_toArray, List.size_toArray, Nat.zero_add, Nat.zero_le, true_and, Nat.sub_zero]
    by_cases hk : k < vs.length
    · rw [if_pos hk, List.getElem_append_left (by omega)]
      simp [hk]
    · rw [if_neg hk, List.getElem_append_right (by omega), List.getElem_append_right (by omega)]
      congr 1
      omega
theorem holds_row {w : World} {b T : Nat} {us junk : List Value} (h : w.heap[b]? = some (CB (us ++ junk) T)) : Sort.Holds (id : Value → Value) w b 0 us.toArray := fun j hj => by
  simp only [List.size_toArray] at hj
  have h2 : At w b 0 us := at_block (rest := junk) h rfl
  refine ⟨?_, ?_⟩
  · have := h2.get j us[j] (by simp [hj])
    simpa [hj] using this
  · unfold World.frozen?
    rw [h]
    unfold CB
    simp
theorem swoC : Sort.SWO (ltOf cmpC) where
  irrefl x := by simp only [ltOf, decide_eq_false_iff_not, cmpC_lt]; exact Co.lt_irr x
  trans x y z h1 h2 := by simp only [ltOf, decide_eq_true_eq, cmpC_lt] at *; exact Co.lt_tr h1 h2
  ntrans x y z h1 h2 := by simp only [ltOf, decide_eq_false_iff_not, cmpC_lt] at *; unfold Co.lt at *; omega
theorem co_one : ∀ x, ∀ v ∈ Co.cells x, v.oneCell' = true := fun x v hv => by
  simp only [Co.cells, List.mem_cons, List.not_mem_nil, or_false] at hv
  rcases hv with rfl | rfl | rfl | rfl <;> rfl
theorem sortF_cs (w0 : World) (ds0 out0 : List Deferred) (b T cap : Nat) (xs : List Co) (junk : List Value) (G : List Blk) (hn : xs.length ≤ 1000000) :
    Cs ⟨Tryd.prog, w0, ds0, out0⟩ 87 #[.slice (some ⟨b, 0, none⟩) xs.length cap, .func (.func 88) #[] #[]] ((b, CB (cRow xs ++ junk) T) :: G) fun v Hn => v = .tuple #[] ∧ ∃ ys, ys.Perm xs ∧ (∀ i j, i < j → j < ys.length → ¬ (ys.getD j Co.z).lt (ys.getD i Co.z)) ∧ Hn = (b, CB (cRow ys ++ junk) T) :: G := fun w hw => by
  have hh := hw.get (i := 0) rfl
  have hblk : b < w.heap.size := (Array.getElem?_eq_some_iff.1 hh).1
  have hH : HoldsK Co.cells 4 w b 0 xs.toArray := by unfold HoldsK; rw [flat_cRow]; exact holds_row hh
  refine Calls.mono (AnyQ.slices_SortFunc sfL 4 (fun w => by kernel_rfl) (fun w => by kernel_rfl) Co.cells co_len4 co_one cmpC swoC 88 #[] b 0 cap xs.toArray w Tryd.call88 (fun _ _ _ _ x y => before1_w x y _) hH hblk (by simp only [List.size_toArray]; omega)) ?_
  rintro e w' ⟨rfl, d', n, os, hp, hs, rfl⟩
  obtain ⟨ys, rfl⟩ : ∃ ys : List Co, d' = ys.toArray := ⟨d'.toList, by simp⟩
  obtain ⟨hsz, _, hpm⟩ := hp
  simp only [List.size_toArray] at hsz hs
  have hperm : ys.Perm xs := by
    simp only [List.size_toArray] at hpm
    rw [show xs.toArray.extract 0 xs.length = xs.toArray by simp, show ys.toArray.extract 0 xs.length = ys.toArray by rw [← hsz]; simp] at hpm
    simpa using hpm
  refine ⟨_, _, rfl, st_more (st_mapRow (us := cRow ys ++ junk) (st_ahead hw n) ?_) os, rfl, ys, hperm, fun i j hij hj => ?_, rfl⟩
  · rw [flat_cRow]
    exact put_row (by rw [cRow_len, cRow_len, hsz])
  · have := hs i j (Nat.zero_le _) hij (by omega)
    rw [toArr_get, toArr_get] at this
    simpa only [ltOf, decide_eq_false_iff_not, cmpC_lt] using this
theorem cRow_snoc (xs : List Co) (y : Co) : cRow (xs ++ [y]) = cRow xs ++ y.cells := by
  unfold cRow
  rw [List.length_append, List.length_singleton, rowOf_succ]
  congr 1
  · exact rowOf_congr _ fun k hk => by simp [List.getD_eq_getElem?_getD, List.getElem?_append_left hk]
  · simp [List.getD_eq_getElem?_getD]
theorem bits0 (w : World) : Calls Tryd.prog 123 #[.int .u64 0] w fun e w' => (∃ n : Int, e = .returned (.int .i64 n)) ∧ w' = w :=
  (Any.bits_Len (SlLaysF0.n15.bits (P := Tryd.prog) (ρ := sfR) { sfL with }) 0 w (by omega) (by omega)).mono fun _ _ ⟨h1, h2⟩ => ⟨⟨_, h1⟩, h2⟩
theorem sortN_cs (w0 : World) (ds0 out0 : List Deferred) (a : Option Addr) (cap : Nat) (xs : List Co) (Hr G : List Blk) (hn : xs.length ≤ 1000000) (hrow : NewRow 99 4 xs.length (cRow xs) (.slice a xs.length cap) Hr) :
    Cs ⟨Tryd.prog, w0, ds0, out0⟩ 87 #[.slice a xs.length cap, .func (.func 88) #[] #[]] (Hr ++ G) fun v Hn => v = .tuple #[] ∧ ∃ (ys : List Co) (H2 : List Blk), ys.Perm xs ∧ (∀ i j, i < j → j < ys.length → ¬ (ys.getD j Co.z).lt (ys.getD i Co.z)) ∧ NewRow 99 4 ys.length (cRow ys) (.slice a ys.length cap) H2 ∧ Hn = H2 ++ G := fun w hw => by
  by_cases h0 : xs.length = 0
  · obtain rfl : xs = [] := List.length_eq_zero_iff.1 h0
    refine Calls.mono (sort0_w bits0 a cap _ w) ?_
    rintro e w' ⟨rfl, rfl⟩
    exact ⟨_, _, rfl, hw, rfl, [], Hr, List.Perm.refl _, fun i j _ h => absurd h (Nat.not_lt_zero _), hrow, rfl⟩
  · obtain ⟨b, junk, rfl, rfl, hl, hc⟩ := NewRow.head hrow (by omega)
    refine Calls.mono (sortF_cs w0 ds0 out0 b _ cap xs junk G hn w hw) ?_
    rintro e w' ⟨v, H', rfl, hst, rfl, ys, hp, hs, rfl⟩
    refine ⟨_, _, rfl, hst, rfl, ys, _, hp, hs, NewRow.mk rfl ?_ (by rw [hp.length_eq]; exact hc) (by rw [hp.length_eq]; omega), rfl⟩
    rw [← hl, List.length_append, List.length_append, cRow_len, cRow_len, hp.length_eq]
end Go.Proofs.YtjekjehgmljbgaaDoor.T

namespace Go.Proofs.YtjekjehgmljbgaaDoor.T
open Go.RowKit Go.Proofs Go.Eng
set_option maxRecDepth 100000
set_option maxHeartbeats 1000000
set_option linter.unusedVariables false
set_option linter.unusedSimpArgs false

theorem bs151_1_0 {x0_0 : Int} {x0_1 : Int} {x0_2 : Int} {x0_3 : Int} : ∀ w, (Instr.buildSlice 151 1 #[(0, .agg #[.int .i64 x0_0, .int .i64 x0_1, .int .i64 x0_2, .int .i64 x0_3])]).run Tryd.prog w = .ok (.slice (some ⟨w.heap.size, 0, none⟩) 1 1) (w.alloc (CB [.int .i64 x0_0, .int .i64 x0_1, .int .i64 x0_2, .int .i64 x0_3] 99)) := fun w => by kernel_rfl
theorem bs40_1_0 {x0_0a : Option Addr} {x0_0l x0_0c : Nat} {x0_1a : Option Addr} {x0_1l x0_1c : Nat} {x0_2 : Int} : ∀ w, (Instr.buildSlice 40 1 #[(0, .agg #[.slice x0_0a x0_0l x0_0c, .slice x0_1a x0_1l x0_1c, .int .i64 x0_2])]).run Tryd.prog w = .ok (.slice (some ⟨w.heap.size, 0, none⟩) 1 1) (w.alloc (CB [.slice x0_0a x0_0l x0_0c, .slice x0_1a x0_1l x0_1c, .int .i64 x0_2] 24)) := fun w => by kernel_rfl

/-- Cans of some content, and where they lie. -/
structure Bl where
  x : Co
  s : Option Addr
  ks : Nat
  i : Option Addr
  ki : Nat
def Bl.z : Bl := ⟨Co.z, none, 0, none, 0⟩
def Bl.cells (c : Cn) (b : Bl) : List Value := [.slice b.s c.n b.ks, .slice b.i (c.of b.x).inn.length b.ki, .int .i64 b.x.a]
theorem bl_len (c : Cn) : ∀ b, (Bl.cells c b).length = 3 := fun _ => rfl
structure Bl.RdH (c : Cn) (HH : List Blk) (b : Bl) : Prop where
  s : ∀ (C : Ctx) (H : List Blk) (w : World), HH.Sublist H → St C H w → Ints w b.s c.n b.ks c.sz
  i : ∀ (C : Ctx) (H : List Blk) (w : World), HH.Sublist H → St C H w → Ints w b.i (c.of b.x).inn.length b.ki (c.of b.x).inn
  os : OwnR HH 3 1 b.s c.n
  oi : OwnR HH 3 1 b.i (c.of b.x).inn.length
theorem ownR_mono {S0 S1 : List Blk} {T : TypeId} {sz n : Nat} {a : Option Addr} (h : OwnR S0 T sz a n) (hs : ∀ x ∈ S0, x ∈ S1) : OwnR S1 T sz a n := by
  rcases h with h | ⟨b, vs, h1, h2, h3⟩
  · exact .inl h
  · exact .inr ⟨b, vs, h1, hs _ h2, h3⟩
theorem Bl.RdH.mono {c : Cn} {HH HH' : List Blk} {b : Bl} (h : b.RdH c HH) (hs : HH.Sublist HH') : b.RdH c HH' :=
  ⟨fun C H w h1 hw => h.s C H w (hs.trans h1) hw, fun C H w h1 hw => h.i C H w (hs.trans h1) hw, ownR_mono h.os fun x hx => hs.mem hx, ownR_mono h.oi fun x hx => hs.mem hx⟩
theorem Bl.RdH.new {c : Cn} {x : Co} {z1 z2 : Option Addr} {q1 q2 : Nat} {H1 H2 HX : List Blk} (h1 : NewRow 3 1 c.n (iv c.sz) (.slice z1 c.n q1) H1) (h2 : NewRow 3 1 (c.of x).inn.length (iv (c.of x).inn) (.slice z2 (c.of x).inn.length q2) H2) : (⟨x, z1, q1, z2, q2⟩ : Bl).RdH c (HX ++ (H1 ++ H2)) :=
  ⟨fun C H w h hw => NewRow.ints h1 rfl (((List.sublist_append_left _ _).trans (List.sublist_append_right _ _)).trans h) w hw, fun C H w h hw => NewRow.ints h2 rfl (((List.sublist_append_right _ _).trans (List.sublist_append_right _ _)).trans h) w hw, h1.own fun y hy => List.mem_append_right _ (List.mem_append_left _ hy), h2.own fun y hy => List.mem_append_right _ (List.mem_append_right _ hy)⟩
def blRow (c : Cn) (bs : List Bl) : List Value := rowOf (Bl.cells c) (fun k => bs.getD k Bl.z) bs.length
theorem blRow_len (c : Cn) (bs : List Bl) : (blRow c bs).length = bs.length * 3 := rowOf_len (bl_len c) _ _
theorem blRow_snoc (c : Cn) (bs : List Bl) (y : Bl) : blRow c (bs ++ [y]) = blRow c bs ++ y.cells c := by
  unfold blRow
  rw [List.length_append, List.length_singleton, rowOf_succ]
  congr 1
  · exact rowOf_congr _ fun k hk => by simp [List.getD_eq_getElem?_getD, List.getElem?_append_left hk]
  · simp [List.getD_eq_getElem?_getD]
/-- The cans that are told, in new memory, and the error. -/
def BefV (c : Cn) (p : Po) (v : Value) (Hn : List Blk) : Prop := ∃ (e : Int) (bs : List Bl) (a : Option Addr) (cap : Nat) (Hr HX : List Blk), v = .tuple #[.slice a bs.length cap, .int .i64 e] ∧ c.Bef p e (bs.map Bl.x) ∧ NewRow 24 3 bs.length (blRow c bs) (.slice a bs.length cap) Hr ∧ (∀ b ∈ bs, b.RdH c HX) ∧ Shp HX HX ∧ Hn = HX ++ Hr
theorem BefV.emp {c : Cn} {p : Po} {e : Int} (h : c.Bef p e []) : BefV c p (.tuple #[.slice none 0 0, .int .i64 e]) [] :=
  ⟨e, [], none, 0, [], [], rfl, h, ⟨none, 0, rfl, Nat.le_refl _, .inr ⟨rfl, rfl, rfl⟩⟩, fun b h => (by cases h), .nil, rfl⟩
theorem infCo : (Tryd.prog.info? 99).map (fun i => (i.zero, i.size, i.bytes)) = some (some (.agg #[.int .i64 0, .int .i64 0, .int .i64 0, .int .i64 0]), 4, 32) := by kernel_rfl
theorem infCans : (Tryd.prog.info? 24).map (fun i => (i.zero, i.size, i.bytes)) = some (some (.agg #[.slice none 0 0, .slice none 0 0, .int .i64 0]), 3, 56) := by kernel_rfl
theorem map_take_snoc {α β : Type} {f : α → β} {bs : List α} {ys : List β} {y : α} {i : Nat} {z : β} (h : bs.map f = ys.take i) (hi : i < ys.length) (hy : f y = ys.getD i z) : (bs ++ [y]).map f = ys.take (i + 1) := by
  rw [List.map_append, h, List.take_succ_eq_append_getElem hi, List.map_cons, List.map_nil, hy]
  congr 2
  simp [List.getD_eq_getElem?_getD, hi]
theorem a_pc0 {u : Co} : ∀ w, (part 3 u.cells.toArray 0).run Tryd.prog w = .ok (.int .i64 u.a) w := fun w => by kernel_rfl
theorem a_pc1 {u : Co} : ∀ w, (part 3 u.cells.toArray 1).run Tryd.prog w = .ok (.int .i64 u.b) w := fun w => by kernel_rfl
theorem a_pc2 {u : Co} : ∀ w, (part 3 u.cells.toArray 2).run Tryd.prog w = .ok (.int .i64 u.c) w := fun w => by kernel_rfl
theorem a_pc3 {u : Co} : ∀ w, (part 3 u.cells.toArray 3).run Tryd.prog w = .ok (.int .i64 u.d) w := fun w => by kernel_rfl
theorem eqI_co {u v : Co} : ∀ w, (Op.equalIn Op.maxDepth 99 (.agg u.cells.toArray) (.agg v.cells.toArray)).run Tryd.prog w = .ok (ieq u.a v.a && (ieq u.b v.b && (ieq u.c v.c && ieq u.d v.d))) w := fun w => by
  unfold Op.maxDepth Op.equalIn
  rw [Sem.run_bind, Tryd.runUnderlying99]
  simp [List.range', Tryd.sizeOf3, a_pc0, a_pc1, a_pc2, a_pc3, eq_int (d := 9998) Tryd.runUnderlying3]
  generalize ieq u.a v.a = b0
  generalize ieq u.b v.b = b1
  generalize ieq u.c v.c = b2
  generalize ieq u.d v.d = b3
  cases b0 <;> cases b1 <;> cases b2 <;> cases b3 <;> simp
theorem a_gco {x y : Operand} {u v : Co} : ∀ w, (eqGuard .eql 99 x y (.agg u.cells.toArray) (.agg v.cells.toArray)).run Tryd.prog w = .ok () w := fun w => by kernel_rfl
theorem ieq_co (u v : Co) : (ieq u.a v.a && (ieq u.b v.b && (ieq u.c v.c && ieq u.d v.d))) = decide (u = v) := by
  obtain ⟨a, b, c, d⟩ := u
  obtain ⟨a', b', c', d'⟩ := v
  unfold ieq
  rw [Bool.eq_iff_iff]
  simp
theorem eqOp_co {x y : Operand} {u v : Co} : ∀ w, ((do eqGuard .eql 99 x y (.agg u.cells.toArray) (.agg v.cells.toArray); binOp .eql 99 (.agg u.cells.toArray) (.agg v.cells.toArray)) : Sem Value).run Tryd.prog w = .ok (.bool (decide (u = v))) w := eq_top a_gco (by rw [← ieq_co]; exact eqI_co)
theorem perm_3 {HX Ha H1 H2 : List Blk} : ((HX ++ Ha).append (H1 ++ H2)).Perm (HX ++ (H1 ++ (H2 ++ Ha))) := by
  show ((HX ++ Ha) ++ (H1 ++ H2)).Perm _
  rw [List.append_assoc]
  refine List.Perm.append_left HX ?_
  rw [← List.append_assoc H1 H2 Ha]
  exact List.perm_append_comm
theorem cbefore_any (c : Cn) (a1 : Option Addr) (p1 : Nat) (a2 : Option Addr) (p2 : Nat) (p : Po) (w : World) (hG : Gv w) (hn : c.n ≤ 1000000) (hm : c.inn.length ≤ 1000000) (h1 : Ints w a1 c.n p1 c.sz) (h2 : Ints w a2 c.inn.length p2 c.inn) : Ct Tryd.prog 37 #[.agg #[.slice a1 c.n p1, .slice a2 c.inn.length p2, .int .i64 c.st], .agg p.cells.toArray] w (BefV c p) := by
  obtain ⟨pf, pt⟩ := p
  have hF := wide_wide
  refine Ct_start (args := [_, _]) Tryd.func37 (by rfl) Tryd.ntmps37 (by rfl) ?_
  refine W_seq ?_
  refine W_region_lit (fun ds => ?_)
  refine WS_new hF (by rfl) (y_box (by rfl)) (fun b1 => ?_)
  refine WS_new hF (by rfl) (y_box (by rfl)) (fun b2 => ?_)
  refine WS_det hF (by rfl) (y_assign (c := .slice _ _ _) (by rfl)) ?_
  refine WS_det hF (by rfl) (y_assign (c := .int .i64 _) (by rfl)) ?_
  refine WS_nil ?_
  refine Then_normal ?_
  refine W_scope ?_
  refine W_seq ?_
  refine W_seq ?_
  refine W_region_lit (fun ds => ?_)
  refine WS_det hF (by rfl) (y_loadN (by rfl) Tryd.isAgg24 Tryd.sizeOf24 (Mem.own (us := [.slice _ _ _, .slice _ _ _, .int .i64 _]) 1 (by rfl) (by rfl)) (by rfl)) ?_
  refine WS_det hF (by rfl) (y_callL (by rfl) (by rfl) Tryd.call16 (fun w hw => ccheck_any c a1 p1 a2 p2 w (hG.st w hw) hn hm (h1.st w hw) (h2.st w hw))) ?_
  refine WS_det hF (by rfl) (y_assign (c := .int .i64 _) (by rfl)) ?_
  refine WS_nil ?_
  refine Then_normal ?_
  refine W_seq ?_
  refine W_region_lit (fun ds => ?_)
  refine WS_det hF (by rfl) (y_move (c := .int .i64 _) (by rfl)) ?_
  refine WS_det hF (by rfl) (y_neq (by rfl) (by rfl)) ?_
  refine WS_nil ?_
  refine Then_normal ?_
  refine W_cond (by rfl) (fun c2 => ?_) (fun c2 => ?_)
  ·
    try simp only [Bool.not_eq_true', Bool.not_eq_false', decide_eq_true_eq, decide_eq_false_iff_not, ne_eq, Classical.not_not, Int.not_lt, Int.not_le] at c2
    refine W_seq ?_
    refine W_region_lit (fun ds => ?_)
    refine WS_det hF (by rfl) (y_move (c := .int .i64 _) (by rfl)) ?_
    refine WS_det hF (by rfl) (y_assign (c := .slice _ _ _) (by rfl)) ?_
    refine WS_det hF (by rfl) (y_assign (c := .int .i64 _) (by rfl)) ?_
    refine WS_nil ?_
    refine Then_normal ?_
    refine W_ret ?_
    refine Then_ret ?_
    refine NoG_ret ?_
    refine Fin_ret [.slice _ _ _, .int .i64 _] [] Tryd.results37 ⟨by rfl, by rfl, trivial⟩ HSub.nil ?_
    obtain ⟨h3, h4⟩ := Cn.err_no c2
    rw [h4]
    exact BefV.emp (by unfold Cn.Bef; rw [if_neg (by rw [h3]; decide)]; exact ⟨rfl, rfl⟩)
  ·
    try simp only [Bool.not_eq_true', Bool.not_eq_false', decide_eq_true_eq, decide_eq_false_iff_not, ne_eq, Classical.not_not, Int.not_lt, Int.not_le] at c2
    have hokB := Cn.err_iff.1 c2
    have hok := Cn.ok_iff.1 hokB
    have hn3 := hok.n3
    have hlen := hok.len
    refine W_skip ?_
    refine Then_normal ?_
    refine W_seq ?_
    refine W_region_lit (fun ds => ?_)
    refine WS_det hF (by rfl) (y_loadN (by rfl) Tryd.isAgg24 Tryd.sizeOf24 (Mem.own (us := [.slice _ _ _, .slice _ _ _, .int .i64 _]) 1 (by rfl) (by rfl)) (by rfl)) ?_
    refine WS_det hF (by rfl) (y_buildL bd96_0 (by rfl)) ?_
    refine WS_new hF (by rfl) (y_alloc Tryd.zeroValue96 (by rfl)) (fun bb => ?_)
    refine WS_store hF (us := [.slice _ _ _, .slice _ _ _, .int .i64 _]) (i := 0) (by rfl) (by rfl) Tryd.sizeOf96 (by rfl) (by rfl) (by rfl) (by first | decide | exact Nat.le_of_ble_eq_true rfl | simp) ?_
    refine WS_nil ?_
    refine Then_normal ?_
    refine W_seq ?_
    refine W_seq ?_
    refine W_region_lit (fun ds => ?_)
    refine WS_det hF (by rfl) (y_loadN (by rfl) Tryd.isAgg96 Tryd.sizeOf96 (Mem.own (us := [.slice _ _ _, .slice _ _ _, .int .i64 _]) 0 (by rfl) (by rfl)) (by rfl)) ?_
    refine WS_det hF (by rfl) (y_loadN (by rfl) Tryd.isAgg26 Tryd.sizeOf26 (Mem.own (us := [.int .i64 _, .int .i64 _]) 1 (by rfl) (by rfl)) (by rfl)) ?_
    refine WS_det hF (by rfl) (y_callL (by rfl) (by rfl) Tryd.call48 (fun w hw => bvalid_any c a1 p1 a2 p2 ⟨pf, pt⟩ w)) ?_
    refine WS_det hF (by rfl) (y_not (by rfl)) ?_
    refine WS_nil ?_
    refine Then_normal ?_
    refine W_cond (by rfl) (fun c5 => ?_) (fun c5 => ?_)
    ·
      try simp only [Bool.not_eq_true', Bool.not_eq_false', decide_eq_true_eq, decide_eq_false_iff_not, ne_eq, Classical.not_not, Int.not_lt, Int.not_le] at c5
      refine W_seq ?_
      refine W_region_lit (fun ds => ?_)
      refine WS_det hF (by rfl) (y_assign (c := .slice _ _ _) (by rfl)) ?_
      refine WS_det hF (by rfl) (y_assign (c := .int .i64 _) (by rfl)) ?_
      refine WS_nil ?_
      refine Then_normal ?_
      refine W_ret ?_
      refine Then_ret ?_
      refine NoG_ret ?_
      refine Fin_ret [.slice _ _ _, .int .i64 _] [] Tryd.results37 ⟨by rfl, by rfl, trivial⟩ HSub.nil ?_
      exact BefV.emp (by unfold Cn.Bef; rw [if_pos hokB, if_neg (by rw [c5]; decide)]; exact ⟨rfl, rfl⟩)
    ·
      try simp only [Bool.not_eq_true', Bool.not_eq_false', decide_eq_true_eq, decide_eq_false_iff_not, ne_eq, Classical.not_not, Int.not_lt, Int.not_le] at c5
      have hvB := c5
      obtain ⟨⟨hf0, hf1⟩, ⟨ht0, ht1⟩, hne⟩ := Cn.vld_iff.1 c5
      simp only at hf0 hf1 ht0 ht1 hne
      obtain ⟨f, rfl⟩ := Int.eq_ofNat_of_zero_le hf0
      obtain ⟨t, rfl⟩ := Int.eq_ofNat_of_zero_le ht0
      have hf : f ≤ c.n := by omega
      have ht : t ≤ c.n := by omega
      have hft : f ≠ t := by omega
      have hp : c.Fp f t := ⟨hf, ht, hft⟩
      obtain ⟨e1, hd1⟩ := c.co.drop (k := f) (by omega)
      have hci := hok.co_in
      have hl1 := hci.lo f (by omega)
      have hl2 := hci.lo t (by omega)
      have hr : ∀ k, k ≤ c.n → 0 ≤ c.room k ∧ c.room k ≤ 600 := fun k hk => by
        cases k with
        | zero => exact ⟨by show (0 : Int) ≤ 600; omega, by show (600 : Int) ≤ 600; omega⟩
        | succ k => have := hok.s k (by omega); exact ⟨by show 0 ≤ c.s k; omega, by show c.s k ≤ 600; omega⟩
      have hh1 := hci.hi f hf
      have hh2 := hci.hi t ht
      have hr1 := hr f hf
      have hr2 := hr t ht
      refine W_skip ?_
      refine Then_normal ?_
      refine W_seq ?_
      refine W_region_lit (fun ds => ?_)
      refine WS_det hF (by rfl) (y_loadN (by rfl) Tryd.isAgg96 Tryd.sizeOf96 (Mem.own (us := [.slice _ _ _, .slice _ _ _, .int .i64 _]) 0 (by rfl) (by rfl)) (by rfl)) ?_
      refine WS_det hF (by rfl) (y_callL (by rfl) (by rfl) Tryd.call50 (fun w hw => bstart_any c a1 p1 a2 p2 w hok hn hm (h1.st w hw) (h2.st w hw))) ?_
      refine WS_new hF (by rfl) (y_alloc Tryd.zeroValue99 (by rfl)) (fun be => ?_)
      refine WS_store hF (us := [.int .i64 _, .int .i64 _, .int .i64 _, .int .i64 _]) (i := 0) (by rfl) (by rfl) Tryd.sizeOf99 (by rfl) (by rfl) (by rfl) (by first | decide | exact Nat.le_of_ble_eq_true rfl | simp) ?_
      refine WS_nil ?_
      refine Then_normal ?_
      refine W_seq ?_
      refine W_region_lit (fun ds => ?_)
      refine WS_det hF (by rfl) (y_assign (c := .slice _ _ _) (by rfl)) ?_
      refine WS_nil ?_
      refine Then_normal ?_
      refine W_seq ?_
      refine W_label ?_
      refine Then_normal ?_
      refine W_seq ?_
      refine W_seq ?_
      refine W_region_lit (fun ds => ?_)
      refine WS_det hF (by rfl) (y_move (c := .int .i64 _) (by rfl)) ?_
      refine WS_nil ?_
      refine Then_normal ?_
      refine W_block ?_
      refine W_loop (γ := Nat × List Co × Option Addr × Nat × List Blk) (fun q => q.1 ≤ 21 ∧ c.BefI f t q.1 q.2.1 ∧ NewRow 99 4 q.2.1.length (cRow q.2.1) (.slice q.2.2.1 q.2.1.length q.2.2.2.1) q.2.2.2.2) (fun q => [(2, .pointer (some ⟨b1, 0, none⟩)), (3, .pointer (some ⟨b2, 0, none⟩)), (7, .pointer (some ⟨bb, 0, none⟩)), (8, .pointer (some ⟨be, 0, none⟩)), (9, .slice q.2.2.1 q.2.1.length q.2.2.2.1), (31, .int .i64 (q.1 : Int))]) (fun q => (be, CB c.co.cells 99) :: (bb, CB [.slice a1 c.n p1, .slice a2 c.inn.length p2, .int .i64 c.st] 96) :: (b2, CB [.int .i64 (f : Int), .int .i64 (t : Int)] 26) :: (b1, CB [.slice a1 c.n p1, .slice a2 c.inn.length p2, .int .i64 c.st] 24) :: q.2.2.2.2) (fun q => 21 - q.1) ((0, [], none, 0, [])) ⟨Nat.zero_le _, Cn.BefI.nil c f t, ⟨none, 0, rfl, Nat.le_refl _, .inr ⟨rfl, rfl, rfl⟩⟩⟩ (by repeat (first | exact trivial | refine ⟨by rfl, ?_⟩)) ((by simp only [List.append_nil]; exact sbA)) ?_
      rintro ⟨n, L, la, lcap, Hr⟩ e ⟨(hn21 : n ≤ 21), (hI : c.BefI f t n L), (hrow : NewRow 99 4 L.length (cRow L) (.slice la L.length lcap) Hr)⟩
      refine W_seq ?_
      refine W_region_lit (fun ds => ?_)
      refine WS_det hF (by rfl) (y_lss (by rfl) (by rfl)) ?_
      refine WS_nil ?_
      refine Then_normal ?_
      refine W_seq ?_
      refine W_cond (by rfl) (fun c10 => ?_) (fun c10 => ?_)
      ·
        try simp only [Bool.not_eq_true', Bool.not_eq_false', decide_eq_true_eq, decide_eq_false_iff_not, ne_eq, Classical.not_not, Int.not_lt, Int.not_le] at c10
        have hnl : n < 21 := by omega
        have hLl := hI.len
        obtain ⟨X, hX⟩ : ∃ X, X = c.old f t n := ⟨_, rfl⟩
        have hXg : ∀ k, k < 4 → X.g k = if k = t then c.co.g t - n else if k = f then c.co.g f + n else c.co.g k := fun k hk => by rw [hX]; exact c.old_g n (by omega) (by omega) hk
        refine W_skip ?_
        refine Then_normal ?_
        refine W_seq ?_
        refine W_block ?_
        refine W_seq ?_
        refine W_region_lit (fun ds => ?_)
        refine WS_det hF (by rfl) (y_move (c := .int .i64 _) (by rfl)) ?_
        refine WS_det hF (by rfl) (y_assign (c := .int .i64 _) (by rfl)) ?_
        refine WS_nil ?_
        refine Then_normal ?_
        refine W_seq ?_
        refine W_region_lit (fun ds => ?_)
        refine WS_det hF (by rfl) (y_loadN (by rfl) Tryd.isAgg99 Tryd.sizeOf99 (Mem.own (us := [.int .i64 _, .int .i64 _, .int .i64 _, .int .i64 _]) 0 (by rfl) (by rfl)) (by rfl)) ?_
        refine WS_new hF (by rfl) (y_alloc Tryd.zeroValue99 (by rfl)) (fun bo => ?_)
        refine WS_store hF (us := [.int .i64 _, .int .i64 _, .int .i64 _, .int .i64 _]) (i := 0) (by rfl) (by rfl) Tryd.sizeOf99 (by rfl) (by rfl) (by rfl) (by first | decide | exact Nat.le_of_ble_eq_true rfl | simp) ?_
        refine WS_nil ?_
        refine Then_normal ?_
        refine W_seq ?_
        rw [show splice [.int .i64 0, .int .i64 0, .int .i64 0, .int .i64 0] 0 [.int .i64 c.co.a, .int .i64 c.co.b, .int .i64 c.co.c, .int .i64 c.co.d] = c.co.cells from rfl]
        refine W_region_lit (fun ds => ?_)
        refine WS_det hF (by rfl) (y_fieldAddr (by rfl) fa26_0) ?_
        refine WS_det hF (by rfl) (y_load1 (by rfl) Tryd.isAgg3 (Mem.own1 3 (by rfl) (by rfl))) ?_
        refine WS_det hF (by rfl) (y_indexA (k := f) (by rfl) (by rfl) (by first | rfl | omega) (by first | decide | omega) Tryd.runUnderlying99 Tryd.sizeOf3) ?_
        refine WS_det hF (by rfl) (y_load1 (by rfl) Tryd.isAgg3 (Mem.own (us := [.int .i64 (c.co.g f)]) 0 (by rfl) hd1)) ?_
        refine WS_det hF (by rfl) (y_move (c := .int .i64 _) (by rfl)) ?_
        refine WS_det hF (by rfl) (y_add (by rfl) (by rfl) (by unfold I64; omega)) ?_
        refine WS_det hF (by rfl) (y_indexA (k := f) (by rfl) (by rfl) (by first | rfl | omega) (by first | decide | omega) Tryd.runUnderlying99 Tryd.sizeOf3) ?_
        refine WS_store hF (us := [.int .i64 _]) (i := 0) (by rfl) (by rfl) Tryd.sizeOf3 (by rfl) (by rfl) (by rfl) (by show 0 + f * 1 + 1 ≤ 4; omega) ?_
        refine WS_nil ?_
        refine Then_normal ?_
        refine W_seq ?_
        rw [Co.splice c.co _ (k := f) (by omega)]
        obtain ⟨e3, hd3⟩ := (c.co.w f (c.co.g f + (n : Int))).drop (k := t) (by omega)
        rw [Co.g_w _ _ (by omega) (by omega), if_neg (Ne.symm hft)] at hd3
        refine W_region_lit (fun ds => ?_)
        refine WS_det hF (by rfl) (y_fieldAddr (by rfl) fa26_1) ?_
        refine WS_det hF (by rfl) (y_load1 (by rfl) Tryd.isAgg3 (Mem.own1 3 (by rfl) (by rfl))) ?_
        refine WS_det hF (by rfl) (y_indexA (k := t) (by rfl) (by rfl) (by first | rfl | omega) (by first | decide | omega) Tryd.runUnderlying99 Tryd.sizeOf3) ?_
        refine WS_det hF (by rfl) (y_load1 (by rfl) Tryd.isAgg3 (Mem.own (us := [.int .i64 (c.co.g t)]) 0 (by rfl) hd3)) ?_
        refine WS_det hF (by rfl) (y_move (c := .int .i64 _) (by rfl)) ?_
        refine WS_det hF (by rfl) (y_sub (by rfl) (by rfl) (by unfold I64; omega)) ?_
        refine WS_det hF (by rfl) (y_indexA (k := t) (by rfl) (by rfl) (by first | rfl | omega) (by first | decide | omega) Tryd.runUnderlying99 Tryd.sizeOf3) ?_
        refine WS_store hF (us := [.int .i64 _]) (i := 0) (by rfl) (by rfl) Tryd.sizeOf3 (by rfl) (by rfl) (by rfl) (by show 0 + t * 1 + 1 ≤ 4; omega) ?_
        refine WS_nil ?_
        refine Then_normal ?_
        refine W_seq ?_
        refine W_seq ?_
        rw [Co.splice _ _ (k := t) (by omega), show (c.co.w f (c.co.g f + (n : Int))).w t (c.co.g t - (n : Int)) = X from hX.symm]
        have hXb : ∀ k, k ≤ c.n → -1000 ≤ X.g k ∧ X.g k ≤ 1000 := fun k hk => by
          have a1 := hci.lo k (by omega)
          have a2 := hci.hi k hk
          have a3 := hr k hk
          rw [hXg k (by omega)]
          split
          · omega
          · split <;> omega
        refine W_region_lit (fun ds => ?_)
        refine WS_det hF (by rfl) (y_fieldAddr (by rfl) fa24_0) ?_
        refine WS_det hF (by rfl) (y_load1 (by rfl) Tryd.isAgg22 (Mem.own1 4 (by rfl) (by rfl))) ?_
        refine WS_det hF (by rfl) (y_len (by rfl) Tryd.runUnderlying22) ?_
        refine WS_det hF (by rfl) (y_add (by rfl) (by rfl) (by unfold I64; omega)) ?_
        refine WS_det hF (by rfl) (y_move (c := .int .i64 _) (by rfl)) ?_
        refine WS_nil ?_
        refine Then_normal ?_
        refine W_block ?_
        refine W_loop (γ := Nat) (fun i => i ≤ c.n + 1 ∧ ∀ k, k < i → 0 ≤ X.g k ∧ X.g k ≤ c.room k) (fun i => [(2, .pointer (some ⟨b1, 0, none⟩)), (3, .pointer (some ⟨b2, 0, none⟩)), (7, .pointer (some ⟨bb, 0, none⟩)), (8, .pointer (some ⟨be, 0, none⟩)), (9, .slice la L.length lcap), (31, .int .i64 (n : Int)), (11, .pointer (some ⟨bo, 0, none⟩)), (52, .int .i64 ((c.n + 1 : Nat) : Int)), (53, .int .i64 (i : Int))]) (fun i => (bo, CB X.cells 99) :: (be, CB c.co.cells 99) :: (bb, CB [.slice a1 c.n p1, .slice a2 c.inn.length p2, .int .i64 c.st] 96) :: (b2, CB [.int .i64 (f : Int), .int .i64 (t : Int)] 26) :: (b1, CB [.slice a1 c.n p1, .slice a2 c.inn.length p2, .int .i64 c.st] 24) :: Hr) (fun i => c.n + 1 - i) (0) ⟨Nat.zero_le _, fun k h => absurd h (Nat.not_lt_zero _)⟩ (by repeat (first | exact trivial | refine ⟨by rfl, ?_⟩)) (sbA) ?_
        rintro i e ⟨hi, hik⟩
        refine W_seq ?_
        refine W_region_lit (fun ds => ?_)
        refine WS_det hF (by rfl) (y_lss (by rfl) (by rfl)) ?_
        refine WS_nil ?_
        refine Then_normal ?_
        refine W_seq ?_
        refine W_cond (by rfl) (fun c16 => ?_) (fun c16 => ?_)
        ·
          try simp only [Bool.not_eq_true', Bool.not_eq_false', decide_eq_true_eq, decide_eq_false_iff_not, ne_eq, Classical.not_not, Int.not_lt, Int.not_le] at c16
          have hin : i ≤ c.n := by omega
          obtain ⟨e4, hd4⟩ := X.drop (k := i) (by omega)
          refine W_skip ?_
          refine Then_normal ?_
          refine W_seq ?_
          refine W_block ?_
          refine W_seq ?_
          refine W_region_lit (fun ds => ?_)
          refine WS_det hF (by rfl) (y_move (c := .int .i64 _) (by rfl)) ?_
          refine WS_det hF (by rfl) (y_assign (c := .int .i64 _) (by rfl)) ?_
          refine WS_nil ?_
          refine Then_normal ?_
          refine W_seq ?_
          refine W_draw0 hF Trydmixed [] (by decide +kernel) (fun ds => ?_)
          refine P_det (by rfl) (Over_nil (y_loadN (by rfl) Tryd.isAgg96 Tryd.sizeOf96 (Mem.own (us := [.slice _ _ _, .slice _ _ _, .int .i64 _]) 2 (by rfl) (by rfl)) (by rfl))) ?_
          refine P_det (by rfl) (Over_nil (y_move (c := .int .i64 _) (by rfl))) ?_
          refine P_det (by rfl) (Over_nil (y_callL (by rfl) (by rfl) Tryd.call86 (fun w hw => broom_any c a1 p1 a2 p2 i w hn hm (h1.st w hw) (h2.st w hw) hin))) ?_
          refine P_det (by rfl) (Over_nil (y_move (c := .int .i64 _) (by rfl))) ?_
          refine P_det (by rfl) (Over_nil (y_indexA (k := i) (by rfl) (by rfl) (by first | rfl | omega) (by first | decide | omega) Tryd.runUnderlying99 Tryd.sizeOf3)) ?_
          refine P_det (by rfl) (Over_nil (y_load1 (by rfl) Tryd.isAgg3 (Mem.own (us := [.int .i64 (X.g i)]) 0 (by rfl) hd4))) ?_
          refine P_new (by rfl) (by rfl) (Over_nil (y_buildSliceL bs22_1_0 (by rfl))) ?_
          refine P_det (by rfl) (Over_in (by rfl) (Over_nil (by rintro _ _ ⟨b4, rfl, rfl⟩; exact (y_callL (by rfl) (by rfl) Tryd.call56 (fun w hw => cin_any _ _ _ _ _ _ w (by decide) (by first | exact Ints.one 0 rfl w hw | exact Ints.two 0 rfl w hw)))))) ?_
          refine P_det (by rfl) (Over_out (by rfl) (Over_nil (y_not (by rfl)))) ?_
          refine PW_end (by rfl) ?_
          refine OverAll_cons (fun w62 l62 => ?_)
          refine OverAll_nil ?_
          rintro ⟨-, h62⟩
          obtain ⟨b3, rfl, rfl⟩ := h62
          refine Then_normal ?_
          refine W_cond (by rfl) (fun c18 => ?_) (fun c18 => ?_)
          ·
            try simp only [Bool.not_eq_true', Bool.not_eq_false', decide_eq_true_eq, decide_eq_false_iff_not, ne_eq, Classical.not_not, Int.not_lt, Int.not_le] at c18
            have hI2 : c.BefI f t (n + 1) L := hI.skip fun h => by
              have a1 := h.inn.lo i (by omega)
              have a2 := h.inn.hi i hin
              rw [← hX] at a1 a2
              rw [inB1.2 ⟨a1, a2⟩] at c18
              cases c18
            refine W_exit ?_
            refine InB_other (by rfl) ?_
            refine Then_exit ?_
            refine Loop_exit ?_
            refine InB_other (by rfl) ?_
            refine Then_exit ?_
            refine InB_same ?_
            refine Then_normal ?_
            refine W_region_lit (fun ds => ?_)
            refine WS_det hF (by rfl) (y_add (by rfl) (by rfl) (by unfold I64; omega)) ?_
            refine WS_det hF (by rfl) (y_move (c := .int .i64 _) (by rfl)) ?_
            refine WS_nil ?_
            exact Loop_next (n + 1, L, la, lcap, Hr) ⟨by simp only; omega, hI2, hrow⟩ (by repeat (first | exact trivial | refine ⟨by rfl, ?_⟩)) sbA (by simp only; omega)
          ·
            try simp only [Bool.not_eq_true', Bool.not_eq_false', decide_eq_true_eq, decide_eq_false_iff_not, ne_eq, Classical.not_not, Int.not_lt, Int.not_le] at c18
            refine W_skip ?_
            refine InB_normal ?_
            refine Then_normal ?_
            refine W_region_lit (fun ds => ?_)
            refine WS_det hF (by rfl) (y_add (by rfl) (by rfl) (by unfold I64; omega)) ?_
            refine WS_det hF (by rfl) (y_move (c := .int .i64 _) (by rfl)) ?_
            refine WS_nil ?_
            exact Loop_next (i + 1) ⟨by omega, fun k hk => by by_cases hki : k = i; (subst hki; exact (inB1.1 c18)); exact hik k (by omega)⟩ (by repeat (first | exact trivial | refine ⟨by rfl, ?_⟩)) sbA (by omega)
        ·
          try simp only [Bool.not_eq_true', Bool.not_eq_false', decide_eq_true_eq, decide_eq_false_iff_not, ne_eq, Classical.not_not, Int.not_lt, Int.not_le] at c16
          have hXin : c.In X := by
            rw [hX]
            exact Cn.old_in hok hp fun k hk => by rw [← hX]; exact hik k (by omega)
          refine W_exit ?_
          refine Then_exit ?_
          refine Loop_exit ?_
          refine InB_same ?_
          refine Then_normal ?_
          refine W_seq ?_
          refine W_region_lit (fun ds => ?_)
          refine WS_det hF (by rfl) (y_loadN (by rfl) Tryd.isAgg96 Tryd.sizeOf96 (Mem.own (us := [.slice _ _ _, .slice _ _ _, .int .i64 _]) 2 (by rfl) (by rfl)) (by rfl)) ?_
          refine WS_det hF (by rfl) (y_loadN (by rfl) Tryd.isAgg99 Tryd.sizeOf99 (Mem.own (us := [.int .i64 _, .int .i64 _, .int .i64 _, .int .i64 _]) 0 (by rfl) (by rfl)) (by rfl)) ?_
          refine WS_det hF (by rfl) (y_loadN (by rfl) Tryd.isAgg26 Tryd.sizeOf26 (Mem.own (us := [.int .i64 _, .int .i64 _]) 3 (by rfl) (by rfl)) (by rfl)) ?_
          refine WS_det hF (by rfl) (y_callL (by rfl) (by rfl) Tryd.call49 (fun w hw => bpour_any c a1 p1 a2 p2 X f t w hok hn hm (h1.st w hw) (h2.st w hw) hXin hf ht hft)) ?_
          refine WS_det hF (by rfl) (y_move (c := .tuple _) (by rfl)) ?_
          refine WS_det hF (by rfl) (y_extract (c := .agg _) (by rfl) (by rfl)) ?_
          refine WS_det hF (by rfl) (y_extract (c := .bool _) (by rfl) (by rfl)) ?_
          refine WS_new hF (by rfl) (y_alloc Tryd.zeroValue99 (by rfl)) (fun bn => ?_)
          refine WS_store hF (us := [.int .i64 _, .int .i64 _, .int .i64 _, .int .i64 _]) (i := 0) (by rfl) (by rfl) Tryd.sizeOf99 (by rfl) (by rfl) (by rfl) (by first | decide | exact Nat.le_of_ble_eq_true rfl | simp) ?_
          refine WS_det hF (by rfl) (y_assign (c := .bool _) (by rfl)) ?_
          refine WS_nil ?_
          refine Then_normal ?_
          refine W_seq ?_
          refine W_region_lit (fun ds => ?_)
          refine WS_det hF (by rfl) (y_move (c := .bool _) (by rfl)) ?_
          refine WS_det hF (by rfl) (y_move (c := .bool _) (by rfl)) ?_
          refine WS_split 74 (by rfl) (fun g21_1 => ?_) (fun g21_1 => ?_)
          ·
            try simp only [Bool.not_eq_true', Bool.not_eq_false', decide_eq_true_eq, decide_eq_false_iff_not, ne_eq, Classical.not_not, Int.not_lt, Int.not_le] at g21_1
            refine WS_det hF (by rfl) (y_loadN (by rfl) Tryd.isAgg99 Tryd.sizeOf99 (Mem.own (us := [.int .i64 _, .int .i64 _, .int .i64 _, .int .i64 _]) 0 (by rfl) (by rfl)) (by rfl)) ?_
            refine WS_det hF (by rfl) (y_loadN (by rfl) Tryd.isAgg99 Tryd.sizeOf99 (Mem.own (us := [.int .i64 _, .int .i64 _, .int .i64 _, .int .i64 _]) 2 (by rfl) (by rfl)) (by rfl)) ?_
            refine WS_det hF (by rfl) (y_eqlA (by rfl) (by rfl) (eqOp_co (u := (if c.noB X f t then X else c.to X f t)) (v := c.co))) ?_
            refine WS_det hF (by rfl) (by first | exact y_pick_t (c := .bool _) (by rfl) (by rfl) | exact y_pick_f (c := .bool _) (by rfl) (by rfl)) ?_
            refine WS_nil ?_
            refine Then_normal ?_
            refine W_cond (by rfl) (fun c21 => ?_) (fun c21 => ?_)
            ·
              try simp only [Bool.not_eq_true', Bool.not_eq_false', decide_eq_true_eq, decide_eq_false_iff_not, ne_eq, Classical.not_not, Int.not_lt, Int.not_le] at c21
              have hB : c.IsBef f t X := ⟨hXin, g21_1, by rw [Cn.can_to g21_1] at c21; exact c21⟩
              refine W_region_lit (fun ds => ?_)
              refine WS_det hF (by rfl) (y_move (c := .slice _ _ _) (by rfl)) ?_
              refine WS_det hF (by rfl) (y_loadN (by rfl) Tryd.isAgg99 Tryd.sizeOf99 (Mem.own (us := [.int .i64 _, .int .i64 _, .int .i64 _, .int .i64 _]) 1 (by rfl) (by rfl)) (by rfl)) ?_
              refine WS_newS hF (by rfl) (y_buildSliceL bs151_1_0 (by rfl)) (fun b5 => ?_)
              refine WS_appendN hF (H1 := (_ :: _ :: _ :: _ :: _ :: _ :: _ :: [])) (Hn := Hr) (news := X.cells) (by rfl) (by rfl) (by rfl) Tryd.underlying151 infCo (by rfl) (by rfl) hrow (cRow_len L) (.inr ⟨_, _, rfl, Mem.own (us := X.cells) 0 (by rfl) (by rfl)⟩) (by rfl) (by rfl) (by omega) (by omega) (by omega) ?_
              intro a3 cap3 H3 hr3
              have hrow3 : NewRow 99 4 (L ++ [c.old f t n]).length (cRow (L ++ [c.old f t n])) (.slice a3 (L ++ [c.old f t n]).length cap3) H3 := by
                rw [cRow_snoc, List.length_append, ← hX]
                exact hr3
              have hI2 : c.BefI f t (n + 1) (L ++ [c.old f t n]) := hI.add hok hp (by rw [← hX]; exact hB)
              rw [show L.length + 1 = (L ++ [c.old f t n]).length by rw [List.length_append]; rfl]
              refine WS_det hF (by rfl) (y_assign (c := .slice _ _ _) (by rfl)) ?_
              refine WS_nil ?_
              refine InB_normal ?_
              refine Then_normal ?_
              refine W_region_lit (fun ds => ?_)
              refine WS_det hF (by rfl) (y_add (by rfl) (by rfl) (by unfold I64; omega)) ?_
              refine WS_det hF (by rfl) (y_move (c := .int .i64 _) (by rfl)) ?_
              refine WS_nil ?_
              exact Loop_next (n + 1, L ++ [c.old f t n], a3, cap3, H3) ⟨by simp only; omega, hI2, hrow3⟩ (by repeat (first | exact trivial | refine ⟨by rfl, ?_⟩)) sbA (by simp only; omega)
            ·
              try simp only [Bool.not_eq_true', Bool.not_eq_false', decide_eq_true_eq, decide_eq_false_iff_not, ne_eq, Classical.not_not, Int.not_lt, Int.not_le] at c21
              have hI2 : c.BefI f t (n + 1) L := hI.skip fun h => by
                rw [← hX] at h
                first
                  | exact c21 (by rw [Cn.can_to h.can]; exact h.to)
                  | (rw [h.can] at g21_1; cases g21_1)
              refine W_skip ?_
              refine InB_normal ?_
              refine Then_normal ?_
              refine W_region_lit (fun ds => ?_)
              refine WS_det hF (by rfl) (y_add (by rfl) (by rfl) (by unfold I64; omega)) ?_
              refine WS_det hF (by rfl) (y_move (c := .int .i64 _) (by rfl)) ?_
              refine WS_nil ?_
              exact Loop_next (n + 1, L, la, lcap, Hr) ⟨by simp only; omega, hI2, hrow⟩ (by repeat (first | exact trivial | refine ⟨by rfl, ?_⟩)) sbA (by simp only; omega)
          ·
            try simp only [Bool.not_eq_true', Bool.not_eq_false', decide_eq_true_eq, decide_eq_false_iff_not, ne_eq, Classical.not_not, Int.not_lt, Int.not_le] at g21_1
            refine WS_no hF (by rfl) ?_
            refine WS_no hF (by rfl) ?_
            refine WS_no hF (by rfl) ?_
            refine WS_det hF (by rfl) (by first | exact y_pick_t (c := .bool _) (by rfl) (by rfl) | exact y_pick_f (c := .bool _) (by rfl) (by rfl)) ?_
            refine WS_nil ?_
            refine Then_normal ?_
            refine W_cond (by rfl) (fun c21 => ?_) (fun c21 => ?_)
            · cases c21
            ·
              try simp only [Bool.not_eq_true', Bool.not_eq_false', decide_eq_true_eq, decide_eq_false_iff_not, ne_eq, Classical.not_not, Int.not_lt, Int.not_le] at c21
              have hI2 : c.BefI f t (n + 1) L := hI.skip fun h => by
                rw [← hX] at h
                first
                  | exact c21 (by rw [Cn.can_to h.can]; exact h.to)
                  | (rw [h.can] at g21_1; cases g21_1)
              refine W_skip ?_
              refine InB_normal ?_
              refine Then_normal ?_
              refine W_region_lit (fun ds => ?_)
              refine WS_det hF (by rfl) (y_add (by rfl) (by rfl) (by unfold I64; omega)) ?_
              refine WS_det hF (by rfl) (y_move (c := .int .i64 _) (by rfl)) ?_
              refine WS_nil ?_
              exact Loop_next (n + 1, L, la, lcap, Hr) ⟨by simp only; omega, hI2, hrow⟩ (by repeat (first | exact trivial | refine ⟨by rfl, ?_⟩)) sbA (by simp only; omega)
      ·
        try simp only [Bool.not_eq_true', Bool.not_eq_false', decide_eq_true_eq, decide_eq_false_iff_not, ne_eq, Classical.not_not, Int.not_lt, Int.not_le] at c10
        obtain rfl : n = 21 := by omega
        refine W_exit ?_
        refine Then_exit ?_
        refine Loop_exit ?_
        refine InB_same ?_
        refine Then_normal ?_
        refine W_seq ?_
        refine W_region_lit (fun ds => ?_)
        refine WS_det hF (by rfl) (y_move (c := .slice _ _ _) (by rfl)) ?_
        refine WS_pullE (M' := Hr) [_, _, _, _] (List.perm_append_comm (l₁ := [_, _, _, _]) (l₂ := Hr)) ?_
        refine WS_callS hF (by rfl) (by rfl) (by rfl) Tryd.call87 (sortN_cs _ _ _ la lcap L Hr _ (by have := hI.len; omega) hrow) ?_
        rintro _ _ ⟨rfl, ys, Hy, hpm, hso, hry, rfl⟩
        rw [← hpm.length_eq]
        have hBS := hI.done hok hp hpm hso
        have hyl : ys.length ≤ 21 := by rw [hpm.length_eq]; exact hI.len
        have hyin : ∀ k, k < ys.length → c.In (ys.getD k Co.z) := fun k hk => by
          refine ((hBS.mem _).1 ?_).inn
          rw [List.getD_eq_getElem?_getD, List.getElem?_eq_getElem hk]
          exact List.getElem_mem _
        refine WS_nil ?_
        refine Then_normal ?_
        refine W_seq ?_
        refine W_region_lit (fun ds => ?_)
        refine WS_det hF (by rfl) (y_assign (c := .slice _ _ _) (by rfl)) ?_
        refine WS_nil ?_
        refine Then_normal ?_
        refine W_seq ?_
        refine W_seq ?_
        refine W_region_lit (fun ds => ?_)
        refine WS_det hF (by rfl) (y_move (c := .slice _ _ _) (by rfl)) ?_
        refine WS_det hF (by rfl) (y_len (by rfl) Tryd.runUnderlying151) ?_
        refine WS_det hF (by rfl) (y_move (c := .int .i64 _) (by rfl)) ?_
        refine WS_nil ?_
        refine Then_normal ?_
        refine W_block ?_
        refine W_loop (γ := Nat × List Bl × Option Addr × Nat × List Blk × List Blk) (fun q => q.1 ≤ ys.length ∧ q.2.1.map Bl.x = ys.take q.1 ∧ NewRow 24 3 q.2.1.length (blRow c q.2.1) (.slice q.2.2.1 q.2.1.length q.2.2.2.1) q.2.2.2.2.1 ∧ (∀ b ∈ q.2.1, b.RdH c q.2.2.2.2.2) ∧ Shp q.2.2.2.2.2 q.2.2.2.2.2) (fun q => [(7, .pointer (some ⟨bb, 0, none⟩)), (15, .slice q.2.2.1 q.2.1.length q.2.2.2.1), (86, .slice la ys.length lcap), (87, .int .i64 (ys.length : Int)), (88, .int .i64 (q.1 : Int))]) (fun q => Hy ++ ((bb, CB [.slice a1 c.n p1, .slice a2 c.inn.length p2, .int .i64 c.st] 96) :: (q.2.2.2.2.2 ++ q.2.2.2.2.1))) (fun q => ys.length - q.1) ((0, [], none, 0, [], [])) ⟨Nat.zero_le _, rfl, ⟨none, 0, rfl, Nat.le_refl _, .inr ⟨rfl, rfl, rfl⟩⟩, fun b h => (by cases h), .nil⟩ (by repeat (first | exact trivial | refine ⟨by rfl, ?_⟩)) (sbA) ?_
        rintro ⟨i, bs, aa, ac, Ha, HX⟩ e ⟨(hi : i ≤ ys.length), (hmp : bs.map Bl.x = ys.take i), (hra : NewRow 24 3 bs.length (blRow c bs) (.slice aa bs.length ac) Ha), (hrd : ∀ b ∈ bs, b.RdH c HX), (hsh : Shp HX HX)⟩
        refine W_seq ?_
        refine W_region_lit (fun ds => ?_)
        refine WS_det hF (by rfl) (y_lss (by rfl) (by rfl)) ?_
        refine WS_nil ?_
        refine Then_normal ?_
        refine W_seq ?_
        refine W_cond (by rfl) (fun c27 => ?_) (fun c27 => ?_)
        ·
          try simp only [Bool.not_eq_true', Bool.not_eq_false', decide_eq_true_eq, decide_eq_false_iff_not, ne_eq, Classical.not_not, Int.not_lt, Int.not_le] at c27
          have hil : i < ys.length := by omega
          have hbl : bs.length = i := by
            have := congrArg List.length hmp
            rw [List.length_map, List.length_take] at this
            omega
          obtain ⟨by_, jy, rfl, rfl, hjl, hjc⟩ := NewRow.head hry (by omega)
          refine W_skip ?_
          refine Then_normal ?_
          refine W_seq ?_
          refine W_block ?_
          refine W_seq ?_
          refine W_region_lit (fun ds => ?_)
          refine WS_det hF (by rfl) (y_index (k := i) (by rfl) (by rfl) (by first | rfl | omega) (by first | decide | omega) Tryd.runUnderlying151 Tryd.sizeOf99) ?_
          refine WS_det hF (by rfl) (y_loadN (by rfl) Tryd.isAgg99 Tryd.sizeOf99 (Mem.rowJ (enc := Co.cells) (junk := jy) (k := i) co_len4 0 (by rfl) hil rfl (by omega)) (by rfl)) ?_
          refine WS_new hF (by rfl) (y_alloc Tryd.zeroValue99 (by rfl)) (fun bx => ?_)
          refine WS_store hF (us := [.int .i64 _, .int .i64 _, .int .i64 _, .int .i64 _]) (i := 0) (by rfl) (by rfl) Tryd.sizeOf99 (by rfl) (by rfl) (by rfl) (by first | decide | exact Nat.le_of_ble_eq_true rfl | simp) ?_
          refine WS_nil ?_
          refine Then_normal ?_
          refine W_region_lit (fun ds => ?_)
          refine WS_det hF (by rfl) (y_move (c := .slice _ _ _) (by rfl)) ?_
          refine WS_det hF (by rfl) (y_loadN (by rfl) Tryd.isAgg96 Tryd.sizeOf96 (Mem.own (us := [.slice _ _ _, .slice _ _ _, .int .i64 _]) 2 (by rfl) (by rfl)) (by rfl)) ?_
          refine WS_det hF (by rfl) (y_loadN (by rfl) Tryd.isAgg99 Tryd.sizeOf99 (Mem.own (us := [.int .i64 _, .int .i64 _, .int .i64 _, .int .i64 _]) 0 (by rfl) (by rfl)) (by rfl)) ?_
          refine WS_gen hF (by rfl) (y_callL (by rfl) (by rfl) Tryd.call51 (fun w hw => bcans_any c a1 p1 a2 p2 (ys.getD i Co.z) w hok hn hm (h1.st w hw) (h2.st w hw))) ?_
          rintro _ _ ⟨z1, q1, z2, q2, H1, H2, rfl, hr1, hr2, rfl⟩
          refine WS_back ?_
          refine WS_newS hF (by rfl) (y_buildSliceL bs40_1_0 (by rfl)) (fun bs_ => ?_)
          refine WS_pullE (M' := (bs_, _) :: (bx, _) :: (by_, _) :: (bb, CB [.slice a1 c.n p1, .slice a2 c.inn.length p2, .int .i64 c.st] 96) :: (HX ++ (H1 ++ H2))) Ha (by simp only [List.append_eq, List.nil_append, List.append_assoc, List.cons_append]; repeat (first | exact perm_3 | apply List.Perm.cons)) ?_
          refine WS_appendN hF (H1 := (_ :: _ :: _ :: _ :: (HX ++ (H1 ++ (H2))))) (Hn := Ha) (news := Bl.cells c ⟨ys.getD i Co.z, z1, q1, z2, q2⟩) (by rfl) (by rfl) (by rfl) Tryd.underlying40 infCans (by rfl) (by rfl) hra (blRow_len c bs) (.inr ⟨_, _, rfl, Mem.own (us := Bl.cells c ⟨ys.getD i Co.z, z1, q1, z2, q2⟩) 0 (by rfl) (by rfl)⟩) (by rfl) (by rfl) (by omega) (by omega) (by omega) ?_
          intro a4 cap4 H4 hr4
          have hrow4 : NewRow 24 3 (bs ++ [(⟨ys.getD i Co.z, z1, q1, z2, q2⟩ : Bl)]).length (blRow c (bs ++ [(⟨ys.getD i Co.z, z1, q1, z2, q2⟩ : Bl)])) (.slice a4 (bs ++ [(⟨ys.getD i Co.z, z1, q1, z2, q2⟩ : Bl)]).length cap4) H4 := by
            rw [blRow_snoc, List.length_append]
            exact hr4
          have hrd4 : ∀ b ∈ bs ++ [(⟨ys.getD i Co.z, z1, q1, z2, q2⟩ : Bl)], b.RdH c (HX ++ (H1 ++ H2)) := fun b hb => by
            rcases List.mem_append.1 hb with hb | hb
            · exact (hrd b hb).mono (List.sublist_append_left _ _)
            · simp only [List.mem_singleton] at hb
              subst hb
              exact Bl.RdH.new hr1 hr2
          have hsh4 : Shp (HX ++ (H1 ++ H2)) (HX ++ (H1 ++ H2)) := hsh.app (hr1.shp.app hr2.shp)
          rw [show bs.length + 1 = (bs ++ [(⟨ys.getD i Co.z, z1, q1, z2, q2⟩ : Bl)]).length by rw [List.length_append]; rfl]
          refine WS_det hF (by rfl) (y_assign (c := .slice _ _ _) (by rfl)) ?_
          refine WS_nil ?_
          refine InB_normal ?_
          refine Then_normal ?_
          refine W_region_lit (fun ds => ?_)
          refine WS_det hF (by rfl) (y_add (by rfl) (by rfl) (by unfold I64; omega)) ?_
          refine WS_det hF (by rfl) (y_move (c := .int .i64 _) (by rfl)) ?_
          refine WS_nil ?_
          exact Loop_next (i + 1, bs ++ [⟨ys.getD i Co.z, z1, q1, z2, q2⟩], a4, cap4, H4, HX ++ (H1 ++ H2)) ⟨by simp only; omega, map_take_snoc hmp hil rfl, hrow4, hrd4, hsh4⟩ (by repeat (first | exact trivial | refine ⟨by rfl, ?_⟩)) sbA (by simp only; omega)
        ·
          try simp only [Bool.not_eq_true', Bool.not_eq_false', decide_eq_true_eq, decide_eq_false_iff_not, ne_eq, Classical.not_not, Int.not_lt, Int.not_le] at c27
          obtain rfl : i = ys.length := by omega
          refine W_exit ?_
          refine Then_exit ?_
          refine Loop_exit ?_
          refine InB_same ?_
          refine Then_normal ?_
          refine W_seq ?_
          refine W_region_lit (fun ds => ?_)
          refine WS_det hF (by rfl) (y_move (c := .slice _ _ _) (by rfl)) ?_
          refine WS_det hF (by rfl) (y_assign (c := .slice _ _ _) (by rfl)) ?_
          refine WS_det hF (by rfl) (y_assign (c := .int .i64 _) (by rfl)) ?_
          refine WS_nil ?_
          refine Then_normal ?_
          refine W_ret ?_
          refine NoG_ret ?_
          refine Fin_ret [.slice _ _ _, .int .i64 _] (HX ++ Ha) Tryd.results37 ⟨by rfl, by rfl, trivial⟩ (HSub.sub sbA) ?_
          refine ⟨0, bs, aa, ac, Ha, HX, rfl, ?_, hra, hrd, hsh, rfl⟩
          rw [hmp, List.take_length]
          unfold Cn.Bef
          rw [if_pos hokB, if_pos hvB]
          exact ⟨rfl, hBS⟩
end Go.Proofs.YtjekjehgmljbgaaDoor.T
