/- Arrays of four numbers: equal, as keys of maps. No project text. -/
import Derived.Test.YtjekjehgmljbgaaGreatDoorMb3
import Derived.Test.YtjekjehgmljbgaaGreatDoorMb2
set_option linter.unusedVariables false
set_option linter.unusedSimpArgs false
namespace Go.Proofs.YtjekjehgmljbgaaGreatDoor.T
open Go.RowKit Go.Proofs Go.Eng
set_option maxRecDepth 100000
set_option maxHeartbeats 1000000
theorem fa92_0 : ∀ b o w, (Instr.fieldAt 92 (.pointer (some ⟨b, o, none⟩)) 0).run Tryz.prog w = .ok (.pointer (some ⟨b, o + 0, none⟩)) w := fun b o w => by kernel_rfl
theorem broom_any (c : Cn) (a1 : Option Addr) (p1 : Nat) (a2 : Option Addr) (p2 : Nat) (t : Nat) (w : World) (hn : c.n ≤ 1000000) (hm : c.inn.length ≤ 1000000) (h1 : Ints w a1 c.n p1 c.sz) (h2 : Ints w a2 c.inn.length p2 c.inn) (ht : t ≤ c.n) : Ct Tryz.prog 59 #[.agg #[.slice a1 c.n p1, .slice a2 c.inn.length p2, .int .i64 c.st], .int .i64 (t : Int)] w fun v _ => v = .int .i64 (c.room t) := by
 have hsz : c.sz.length = c.n := rfl
 have hF := wide_wide
 refine Ct_start (args := [_, _]) Tryz.func59 rf Tryz.ntmps59 rf ?_
 refine zR fun ds => ?_
 refine WS_new hF rf (y_box rf) (fun b1 => ?_)
 refine za (.int .i64 _) hF ?_
 refine zO ?_
 refine zR fun ds => ?_
 refine zm (.int .i64 _) hF ?_
 refine zD hF (y_eql rf rf) ?_
 refine zN ?_
 refine W_cond rf (fun c1 => ?_) (fun c1 => ?_)
 ·
  try simp only [qz1, qz2, qz3, qz4, qz5, qz6, qz7, qz8] at c1
  refine zR fun ds => ?_
  refine za (.int .i64 _) hF ?_
  refine zN ?_
  refine W_ret ?_
  refine Then_ret ?_
  refine Fin_ret [.int .i64 _] [] Tryz.results59 ⟨by rfl, trivial⟩ HSub.nil ?_
  obtain rfl : t = 0 := by omega
  rfl
 ·
  try simp only [qz1, qz2, qz3, qz4, qz5, qz6, qz7, qz8] at c1
  obtain ⟨j, rfl⟩ : ∃ j, t = j + 1 := ⟨t - 1, by omega⟩
  obtain ⟨b, o, rfl, hc⟩ := h1.cell j om0
  change At w b _ [.int .i64 (c.s j)] at hc
  refine W_skip ?_
  refine zS fun ds => ?_
  refine zD hF (y_fieldAddr rf fa92_0) ?_
  refine zD hF (y_fieldAddr rf fa24_0) ?_
  refine zD hF (y_load1 rf Tryz.isAgg22 (Mem.own1 0 rf rf)) ?_
  refine zm (.int .i64 _) hF ?_
  refine zD hF (y_sub rf rf ui) ?_
  refine zD hF (y_index (k := j) rf rf r1 d10 Tryz.runUnderlying22 Tryz.sizeOf3) ?_
  refine zD hF (y_load1 rf Tryz.isAgg3 zo) ?_
  refine za (.int .i64 _) hF ?_
  refine zN ?_
  refine W_ret ?_
  refine Fin_ret [.int .i64 _] [] Tryz.results59 ⟨by rfl, trivial⟩ HSub.nil ?_
  rfl
theorem bvalid_any (c : Cn) (a1 : Option Addr) (p1 : Nat) (a2 : Option Addr) (p2 : Nat) (p : Po) (w : World) : Ct Tryz.prog 57 #[.agg #[.slice a1 c.n p1, .slice a2 c.inn.length p2, .int .i64 c.st], .agg p.cells.toArray] w fun v _ => v = .bool (c.vldB p) := by
 have hF := wide_wide
 refine Ct_start (args := [_, _]) Tryz.func57 rf Tryz.ntmps57 rf ?_
 refine zR fun ds => ?_
 refine WS_new hF rf (y_box rf) (fun b1 => ?_)
 refine WS_new hF rf (y_box rf) (fun b2 => ?_)
 refine za (.bool _) hF ?_
 refine zP fun ds => ?_
 refine zD hF (y_fieldAddr rf fa92_0) ?_
 refine zD hF (y_fieldAddr rf fa24_0) ?_
 refine zD hF (y_load1 rf Tryz.isAgg22 (Mem.own1 1 rf rf)) ?_
 refine zD hF (y_len rf Tryz.runUnderlying22) ?_
 refine zD hF (y_fieldAddr rf fa47_0) ?_
 refine zD hF (y_load1 rf Tryz.isAgg3 (Mem.own1 0 rf rf)) ?_
 refine zD hF (y_fieldAddr rf fa47_1) ?_
 refine zD hF (y_load1 rf Tryz.isAgg3 (Mem.own1 0 rf rf)) ?_
 refine WS_newS hF rf (y_buildSliceL bs22_2_0_1 rf) (fun b3 => ?_)
 refine zD hF (y_callL rf rf Tryz.call52 (fun w hw => cin_any _ _ _ _ _ _ w dc (by first | exact Ints.one 0 rfl w hw | exact Ints.two 0 rfl w hw))) ?_
 refine zm (.bool _) hF ?_
 refine WS_split 15 rf (fun g1_10 => ?_) (fun g1_10 => ?_)
 ·
  try simp only [qz1, qz2, qz3, qz4, qz5, qz6, qz7, qz8] at g1_10
  refine zD hF (y_fieldAddr rf fa47_0) ?_
  refine zD hF (y_load1 rf Tryz.isAgg3 (Mem.own1 1 rf rf)) ?_
  refine zD hF (y_fieldAddr rf fa47_1) ?_
  refine zD hF (y_load1 rf Tryz.isAgg3 (Mem.own1 1 rf rf)) ?_
  refine zD hF (y_neq rf rf) ?_
  refine zD hF (zpk (.bool _)) ?_
  refine za (.bool _) hF ?_
  refine zN ?_
  refine W_ret ?_
  refine Fin_ret [.bool _] [] Tryz.results57 ⟨by rfl, trivial⟩ HSub.nil ?_
  show Value.bool _ = .bool (c.vldB p)
  unfold Cn.vldB
  simp [*]
 ·
  try simp only [qz1, qz2, qz3, qz4, qz5, qz6, qz7, qz8] at g1_10
  refine zno hF ?_
  refine zno hF ?_
  refine zno hF ?_
  refine zno hF ?_
  refine zno hF ?_
  refine zD hF (zpk (.bool _)) ?_
  refine za (.bool _) hF ?_
  refine zN ?_
  refine W_ret ?_
  refine Fin_ret [.bool _] [] Tryz.results57 ⟨by rfl, trivial⟩ HSub.nil ?_
  show Value.bool _ = .bool (c.vldB p)
  unfold Cn.vldB
  simp [*]
def Cn.pourR (c : Cn) (x : Co) (f t : Nat) : Value := .tuple #[.agg (if c.noB x f t then x else c.to x f t).cells.toArray, .bool (c.canB x f t)]
theorem Cn.pourR_no {c : Cn} {x : Co} {f t : Nat} (h : (f = 0 ∧ x.g f < c.room t - x.g t) ∨ (t = 0 ∧ c.room t - x.g t < x.g f)) : Value.tuple #[.agg x.cells.toArray, .bool false] = c.pourR x f t := by
 have hno : c.noB x f t = true := by
  unfold Cn.noB Cn.lack
  rcases h with ⟨h1, h2⟩ | ⟨h1, h2⟩
  ·rw [decide_eq_true h1, decide_eq_true h2]; rfl
  ·rw [decide_eq_true h1, decide_eq_true h2, Bool.true_and, Bool.or_true]
 unfold Cn.pourR Cn.canB
 rw [hno]; rfl
theorem Cn.pourR_go {c : Cn} {x : Co} {f t : Nat} (h : ¬ ((f = 0 ∧ x.g f < c.room t - x.g t) ∨ (t = 0 ∧ c.room t - x.g t < x.g f))) : Value.tuple #[.agg (c.to x f t).cells.toArray, .bool (decide (c.amt x f t > 0))] = c.pourR x f t := by
 have hno : c.noB x f t = false := by
  unfold Cn.noB Cn.lack
  rw [Bool.or_eq_false_iff, Bool.and_eq_false_iff, Bool.and_eq_false_iff]
  simp only [decide_eq_false_iff_not]
  omega
 unfold Cn.pourR Cn.canB
 rw [hno]; rfl
theorem bpour_any (c : Cn) (a1 : Option Addr) (p1 : Nat) (a2 : Option Addr) (p2 : Nat) (x : Co) (f t : Nat) (w : World) (hok : c.Ok) (hn : c.n ≤ 1000000) (hm : c.inn.length ≤ 1000000) (h1 : Ints w a1 c.n p1 c.sz) (h2 : Ints w a2 c.inn.length p2 c.inn) (hin : c.In x) (hf : f ≤ c.n) (ht : t ≤ c.n) (hft : f ≠ t) :
  Ct Tryz.prog 60 #[.agg #[.slice a1 c.n p1, .slice a2 c.inn.length p2, .int .i64 c.st], .agg x.cells.toArray, .agg #[.int .i64 (f : Int), .int .i64 (t : Int)]] w fun v _ => v = c.pourR x f t := by
 have hn3 := hok.n3
 obtain ⟨e1, hd1⟩ := x.drop (k := f) om0
 obtain ⟨e2, hd2⟩ := x.drop (k := t) om0
 have hl1 := hin.lo f om0
 have hl2 := hin.lo t om0
 have hh1 := hin.hi f hf
 have hh2 := hin.hi t ht
 have hr : ∀ k, k ≤ c.n → 0 ≤ c.room k ∧ c.room k ≤ 600 := fun k hk => by
  cases k with
  | zero => exact ⟨by show (0 : Int) ≤ 600; omega, by show (600 : Int) ≤ 600; omega⟩
  | succ k => have := hok.s k om0; exact ⟨by show 0 ≤ c.s k; omega, by show c.s k ≤ 600; omega⟩
 have hr1 := hr f hf
 have hr2 := hr t ht
 have hF := wide_wide
 refine Ct_start (args := [_, _, _]) Tryz.func60 rf Tryz.ntmps60 rf ?_
 refine zR fun ds => ?_
 refine WS_new hF rf (y_box rf) (fun b1 => ?_)
 refine WS_new hF rf (y_box rf) (fun b2 => ?_)
 refine WS_new hF rf (y_box rf) (fun b3 => ?_)
 refine WS_new hF rf (y_alloc Tryz.zeroValue106 rf) (fun b4 => ?_)
 refine za (.bool _) hF ?_
 refine zO ?_
 refine W_draw0 hF Tryzmixed [] dk0 (fun ds => ?_)
 refine P_det rf (Over_nil (y_fieldAddr rf fa47_0)) ?_
 refine P_det rf (Over_nil (y_load1 rf Tryz.isAgg3 (Mem.own1 1 rf rf))) ?_
 refine P_det rf (Over_nil (y_indexA (k := f) rf rf r1 d10 Tryz.runUnderlying106 Tryz.sizeOf3)) ?_
 refine P_det rf (Over_nil (y_load1 rf Tryz.isAgg3 (Mem.own (us := [.int .i64 (x.g f)]) 2 rf hd1))) ?_
 refine P_det rf (Over_nil (y_loadN rf Tryz.isAgg92 Tryz.sizeOf92 (Mem.own (us := [.slice _ _ _, .slice _ _ _, .int .i64 _]) 3 rf rf) rf)) ?_
 refine P_det rf (Over_nil (y_fieldAddr rf fa47_1)) ?_
 refine P_det rf (Over_nil (y_load1 rf Tryz.isAgg3 (Mem.own1 1 rf rf))) ?_
 refine P_det rf (Over_nil (y_callL rf rf Tryz.call59 (fun w hw => broom_any c a1 p1 a2 p2 t w hn hm (h1.st w hw) (h2.st w hw) ht))) ?_
 refine P_det rf (Over_nil (y_fieldAddr rf fa47_1)) ?_
 refine P_det rf (Over_nil (y_load1 rf Tryz.isAgg3 (Mem.own1 1 rf rf))) ?_
 refine P_det rf (Over_nil (y_indexA (k := t) rf rf r1 d10 Tryz.runUnderlying106 Tryz.sizeOf3)) ?_
 refine P_det rf (Over_nil (y_load1 rf Tryz.isAgg3 (Mem.own (us := [.int .i64 (x.g t)]) 2 rf hd2))) ?_
 refine P_det rf (Over_nil (y_sub rf rf ui)) ?_
 refine P_det rf (Over_nil (y_assign (c := .int .i64 _) rf)) ?_
 refine P_det rf (Over_nil (y_assign (c := .int .i64 _) rf)) ?_
 refine PW_end rf ?_
 refine OverAll_nil ?_
 rintro -
 refine Then_normal ?_
 refine W_seq ?_
 refine W_block ?_
 refine W_seq ?_
 refine zR fun ds => ?_
 refine zD hF (y_fieldAddr rf fa47_0) ?_
 refine zD hF (y_load1 rf Tryz.isAgg3 (Mem.own1 1 rf rf)) ?_
 refine zD hF (y_eql rf rf) ?_
 refine zm (.bool _) hF ?_
 refine WS_split 27 rf (fun g2_3 => ?_) (fun g2_3 => ?_)
 ·
  try simp only [qz1, qz2, qz3, qz4, qz5, qz6, qz7, qz8] at g2_3
  refine zm (.int .i64 _) hF ?_
  refine zm (.int .i64 _) hF ?_
  refine zD hF (y_lss rf rf) ?_
  refine zD hF (zpk (.bool _)) ?_
  refine za (.bool _) hF ?_
  refine zN ?_
  refine W_cond rf (fun c2 => ?_) (fun c2 => ?_)
  ·
   try simp only [qz1, qz2, qz3, qz4, qz5, qz6, qz7, qz8] at c2
   refine zU ?_
   refine W_cond rf (fun c2 => ?_) (fun c2 => ?_)
   ·
    try simp only [qz1, qz2, qz3, qz4, qz5, qz6, qz7, qz8] at c2
    refine zR fun ds => ?_
    refine zD hF (y_loadN rf Tryz.isAgg106 Tryz.sizeOf106 (Mem.own (us := [.int .i64 _, .int .i64 _, .int .i64 _, .int .i64 _]) 2 rf rf) rf) ?_
    refine WS_store hF (us := [.int .i64 _, .int .i64 _, .int .i64 _, .int .i64 _]) (i := 0) rf rf Tryz.sizeOf106 rf rf rf d20 ?_
    refine za (.bool _) hF ?_
    refine zN ?_
    refine W_ret ?_
    refine InB_ret ?_
    refine Then_ret ?_
    refine Fin_ret [_, .bool _] [] Tryz.results60 ⟨lvN rf Tryz.isAgg106 Tryz.sizeOf106 (Mem.own (us := [.int .i64 _, .int .i64 _, .int .i64 _, .int .i64 _]) 0 rf rf) rf, by rfl, trivial⟩ HSub.nil ?_
    first
     | exact Cn.pourR_no om0
     | exact Cn.pourR_go om0
   ·
    try simp only [qz1, qz2, qz3, qz4, qz5, qz6, qz7, qz8] at c2
    refine W_skip ?_
    refine InB_normal ?_
    refine zS fun ds => ?_
    refine zm (.int .i64 _) hF ?_
    refine zm (.int .i64 _) hF ?_
    refine zD hF (y_min rf rf) ?_
    refine za (.int .i64 _) hF ?_
    refine zP fun ds => ?_
    refine zD hF (y_fieldAddr rf fa47_0) ?_
    refine zD hF (y_load1 rf Tryz.isAgg3 (Mem.own1 1 rf rf)) ?_
    refine zD hF (y_indexA (k := f) rf rf r1 d10 Tryz.runUnderlying106 Tryz.sizeOf3) ?_
    refine zD hF (y_load1 rf Tryz.isAgg3 (Mem.own (us := [.int .i64 (x.g f)]) 2 rf hd1)) ?_
    refine zm (.int .i64 _) hF ?_
    refine zD hF (y_sub rf rf ui) ?_
    refine zD hF (y_indexA (k := f) rf rf r1 d10 Tryz.runUnderlying106 Tryz.sizeOf3) ?_
    refine WS_store hF (us := [.int .i64 _]) (i := 2) rf rf Tryz.sizeOf3 rf rf rf (by show 0 + f * 1 + 1 ≤ 4; omega) ?_
    refine zO ?_
    rw [Co.splice x _ (k := f) om0]
    obtain ⟨e3, hd3⟩ := (x.w f (x.g f - c.amt x f t)).drop (k := t) om0
    rw [Co.g_w _ _ om0 om0, if_neg (Ne.symm hft)] at hd3
    refine W_region_lit (fun ds => ?_)
    refine zD hF (y_fieldAddr rf fa47_1) ?_
    refine zD hF (y_load1 rf Tryz.isAgg3 (Mem.own1 1 rf rf)) ?_
    refine zD hF (y_indexA (k := t) rf rf r1 d10 Tryz.runUnderlying106 Tryz.sizeOf3) ?_
    refine zD hF (y_load1 rf Tryz.isAgg3 (Mem.own (us := [.int .i64 (x.g t)]) 2 rf hd3)) ?_
    refine zm (.int .i64 _) hF ?_
    refine zD hF (y_add rf rf ui) ?_
    refine zD hF (y_indexA (k := t) rf rf r1 d10 Tryz.runUnderlying106 Tryz.sizeOf3) ?_
    refine WS_store hF (us := [.int .i64 _]) (i := 2) rf rf Tryz.sizeOf3 rf rf rf (by show 0 + t * 1 + 1 ≤ 4; omega) ?_
    refine zO ?_
    rw [Co.splice _ _ (k := t) om0]
    refine W_region_lit (fun ds => ?_)
    refine zD hF (y_loadN rf Tryz.isAgg106 Tryz.sizeOf106 (Mem.own (us := [.int .i64 _, .int .i64 _, .int .i64 _, .int .i64 _]) 2 rf rf) rf) ?_
    refine zm (.int .i64 _) hF ?_
    refine zD hF (y_gtr rf rf) ?_
    refine WS_store hF (us := [.int .i64 _, .int .i64 _, .int .i64 _, .int .i64 _]) (i := 0) rf rf Tryz.sizeOf106 rf rf rf d20 ?_
    refine za (.bool _) hF ?_
    refine zN ?_
    refine W_ret ?_
    refine Fin_ret [_, .bool _] [] Tryz.results60 ⟨lvN rf Tryz.isAgg106 Tryz.sizeOf106 (Mem.own (us := [.int .i64 _, .int .i64 _, .int .i64 _, .int .i64 _]) 0 rf rf) rf, by rfl, trivial⟩ HSub.nil ?_
    first
     | exact Cn.pourR_no om0
     | exact Cn.pourR_go om0
  ·
   try simp only [qz1, qz2, qz3, qz4, qz5, qz6, qz7, qz8] at c2
   refine W_region_lit (fun ds => ?_)
   refine zD hF (y_fieldAddr rf fa47_1) ?_
   refine zD hF (y_load1 rf Tryz.isAgg3 (Mem.own1 1 rf rf)) ?_
   refine zD hF (y_eql rf rf) ?_
   refine zm (.bool _) hF ?_
   refine WS_split 35 rf (fun g3_3 => ?_) (fun g3_3 => ?_)
   ·
    try simp only [qz1, qz2, qz3, qz4, qz5, qz6, qz7, qz8] at g3_3
    refine zm (.int .i64 _) hF ?_
    refine zm (.int .i64 _) hF ?_
    refine zD hF (y_gtr rf rf) ?_
    refine zD hF (zpk (.bool _)) ?_
    refine za (.bool _) hF ?_
    refine zN ?_
    refine W_cond rf (fun c3 => ?_) (fun c3 => ?_)
    ·
     try simp only [qz1, qz2, qz3, qz4, qz5, qz6, qz7, qz8] at c3
     refine zR fun ds => ?_
     refine zD hF (y_loadN rf Tryz.isAgg106 Tryz.sizeOf106 (Mem.own (us := [.int .i64 _, .int .i64 _, .int .i64 _, .int .i64 _]) 2 rf rf) rf) ?_
     refine WS_store hF (us := [.int .i64 _, .int .i64 _, .int .i64 _, .int .i64 _]) (i := 0) rf rf Tryz.sizeOf106 rf rf rf d20 ?_
     refine za (.bool _) hF ?_
     refine zN ?_
     refine W_ret ?_
     refine InB_ret ?_
     refine Then_ret ?_
     refine Fin_ret [_, .bool _] [] Tryz.results60 ⟨lvN rf Tryz.isAgg106 Tryz.sizeOf106 (Mem.own (us := [.int .i64 _, .int .i64 _, .int .i64 _, .int .i64 _]) 0 rf rf) rf, by rfl, trivial⟩ HSub.nil ?_
     first
      | exact Cn.pourR_no om0
      | exact Cn.pourR_go om0
    ·
     try simp only [qz1, qz2, qz3, qz4, qz5, qz6, qz7, qz8] at c3
     refine W_skip ?_
     refine InB_normal ?_
     refine zS fun ds => ?_
     refine zm (.int .i64 _) hF ?_
     refine zm (.int .i64 _) hF ?_
     refine zD hF (y_min rf rf) ?_
     refine za (.int .i64 _) hF ?_
     refine zP fun ds => ?_
     refine zD hF (y_fieldAddr rf fa47_0) ?_
     refine zD hF (y_load1 rf Tryz.isAgg3 (Mem.own1 1 rf rf)) ?_
     refine zD hF (y_indexA (k := f) rf rf r1 d10 Tryz.runUnderlying106 Tryz.sizeOf3) ?_
     refine zD hF (y_load1 rf Tryz.isAgg3 (Mem.own (us := [.int .i64 (x.g f)]) 2 rf hd1)) ?_
     refine zm (.int .i64 _) hF ?_
     refine zD hF (y_sub rf rf ui) ?_
     refine zD hF (y_indexA (k := f) rf rf r1 d10 Tryz.runUnderlying106 Tryz.sizeOf3) ?_
     refine WS_store hF (us := [.int .i64 _]) (i := 2) rf rf Tryz.sizeOf3 rf rf rf (by show 0 + f * 1 + 1 ≤ 4; omega) ?_
     refine zO ?_
     rw [Co.splice x _ (k := f) om0]
     obtain ⟨e3, hd3⟩ := (x.w f (x.g f - c.amt x f t)).drop (k := t) om0
     rw [Co.g_w _ _ om0 om0, if_neg (Ne.symm hft)] at hd3
     refine W_region_lit (fun ds => ?_)
     refine zD hF (y_fieldAddr rf fa47_1) ?_
     refine zD hF (y_load1 rf Tryz.isAgg3 (Mem.own1 1 rf rf)) ?_
     refine zD hF (y_indexA (k := t) rf rf r1 d10 Tryz.runUnderlying106 Tryz.sizeOf3) ?_
     refine zD hF (y_load1 rf Tryz.isAgg3 (Mem.own (us := [.int .i64 (x.g t)]) 2 rf hd3)) ?_
     refine zm (.int .i64 _) hF ?_
     refine zD hF (y_add rf rf ui) ?_
     refine zD hF (y_indexA (k := t) rf rf r1 d10 Tryz.runUnderlying106 Tryz.sizeOf3) ?_
     refine WS_store hF (us := [.int .i64 _]) (i := 2) rf rf Tryz.sizeOf3 rf rf rf (by show 0 + t * 1 + 1 ≤ 4; omega) ?_
     refine zO ?_
     rw [Co.splice _ _ (k := t) om0]
     refine W_region_lit (fun ds => ?_)
     refine zD hF (y_loadN rf Tryz.isAgg106 Tryz.sizeOf106 (Mem.own (us := [.int .i64 _, .int .i64 _, .int .i64 _, .int .i64 _]) 2 rf rf) rf) ?_
     refine zm (.int .i64 _) hF ?_
     refine zD hF (y_gtr rf rf) ?_
     refine WS_store hF (us := [.int .i64 _, .int .i64 _, .int .i64 _, .int .i64 _]) (i := 0) rf rf Tryz.sizeOf106 rf rf rf d20 ?_
     refine za (.bool _) hF ?_
     refine zN ?_
     refine W_ret ?_
     refine Fin_ret [_, .bool _] [] Tryz.results60 ⟨lvN rf Tryz.isAgg106 Tryz.sizeOf106 (Mem.own (us := [.int .i64 _, .int .i64 _, .int .i64 _, .int .i64 _]) 0 rf rf) rf, by rfl, trivial⟩ HSub.nil ?_
     first
      | exact Cn.pourR_no om0
      | exact Cn.pourR_go om0
   ·
    try simp only [qz1, qz2, qz3, qz4, qz5, qz6, qz7, qz8] at g3_3
    refine zno hF ?_
    refine zno hF ?_
    refine zno hF ?_
    refine zD hF (zpk (.bool _)) ?_
    refine za (.bool _) hF ?_
    refine zN ?_
    refine W_cond rf (fun c3 => ?_) (fun c3 => ?_)
    ·cases c3
    ·
     try simp only [qz1, qz2, qz3, qz4, qz5, qz6, qz7, qz8] at c3
     refine W_skip ?_
     refine InB_normal ?_
     refine zS fun ds => ?_
     refine zm (.int .i64 _) hF ?_
     refine zm (.int .i64 _) hF ?_
     refine zD hF (y_min rf rf) ?_
     refine za (.int .i64 _) hF ?_
     refine zP fun ds => ?_
     refine zD hF (y_fieldAddr rf fa47_0) ?_
     refine zD hF (y_load1 rf Tryz.isAgg3 (Mem.own1 1 rf rf)) ?_
     refine zD hF (y_indexA (k := f) rf rf r1 d10 Tryz.runUnderlying106 Tryz.sizeOf3) ?_
     refine zD hF (y_load1 rf Tryz.isAgg3 (Mem.own (us := [.int .i64 (x.g f)]) 2 rf hd1)) ?_
     refine zm (.int .i64 _) hF ?_
     refine zD hF (y_sub rf rf ui) ?_
     refine zD hF (y_indexA (k := f) rf rf r1 d10 Tryz.runUnderlying106 Tryz.sizeOf3) ?_
     refine WS_store hF (us := [.int .i64 _]) (i := 2) rf rf Tryz.sizeOf3 rf rf rf (by show 0 + f * 1 + 1 ≤ 4; omega) ?_
     refine zO ?_
     rw [Co.splice x _ (k := f) om0]
     obtain ⟨e3, hd3⟩ := (x.w f (x.g f - c.amt x f t)).drop (k := t) om0
     rw [Co.g_w _ _ om0 om0, if_neg (Ne.symm hft)] at hd3
     refine W_region_lit (fun ds => ?_)
     refine zD hF (y_fieldAddr rf fa47_1) ?_
     refine zD hF (y_load1 rf Tryz.isAgg3 (Mem.own1 1 rf rf)) ?_
     refine zD hF (y_indexA (k := t) rf rf r1 d10 Tryz.runUnderlying106 Tryz.sizeOf3) ?_
     refine zD hF (y_load1 rf Tryz.isAgg3 (Mem.own (us := [.int .i64 (x.g t)]) 2 rf hd3)) ?_
     refine zm (.int .i64 _) hF ?_
     refine zD hF (y_add rf rf ui) ?_
     refine zD hF (y_indexA (k := t) rf rf r1 d10 Tryz.runUnderlying106 Tryz.sizeOf3) ?_
     refine WS_store hF (us := [.int .i64 _]) (i := 2) rf rf Tryz.sizeOf3 rf rf rf (by show 0 + t * 1 + 1 ≤ 4; omega) ?_
     refine zO ?_
     rw [Co.splice _ _ (k := t) om0]
     refine W_region_lit (fun ds => ?_)
     refine zD hF (y_loadN rf Tryz.isAgg106 Tryz.sizeOf106 (Mem.own (us := [.int .i64 _, .int .i64 _, .int .i64 _, .int .i64 _]) 2 rf rf) rf) ?_
     refine zm (.int .i64 _) hF ?_
     refine zD hF (y_gtr rf rf) ?_
     refine WS_store hF (us := [.int .i64 _, .int .i64 _, .int .i64 _, .int .i64 _]) (i := 0) rf rf Tryz.sizeOf106 rf rf rf d20 ?_
     refine za (.bool _) hF ?_
     refine zN ?_
     refine W_ret ?_
     refine Fin_ret [_, .bool _] [] Tryz.results60 ⟨lvN rf Tryz.isAgg106 Tryz.sizeOf106 (Mem.own (us := [.int .i64 _, .int .i64 _, .int .i64 _, .int .i64 _]) 0 rf rf) rf, by rfl, trivial⟩ HSub.nil ?_
     first
      | exact Cn.pourR_no om0
      | exact Cn.pourR_go om0
 ·
  try simp only [qz1, qz2, qz3, qz4, qz5, qz6, qz7, qz8] at g2_3
  refine zno hF ?_
  refine zno hF ?_
  refine zno hF ?_
  refine zD hF (zpk (.bool _)) ?_
  refine za (.bool _) hF ?_
  refine zN ?_
  refine W_cond rf (fun c2 => ?_) (fun c2 => ?_)
  ·cases c2
  ·
   try simp only [qz1, qz2, qz3, qz4, qz5, qz6, qz7, qz8] at c2
   refine W_region_lit (fun ds => ?_)
   refine zD hF (y_fieldAddr rf fa47_1) ?_
   refine zD hF (y_load1 rf Tryz.isAgg3 (Mem.own1 1 rf rf)) ?_
   refine zD hF (y_eql rf rf) ?_
   refine zm (.bool _) hF ?_
   refine WS_split 35 rf (fun g3_3 => ?_) (fun g3_3 => ?_)
   ·
    try simp only [qz1, qz2, qz3, qz4, qz5, qz6, qz7, qz8] at g3_3
    refine zm (.int .i64 _) hF ?_
    refine zm (.int .i64 _) hF ?_
    refine zD hF (y_gtr rf rf) ?_
    refine zD hF (zpk (.bool _)) ?_
    refine za (.bool _) hF ?_
    refine zN ?_
    refine W_cond rf (fun c3 => ?_) (fun c3 => ?_)
    ·
     try simp only [qz1, qz2, qz3, qz4, qz5, qz6, qz7, qz8] at c3
     refine zR fun ds => ?_
     refine zD hF (y_loadN rf Tryz.isAgg106 Tryz.sizeOf106 (Mem.own (us := [.int .i64 _, .int .i64 _, .int .i64 _, .int .i64 _]) 2 rf rf) rf) ?_
     refine WS_store hF (us := [.int .i64 _, .int .i64 _, .int .i64 _, .int .i64 _]) (i := 0) rf rf Tryz.sizeOf106 rf rf rf d20 ?_
     refine za (.bool _) hF ?_
     refine zN ?_
     refine W_ret ?_
     refine InB_ret ?_
     refine Then_ret ?_
     refine Fin_ret [_, .bool _] [] Tryz.results60 ⟨lvN rf Tryz.isAgg106 Tryz.sizeOf106 (Mem.own (us := [.int .i64 _, .int .i64 _, .int .i64 _, .int .i64 _]) 0 rf rf) rf, by rfl, trivial⟩ HSub.nil ?_
     first
      | exact Cn.pourR_no om0
      | exact Cn.pourR_go om0
    ·
     try simp only [qz1, qz2, qz3, qz4, qz5, qz6, qz7, qz8] at c3
     refine W_skip ?_
     refine InB_normal ?_
     refine zS fun ds => ?_
     refine zm (.int .i64 _) hF ?_
     refine zm (.int .i64 _) hF ?_
     refine zD hF (y_min rf rf) ?_
     refine za (.int .i64 _) hF ?_
     refine zP fun ds => ?_
     refine zD hF (y_fieldAddr rf fa47_0) ?_
     refine zD hF (y_load1 rf Tryz.isAgg3 (Mem.own1 1 rf rf)) ?_
     refine zD hF (y_indexA (k := f) rf rf r1 d10 Tryz.runUnderlying106 Tryz.sizeOf3) ?_
     refine zD hF (y_load1 rf Tryz.isAgg3 (Mem.own (us := [.int .i64 (x.g f)]) 2 rf hd1)) ?_
     refine zm (.int .i64 _) hF ?_
     refine zD hF (y_sub rf rf ui) ?_
     refine zD hF (y_indexA (k := f) rf rf r1 d10 Tryz.runUnderlying106 Tryz.sizeOf3) ?_
     refine WS_store hF (us := [.int .i64 _]) (i := 2) rf rf Tryz.sizeOf3 rf rf rf (by show 0 + f * 1 + 1 ≤ 4; omega) ?_
     refine zO ?_
     rw [Co.splice x _ (k := f) om0]
     obtain ⟨e3, hd3⟩ := (x.w f (x.g f - c.amt x f t)).drop (k := t) om0
     rw [Co.g_w _ _ om0 om0, if_neg (Ne.symm hft)] at hd3
     refine W_region_lit (fun ds => ?_)
     refine zD hF (y_fieldAddr rf fa47_1) ?_
     refine zD hF (y_load1 rf Tryz.isAgg3 (Mem.own1 1 rf rf)) ?_
     refine zD hF (y_indexA (k := t) rf rf r1 d10 Tryz.runUnderlying106 Tryz.sizeOf3) ?_
     refine zD hF (y_load1 rf Tryz.isAgg3 (Mem.own (us := [.int .i64 (x.g t)]) 2 rf hd3)) ?_
     refine zm (.int .i64 _) hF ?_
     refine zD hF (y_add rf rf ui) ?_
     refine zD hF (y_indexA (k := t) rf rf r1 d10 Tryz.runUnderlying106 Tryz.sizeOf3) ?_
     refine WS_store hF (us := [.int .i64 _]) (i := 2) rf rf Tryz.sizeOf3 rf rf rf (by show 0 + t * 1 + 1 ≤ 4; omega) ?_
     refine zO ?_
     rw [Co.splice _ _ (k := t) om0]
     refine W_region_lit (fun ds => ?_)
     refine zD hF (y_loadN rf Tryz.isAgg106 Tryz.sizeOf106 (Mem.own (us := [.int .i64 _, .int .i64 _, .int .i64 _, .int .i64 _]) 2 rf rf) rf) ?_
     refine zm (.int .i64 _) hF ?_
     refine zD hF (y_gtr rf rf) ?_
     refine WS_store hF (us := [.int .i64 _, .int .i64 _, .int .i64 _, .int .i64 _]) (i := 0) rf rf Tryz.sizeOf106 rf rf rf d20 ?_
     refine za (.bool _) hF ?_
     refine zN ?_
     refine W_ret ?_
     refine Fin_ret [_, .bool _] [] Tryz.results60 ⟨lvN rf Tryz.isAgg106 Tryz.sizeOf106 (Mem.own (us := [.int .i64 _, .int .i64 _, .int .i64 _, .int .i64 _]) 0 rf rf) rf, by rfl, trivial⟩ HSub.nil ?_
     first
      | exact Cn.pourR_no om0
      | exact Cn.pourR_go om0
   ·
    try simp only [qz1, qz2, qz3, qz4, qz5, qz6, qz7, qz8] at g3_3
    refine zno hF ?_
    refine zno hF ?_
    refine zno hF ?_
    refine zD hF (zpk (.bool _)) ?_
    refine za (.bool _) hF ?_
    refine zN ?_
    refine W_cond rf (fun c3 => ?_) (fun c3 => ?_)
    ·cases c3
    ·
     try simp only [qz1, qz2, qz3, qz4, qz5, qz6, qz7, qz8] at c3
     refine W_skip ?_
     refine InB_normal ?_
     refine zS fun ds => ?_
     refine zm (.int .i64 _) hF ?_
     refine zm (.int .i64 _) hF ?_
     refine zD hF (y_min rf rf) ?_
     refine za (.int .i64 _) hF ?_
     refine zP fun ds => ?_
     refine zD hF (y_fieldAddr rf fa47_0) ?_
     refine zD hF (y_load1 rf Tryz.isAgg3 (Mem.own1 1 rf rf)) ?_
     refine zD hF (y_indexA (k := f) rf rf r1 d10 Tryz.runUnderlying106 Tryz.sizeOf3) ?_
     refine zD hF (y_load1 rf Tryz.isAgg3 (Mem.own (us := [.int .i64 (x.g f)]) 2 rf hd1)) ?_
     refine zm (.int .i64 _) hF ?_
     refine zD hF (y_sub rf rf ui) ?_
     refine zD hF (y_indexA (k := f) rf rf r1 d10 Tryz.runUnderlying106 Tryz.sizeOf3) ?_
     refine WS_store hF (us := [.int .i64 _]) (i := 2) rf rf Tryz.sizeOf3 rf rf rf (by show 0 + f * 1 + 1 ≤ 4; omega) ?_
     refine zO ?_
     rw [Co.splice x _ (k := f) om0]
     obtain ⟨e3, hd3⟩ := (x.w f (x.g f - c.amt x f t)).drop (k := t) om0
     rw [Co.g_w _ _ om0 om0, if_neg (Ne.symm hft)] at hd3
     refine W_region_lit (fun ds => ?_)
     refine zD hF (y_fieldAddr rf fa47_1) ?_
     refine zD hF (y_load1 rf Tryz.isAgg3 (Mem.own1 1 rf rf)) ?_
     refine zD hF (y_indexA (k := t) rf rf r1 d10 Tryz.runUnderlying106 Tryz.sizeOf3) ?_
     refine zD hF (y_load1 rf Tryz.isAgg3 (Mem.own (us := [.int .i64 (x.g t)]) 2 rf hd3)) ?_
     refine zm (.int .i64 _) hF ?_
     refine zD hF (y_add rf rf ui) ?_
     refine zD hF (y_indexA (k := t) rf rf r1 d10 Tryz.runUnderlying106 Tryz.sizeOf3) ?_
     refine WS_store hF (us := [.int .i64 _]) (i := 2) rf rf Tryz.sizeOf3 rf rf rf (by show 0 + t * 1 + 1 ≤ 4; omega) ?_
     refine zO ?_
     rw [Co.splice _ _ (k := t) om0]
     refine W_region_lit (fun ds => ?_)
     refine zD hF (y_loadN rf Tryz.isAgg106 Tryz.sizeOf106 (Mem.own (us := [.int .i64 _, .int .i64 _, .int .i64 _, .int .i64 _]) 2 rf rf) rf) ?_
     refine zm (.int .i64 _) hF ?_
     refine zD hF (y_gtr rf rf) ?_
     refine WS_store hF (us := [.int .i64 _, .int .i64 _, .int .i64 _, .int .i64 _]) (i := 0) rf rf Tryz.sizeOf106 rf rf rf d20 ?_
     refine za (.bool _) hF ?_
     refine zN ?_
     refine W_ret ?_
     refine Fin_ret [_, .bool _] [] Tryz.results60 ⟨lvN rf Tryz.isAgg106 Tryz.sizeOf106 (Mem.own (us := [.int .i64 _, .int .i64 _, .int .i64 _, .int .i64 _]) 0 rf rf) rf, by rfl, trivial⟩ HSub.nil ?_
     first
      | exact Cn.pourR_no om0
      | exact Cn.pourR_go om0
theorem bd106_0 {x0 : Int} : ∀ w, (Instr.build 106 #[(0, .int .i64 x0)]).run Tryz.prog w = .ok (.agg #[.int .i64 x0, .int .i64 0, .int .i64 0, .int .i64 0]) w := fun w => by kernel_rfl
theorem bd24  : ∀ w, (Instr.build 24 #[]).run Tryz.prog w = .ok (.agg #[.slice none 0 0, .slice none 0 0, .int .i64 0]) w := fun w => by kernel_rfl
theorem bd92_0 {x0_0a : Option Addr} {x0_0l x0_0c : Nat} {x0_1a : Option Addr} {x0_1l x0_1c : Nat} {x0_2 : Int} : ∀ w, (Instr.build 92 #[(0, .agg #[.slice x0_0a x0_0l x0_0c, .slice x0_1a x0_1l x0_1c, .int .i64 x0_2])]).run Tryz.prog w = .ok (.agg #[.slice x0_0a x0_0l x0_0c, .slice x0_1a x0_1l x0_1c, .int .i64 x0_2]) w := fun w => by kernel_rfl
theorem cloneN_any (ta : Option Addr) (tn tcap : Nat) (D : List Int) (w : World) (htn : tn ≤ 1000000) (hD : Ints w ta tn tcap D) :
  Ct Tryz.prog 72 #[.slice ta tn tcap] w fun v Hn => ∃ a' cap', v = .slice a' tn cap' ∧ NewRow 3 1 tn (iv D) (.slice a' tn cap') Hn := by
 have hlen : (iv D).length = tn * 1 := by rw [Nat.mul_one]; exact (List.length_map _).trans hD.len
 have hF := wide_wide
 refine Ct_start (args := [_]) Tryz.func72 rf Tryz.ntmps72 rf ?_
 refine zR fun ds => ?_
 refine za (.slice _ _ _) hF ?_
 refine zO ?_
 refine zR fun ds => ?_
 refine zm (.slice _ _ _) hF ?_
 refine zD hF (y_eqlNil rf rf Tryz.runUnderlying22) ?_
 refine zN ?_
 refine W_cond rf (fun c1 => ?_) (fun c1 => ?_)
 ·
  try simp only [qz1, qz2, qz3, qz4, qz5, qz6, qz7, qz8] at c1
  obtain rfl : ta = none := Option.isNone_iff_eq_none.1 c1
  have h0 : tn = 0 := by
   cases tn with
   | zero => rfl
   | succ n => obtain ⟨b, o, h, _⟩ := hD.cell 0 (Nat.zero_lt_succ n); cases h
  subst h0
  refine zR fun ds => ?_
  refine za (.slice _ _ _) hF ?_
  refine zN ?_
  refine W_ret ?_
  refine Then_ret ?_
  refine Fin_ret [.slice _ _ _] [] Tryz.results72 ⟨by rfl, trivial⟩ HSub.nil ?_
  exact ⟨none, 0, rfl, none, 0, rfl, Nat.le_refl _, .inr ⟨rfl, rfl, rfl⟩⟩
 ·
  try simp only [qz1, qz2, qz3, qz4, qz5, qz6, qz7, qz8] at c1
  refine W_skip ?_
  refine zS fun ds => ?_
  refine WS_newS hF rf (y_buildSliceL bs22_0 rf) (fun b1 => ?_)
  refine zm (.slice _ _ _) hF ?_
  refine WS_gen hF rf (y_append0 rf rf Tryz.underlying22 infInt rf hD.src hlen om0 om0) ?_
  rintro _ Hc hrow
  have hrow2 := hrow
  obtain ⟨a', cap', rfl, _⟩ := hrow2
  refine za (.slice _ _ _) hF ?_
  refine zN ?_
  refine W_ret ?_
  refine Fin_ret [.slice _ _ _] Hc Tryz.results72 ⟨by rfl, trivial⟩ (HSub.sub sbA) ?_
  exact ⟨_, _, rfl, hrow⟩
theorem co_splice (c : Cn) (h : c.inn.length ≤ 3) : splice [.int .i64 c.st, .int .i64 0, .int .i64 0, .int .i64 0] (0 + 1 * 1) (iv c.inn) = c.co.cells := by
 obtain ⟨s, i, t⟩ := c
 match i, h with
 | [], _ => rfl
 | [_], _ => rfl
 | [_, _], _ => rfl
 | [_, _, _], _ => rfl
 | _ :: _ :: _ :: _ :: _, h => simp only [List.length_cons] at h; omega
theorem iv_one (xs : List Int) : (iv xs).all Value.oneCell' = true := by
 unfold iv
 rw [List.all_eq_true]
 intro v hv
 obtain ⟨x, _, rfl⟩ := List.mem_map.1 hv
 rfl
theorem bstart_any (c : Cn) (a1 : Option Addr) (p1 : Nat) (a2 : Option Addr) (p2 : Nat) (w : World) (hok : c.Ok) (hn : c.n ≤ 1000000) (hm : c.inn.length ≤ 1000000) (h1 : Ints w a1 c.n p1 c.sz) (h2 : Ints w a2 c.inn.length p2 c.inn) : Ct Tryz.prog 58 #[.agg #[.slice a1 c.n p1, .slice a2 c.inn.length p2, .int .i64 c.st]] w fun v _ => v = .agg c.co.cells.toArray := by
 have hn3 := hok.n3
 have hlen := hok.len
 have hF := wide_wide
 refine Ct_start (args := [_]) Tryz.func58 rf Tryz.ntmps58 rf ?_
 refine zR fun ds => ?_
 refine WS_new hF rf (y_box rf) (fun b1 => ?_)
 refine WS_new hF rf (y_alloc Tryz.zeroValue106 rf) (fun b2 => ?_)
 refine zP fun ds => ?_
 refine zD hF (y_fieldAddr rf fa92_0) ?_
 refine zD hF (y_fieldAddr rf fa24_2) ?_
 refine zD hF (y_load1 rf Tryz.isAgg3 (Mem.own1 1 rf rf)) ?_
 refine zD hF (y_buildL bd106_0 rf) ?_
 refine WS_new hF rf (y_alloc Tryz.zeroValue106 rf) (fun bx => ?_)
 refine WS_store hF (us := [.int .i64 _, .int .i64 _, .int .i64 _, .int .i64 _]) (i := 0) rf rf Tryz.sizeOf106 rf rf rf d20 ?_
 refine zO ?_
 apply W_drawMT 4 hF Tryzmixed [] [] [] rf dk0 dc HSub.refl
 intro ds
 refine P_det rf (Over_nil (y_sliceA_lo (l := 1) (m := 4) rf rf rf dc Tryz.runUnderlying106 Tryz.sizeOf3)) ?_
 refine P_det rf (Over_nil (y_fieldAddr rf fa92_0)) ?_
 refine P_det rf (Over_nil (y_fieldAddr rf fa24_1)) ?_
 refine P_det rf (Over_nil (y_load1 rf Tryz.isAgg22 (Mem.own1 2 rf rf))) ?_
 refine PW_end rf ?_
 refine OverAll_nil ?_
 rintro -
 refine WS_copyS hF (i := 0) rf rf rf Tryz.runUnderlying22 Tryz.sizeOf3 h2.src (iv_len c.inn) om0 (iv_one _) rf (by rw [iv_len]; show 0 + 1 * 1 + _ ≤ 4; omega) ?_
 refine zO ?_
 rw [show splice (splice [.int .i64 0, .int .i64 0, .int .i64 0, .int .i64 0] 0 [.int .i64 c.st, .int .i64 0, .int .i64 0, .int .i64 0]) (0 + 1 * 1) (iv c.inn) = c.co.cells from co_splice c om0]
 refine W_region_lit (fun ds => ?_)
 refine zD hF (y_loadN rf Tryz.isAgg106 Tryz.sizeOf106 (Mem.own (us := [.int .i64 _, .int .i64 _, .int .i64 _, .int .i64 _]) 0 rf rf) rf) ?_
 refine WS_store hF (us := [.int .i64 _, .int .i64 _, .int .i64 _, .int .i64 _]) (i := 1) rf rf Tryz.sizeOf106 rf rf rf d20 ?_
 refine zN ?_
 refine W_ret ?_
 refine Fin_ret [_] [] Tryz.results58 ⟨lvN rf Tryz.isAgg106 Tryz.sizeOf106 (Mem.own (us := [.int .i64 _, .int .i64 _, .int .i64 _, .int .i64 _]) 1 rf rf) rf, trivial⟩ HSub.nil ?_
 rfl
theorem ints_of (c : Cn) (x : Co) (hn : c.n ≤ 3) {C : Ctx} {H : List Blk} {b T : Nat} (i : Nat) (hi : H[i]? = some (b, CB x.cells T)) (w : World) (hw : St C H w) : Ints w (some ⟨b, 1, none⟩) c.n 3 (c.of x).inn := by
 have hl := c.of_len x hn
 refine ⟨hl, hn, fun k hk => ⟨b, 1, rfl, ?_⟩⟩
 have := c.of_i x k hk hn
 unfold Cn.i at this
 rw [this]
 obtain ⟨rest, hd⟩ := x.drop (k := k + 1) om0
 rw [show 1 + k * 1 = 0 + (k + 1) * 1 by omega]
 rw [show 0 + (k + 1) * 1 = k + 1 by omega] at hd ⊢
 have hb := hw.get hi
 exact at_block (rest := rest) hb hd
theorem bcans_any (c : Cn) (a1 : Option Addr) (p1 : Nat) (a2 : Option Addr) (p2 : Nat) (x : Co) (w : World) (hok : c.Ok) (hn : c.n ≤ 1000000) (hm : c.inn.length ≤ 1000000) (h1 : Ints w a1 c.n p1 c.sz) (h2 : Ints w a2 c.inn.length p2 c.inn) : Ct Tryz.prog 64 #[.agg #[.slice a1 c.n p1, .slice a2 c.inn.length p2, .int .i64 c.st], .agg x.cells.toArray] w (TwinC (c.of x)) := by
 have hn3 := hok.n3
 have hF := wide_wide
 refine Ct_start (args := [_, _]) Tryz.func64 rf Tryz.ntmps64 rf ?_
 refine zR fun ds => ?_
 refine WS_new hF rf (y_box rf) (fun b1 => ?_)
 refine WS_new hF rf (y_box rf) (fun b2 => ?_)
 refine WS_new hF rf (y_alloc Tryz.zeroValue24 rf) (fun b3 => ?_)
 refine zO ?_
 apply W_draw1D hF Tryzmixed [1000000] 18 _ (i := 0) rf dk0
 intro ds
 refine P_det rf (Over_out rf (Over_nil (y_fieldAddr rf fa92_0))) ?_
 refine P_det rf (Over_out rf (Over_nil (y_fieldAddr rf fa24_0))) ?_
 refine P_det rf (Over_out rf (Over_nil (y_load1 rf Tryz.isAgg22 (Mem.own1 1 rf rf)))) ?_
 refine P_new rf rf (Over_out rf (Over_nil (y_callL rf rf Tryz.call72 (fun w hw => cloneN_any _ _ _ c.sz w hn (h1.st w hw))))) ?_
 refine P_det rf (Over_out rf (Over_out rf (Over_nil (y_fieldAddr rf fa92_0)))) ?_
 refine P_det rf (Over_out rf (Over_out rf (Over_nil (y_fieldAddr rf fa24_0)))) ?_
 refine P_det rf (Over_out rf (Over_out rf (Over_nil (y_load1 rf Tryz.isAgg22 (Mem.own1 1 rf rf))))) ?_
 refine P_det rf (Over_out rf (Over_out rf (Over_nil (y_len rf Tryz.runUnderlying22)))) ?_
 refine P_det rf (Over_out rf (Over_out rf (Over_nil (y_add rf rf ui)))) ?_
 refine P_det rf (Over_out rf (Over_out rf (Over_nil (YD_eq (y_sliceA_lohi (l := 1) (h := c.n + 1) (m := 4) rf rf rf rf om0 dc om0 om0 Tryz.runUnderlying106 Tryz.sizeOf3) (show Value.slice (some ⟨b2, 1, none⟩) (c.n + 1 - 1) 3 = .slice (some ⟨b2, 1, none⟩) c.n 3 by rw [Nat.add_sub_cancel]))))) ?_
 refine P_new rf rf (Over_out rf (Over_out rf (Over_nil (y_callL rf rf Tryz.call72 (fun w hw => cloneN_any _ _ _ (c.of x).inn w hn (ints_of c x hn3 0 rf w hw)))))) ?_
 refine P_det rf (Over_out rf (Over_out rf (Over_out rf (Over_nil (y_indexA (k := 0) rf rf r1 d10 Tryz.runUnderlying106 Tryz.sizeOf3))))) ?_
 refine P_det rf (Over_out rf (Over_out rf (Over_out rf (Over_nil (y_load1 rf Tryz.isAgg3 (Mem.own1 0 rf rf)))))) ?_
 refine P_ali [15, 8] (aggP [.inr 8, .inr 15, .inl _]) rf rf rf (aggP_congr rf) (Over_in rf (Over_in rf (Over_out rf (Over_nil (by intro vb6 l8 hb6; obtain ⟨z1, q1, rfl, hr1⟩ := hb6; intro vb7 l15 hb7; obtain ⟨z2, q2, rfl, hr2⟩ := hb7; exact (YD0_of (y_buildL bd24_0_1_2 rf))))))) ?_
 refine P_st 1000000 3 rf rf rf rf rf (Over_in rf (Over_in rf (Over_in rf (Over_nil (by intro vb9 l8 hb9; obtain ⟨z1, q1, rfl, hr1⟩ := hb9; intro vb10 l15 hb10; obtain ⟨z2, q2, rfl, hr2⟩ := hb10; rintro vb11 _ ⟨hvb11, rfl⟩; replace hvb11 : vb11 = .agg #[.slice _ _ _, .slice _ _ _, .int .i64 _] := hvb11; subst hvb11; exact (st_preD (fun _ => by rfl) rf rf Tryz.sizeOf24 rf rf d20)))))) ?_
 refine PW_end rf ?_
 refine OverAll_cons (fun w18 l18 => ?_)
 refine OverAll_cons (fun w15 l15 => ?_)
 refine OverAll_cons (fun w8 l8 => ?_)
 refine OverAll_cons (fun w1000000 l1000000 => ?_)
 refine OverAll_nil ?_
 rintro ⟨⟨⟨⟨-, h18⟩, h15⟩, h8⟩, h1000000⟩
 obtain ⟨z1, q1, rfl, hr1⟩ := h8
 obtain ⟨z2, q2, rfl, hr2⟩ := h15
 obtain ⟨h18, rfl⟩ := h18
 replace h18 : w18 = .agg #[.slice _ _ _, .slice _ _ _, .int .i64 _] := h18
 subst h18
 obtain rfl := h1000000
 refine Then_normal ?_
 refine W_ret ?_
 refine Fin_ret [_] (l8 ++ l15) Tryz.results64 ⟨lvN rf Tryz.isAgg24 Tryz.sizeOf24 (Mem.own (us := [.slice _ _ _, .slice _ _ _, .int .i64 _]) 0 rf rf) rf, trivial⟩ (HSub.sub sbA) ?_
 have hl := c.of_len x hn3
 refine ⟨z1, q1, z2, q2, l8, l15, ?_, hr1, by rw [hl]; exact hr2, rfl⟩
 rw [hl]; rfl
theorem Cn.err_iff {c : Cn} : c.err = 0 ↔ c.okB = true := by
 unfold Cn.err
 split
 ·rename_i h; simp [h]
 ·rename_i h; simp [h]
theorem Cn.err_no {c : Cn} (h : ¬ c.err = 0) : c.okB = false ∧ c.err = 80 := by
 rw [Cn.err_iff] at h
 have h' : c.okB = false := by simpa using h
 exact ⟨h', by unfold Cn.err; rw [h']; rfl⟩
theorem Cn.can_to {c : Cn} {x : Co} {f t : Nat} (h : c.canB x f t = true) : (if c.noB x f t then x else c.to x f t) = c.to x f t := by
 unfold Cn.canB at h
 rw [Bool.and_eq_true, Bool.not_eq_true'] at h
 rw [h.1]; rfl
theorem pour_any (c : Cn) (a1 : Option Addr) (p1 : Nat) (a2 : Option Addr) (p2 : Nat) (p : Po) (w : World) (hG : Gv w) (hn : c.n ≤ 1000000) (hm : c.inn.length ≤ 1000000) (h1 : Ints w a1 c.n p1 c.sz) (h2 : Ints w a2 c.inn.length p2 c.inn) : Ct Tryz.prog 38 #[.agg #[.slice a1 c.n p1, .slice a2 c.inn.length p2, .int .i64 c.st], .agg p.cells.toArray] w (PourV c p) := by
 obtain ⟨pf, pt⟩ := p
 have hF := wide_wide
 refine Ct_start (args := [_, _]) Tryz.func38 rf Tryz.ntmps38 rf ?_
 refine zR fun ds => ?_
 refine WS_new hF rf (y_box rf) (fun b1 => ?_)
 refine WS_new hF rf (y_box rf) (fun b2 => ?_)
 refine WS_new hF rf (y_alloc Tryz.zeroValue24 rf) (fun b3 => ?_)
 refine za (.int .i64 _) hF ?_
 refine zO ?_
 refine zR fun ds => ?_
 refine zD hF (y_loadN rf Tryz.isAgg24 Tryz.sizeOf24 (Mem.own (us := [.slice _ _ _, .slice _ _ _, .int .i64 _]) 2 rf rf) rf) ?_
 refine zD hF (y_callL rf rf Tryz.call47 (fun w hw => ccheck_any c a1 p1 a2 p2 w (hG.st w hw) hn hm (h1.st w hw) (h2.st w hw))) ?_
 refine za (.int .i64 _) hF ?_
 refine zP fun ds => ?_
 refine zm (.int .i64 _) hF ?_
 refine zD hF (y_neq rf rf) ?_
 refine zN ?_
 refine W_cond rf (fun c2 => ?_) (fun c2 => ?_)
 ·
  try simp only [qz1, qz2, qz3, qz4, qz5, qz6, qz7, qz8] at c2
  refine zR fun ds => ?_
  refine zD hF (y_buildL bd24 rf) ?_
  refine zm (.int .i64 _) hF ?_
  refine WS_store hF (us := [.slice _ _ _, .slice _ _ _, .int .i64 _]) (i := 0) rf rf Tryz.sizeOf24 rf rf rf d20 ?_
  refine za (.int .i64 _) hF ?_
  refine zN ?_
  refine W_ret ?_
  refine Then_ret ?_
  refine Fin_ret [_, .int .i64 _] [] Tryz.results38 ⟨lvN rf Tryz.isAgg24 Tryz.sizeOf24 (Mem.own (us := [.slice _ _ _, .slice _ _ _, .int .i64 _]) 0 rf rf) rf, by rfl, trivial⟩ HSub.nil ?_
  obtain ⟨h1, h2⟩ := Cn.err_no c2
  rw [h2]
  exact PourV.bad (Cn.poE_bad h1) dc
 ·
  try simp only [qz1, qz2, qz3, qz4, qz5, qz6, qz7, qz8] at c2
  have c1 := Cn.err_iff.1 c2
  have hok := Cn.ok_iff.1 c1
  have hn3 := hok.n3
  refine W_skip ?_
  refine zS fun ds => ?_
  refine zD hF (y_loadN rf Tryz.isAgg24 Tryz.sizeOf24 (Mem.own (us := [.slice _ _ _, .slice _ _ _, .int .i64 _]) 2 rf rf) rf) ?_
  refine zD hF (y_buildL bd92_0 rf) ?_
  refine WS_new hF rf (y_alloc Tryz.zeroValue92 rf) (fun b4 => ?_)
  refine WS_store hF (us := [.slice _ _ _, .slice _ _ _, .int .i64 _]) (i := 0) rf rf Tryz.sizeOf92 rf rf rf d20 ?_
  refine zO ?_
  refine zR fun ds => ?_
  refine zD hF (y_loadN rf Tryz.isAgg92 Tryz.sizeOf92 (Mem.own (us := [.slice _ _ _, .slice _ _ _, .int .i64 _]) 0 rf rf) rf) ?_
  refine zD hF (y_loadN rf Tryz.isAgg47 Tryz.sizeOf47 (Mem.own (us := [.int .i64 _, .int .i64 _]) 2 rf rf) rf) ?_
  refine zD hF (y_callL rf rf Tryz.call57 (fun w hw => bvalid_any c a1 p1 a2 p2 ⟨pf, pt⟩ w)) ?_
  refine zD hF (y_not rf) ?_
  refine zN ?_
  refine W_cond rf (fun c5 => ?_) (fun c5 => ?_)
  ·
   try simp only [qz1, qz2, qz3, qz4, qz5, qz6, qz7, qz8] at c5
   refine zR fun ds => ?_
   refine zD hF (y_buildL bd24 rf) ?_
   refine WS_store hF (us := [.slice _ _ _, .slice _ _ _, .int .i64 _]) (i := 1) rf rf Tryz.sizeOf24 rf rf rf d20 ?_
   refine za (.int .i64 _) hF ?_
   refine zN ?_
   refine W_ret ?_
   refine Then_ret ?_
   refine Fin_ret [_, .int .i64 _] [] Tryz.results38 ⟨lvN rf Tryz.isAgg24 Tryz.sizeOf24 (Mem.own (us := [.slice _ _ _, .slice _ _ _, .int .i64 _]) 1 rf rf) rf, by rfl, trivial⟩ HSub.nil ?_
   exact PourV.bad (Cn.poE_inv c1 c5) dc
  ·
   try simp only [qz1, qz2, qz3, qz4, qz5, qz6, qz7, qz8] at c5
   obtain ⟨⟨hf0, hf1⟩, ⟨ht0, ht1⟩, hne⟩ := Cn.vld_iff.1 c5
   simp only at hf0 hf1 ht0 ht1 hne
   obtain ⟨f, rfl⟩ := Int.eq_ofNat_of_zero_le hf0
   obtain ⟨t, rfl⟩ := Int.eq_ofNat_of_zero_le ht0
   have hf : f ≤ c.n := by omega
   have ht : t ≤ c.n := by omega
   have hft : f ≠ t := by omega
   refine zU ?_
   refine W_seq ?_
   refine W_draw0 hF Tryzmixed [8] dk0 (fun ds => ?_)
   refine P_det rf (Over_nil (y_loadN rf Tryz.isAgg92 Tryz.sizeOf92 (Mem.own (us := [.slice _ _ _, .slice _ _ _, .int .i64 _]) 0 rf rf) rf)) ?_
   refine P_det rf (Over_nil (y_loadN rf Tryz.isAgg92 Tryz.sizeOf92 (Mem.own (us := [.slice _ _ _, .slice _ _ _, .int .i64 _]) 0 rf rf) rf)) ?_
   refine P_det rf (Over_nil (y_callL rf rf Tryz.call58 (fun w hw => bstart_any c a1 p1 a2 p2 w hok hn hm (h1.st w hw) (h2.st w hw)))) ?_
   refine P_det rf (Over_nil (y_loadN rf Tryz.isAgg47 Tryz.sizeOf47 (Mem.own (us := [.int .i64 _, .int .i64 _]) 2 rf rf) rf)) ?_
   refine P_det rf (Over_nil (y_callL rf rf Tryz.call60 (fun w hw => bpour_any c a1 p1 a2 p2 c.co f t w hok hn hm (h1.st w hw) (h2.st w hw) hok.co_in hf ht hft))) ?_
   refine P_det rf (Over_nil (y_move (c := .tuple _) rf)) ?_
   refine P_det rf (Over_nil (y_extract (c := .agg _) rf rf)) ?_
   refine P_det rf (Over_nil (y_extract (c := .bool _) rf rf)) ?_
   apply P_newS _ rf rf rf (Over_nil (y_alloc Tryz.zeroValue106 rf))
   refine P_st 8 0 rf rf rf rf rf (Over_nil (st_new (fun _ => by rfl) Tryz.sizeOf106 rf rf d20)) ?_
   refine P_det rf (Over_out rf (Over_nil (y_assign (c := .bool _) rf))) ?_
   refine PW_end rf ?_
   refine OverAll_cons (fun w8 l8 => ?_)
   refine OverAll_nil ?_
   rintro ⟨-, h8⟩
   obtain ⟨b5, rfl, rfl⟩ := h8
   refine Then_normal ?_
   refine W_seq ?_
   refine zR fun ds => ?_
   refine zm (.bool _) hF ?_
   refine zD hF (y_not rf) ?_
   refine zN ?_
   refine W_cond rf (fun c8 => ?_) (fun c8 => ?_)
   ·
    try simp only [qz1, qz2, qz3, qz4, qz5, qz6, qz7, qz8] at c8
    refine zR fun ds => ?_
    refine zD hF (y_buildL bd24 rf) ?_
    refine WS_store hF (us := [.slice _ _ _, .slice _ _ _, .int .i64 _]) (i := 2) rf rf Tryz.sizeOf24 rf rf rf d20 ?_
    refine za (.int .i64 _) hF ?_
    refine zN ?_
    refine W_ret ?_
    refine Then_ret ?_
    refine Fin_ret [_, .int .i64 _] [] Tryz.results38 ⟨lvN rf Tryz.isAgg24 Tryz.sizeOf24 (Mem.own (us := [.slice _ _ _, .slice _ _ _, .int .i64 _]) 2 rf rf) rf, by rfl, trivial⟩ HSub.nil ?_
    exact PourV.bad (Cn.poE_no c1 c5 (by rw [c8]; simp)) dc
   ·
    try simp only [qz1, qz2, qz3, qz4, qz5, qz6, qz7, qz8] at c8
    rw [Cn.can_to c8]
    refine W_skip ?_
    refine zS fun ds => ?_
    refine zD hF (y_loadN rf Tryz.isAgg92 Tryz.sizeOf92 (Mem.own (us := [.slice _ _ _, .slice _ _ _, .int .i64 _]) 1 rf rf) rf) ?_
    refine zD hF (y_loadN rf Tryz.isAgg106 Tryz.sizeOf106 (Mem.own (us := [.int .i64 _, .int .i64 _, .int .i64 _, .int .i64 _]) 0 rf rf) rf) ?_
    refine WS_gen hF rf (y_callL rf rf Tryz.call64 (fun w hw => bcans_any c a1 p1 a2 p2 (c.to c.co f t) w hok hn hm (h1.st w hw) (h2.st w hw))) ?_
    rintro _ _ ⟨z1, q1, z2, q2, H1, H2, rfl, hr1, hr2, rfl⟩
    refine WS_back ?_
    refine WS_store hF (us := [.slice _ _ _, .slice _ _ _, .int .i64 _]) (i := 2) rf rf Tryz.sizeOf24 rf rf rf d20 ?_
    refine za (.int .i64 _) hF ?_
    refine zN ?_
    refine W_ret ?_
    refine Fin_ret [_, .int .i64 _] (H1 ++ H2) Tryz.results38 ⟨lvN rf Tryz.isAgg24 Tryz.sizeOf24 (Mem.own (us := [.slice _ _ _, .slice _ _ _, .int .i64 _]) 2 rf rf) rf, by rfl, trivial⟩ (HSub.sub sbA) ?_
    obtain ⟨h0, hC⟩ := Cn.poE_yes c1 c5 c8
    refine ⟨_, by rw [h0]; rfl, ?_⟩
    rw [hC]
    exact ⟨_, _, _, _, H1, H2, rfl, hr1, hr2, rfl⟩
theorem bpourP_any (c : Cn) (a1 : Option Addr) (p1 : Nat) (a2 : Option Addr) (p2 : Nat) (x : Co) (p : Po) (w : World) (hok : c.Ok) (hn : c.n ≤ 1000000) (hm : c.inn.length ≤ 1000000) (h1 : Ints w a1 c.n p1 c.sz) (h2 : Ints w a2 c.inn.length p2 c.inn) (hin : c.In x) (hv : c.vldB p = true) :
  Ct Tryz.prog 60 #[.agg #[.slice a1 c.n p1, .slice a2 c.inn.length p2, .int .i64 c.st], .agg x.cells.toArray, .agg p.cells.toArray] w fun v _ => v = c.pourR x p.f.toNat p.t.toNat := by
 obtain ⟨pf, pt⟩ := p
 obtain ⟨⟨hf0, hf1⟩, ⟨ht0, ht1⟩, hne⟩ := Cn.vld_iff.1 hv
 simp only at hf0 hf1 ht0 ht1 hne
 obtain ⟨f, rfl⟩ := Int.eq_ofNat_of_zero_le hf0
 obtain ⟨t, rfl⟩ := Int.eq_ofNat_of_zero_le ht0
 exact bpour_any c a1 p1 a2 p2 x f t w hok hn hm h1 h2 hin om0 om0 om0
theorem play_any (c : Cn) (a1 : Option Addr) (p1 : Nat) (a2 : Option Addr) (p2 : Nat) (l : List Po) (la : Option Addr) (lcap : Nat) (w : World) (hG : Gv w) (hl : l.length ≤ 1000000) (hn : c.n ≤ 1000000) (hm : c.inn.length ≤ 1000000) (h1 : Ints w a1 c.n p1 c.sz) (h2 : Ints w a2 c.inn.length p2 c.inn) (hp : Pos w la l.length lcap l) : Ct Tryz.prog 39 #[.agg #[.slice a1 c.n p1, .slice a2 c.inn.length p2, .int .i64 c.st], .slice la l.length lcap] w (PlayV c l) := by
 have hF := wide_wide
 refine Ct_start (args := [_, _]) Tryz.func39 rf Tryz.ntmps39 rf ?_
 refine zR fun ds => ?_
 refine WS_new hF rf (y_box rf) (fun b1 => ?_)
 refine WS_new hF rf (y_alloc Tryz.zeroValue24 rf) (fun b2 => ?_)
 refine za (.int .i64 _) hF ?_
 refine za (.int .i64 _) hF ?_
 refine za (.int .i64 _) hF ?_
 refine zO ?_
 refine zR fun ds => ?_
 refine zD hF (y_loadN rf Tryz.isAgg24 Tryz.sizeOf24 (Mem.own (us := [.slice _ _ _, .slice _ _ _, .int .i64 _]) 1 rf rf) rf) ?_
 refine zD hF (y_callL rf rf Tryz.call47 (fun w hw => ccheck_any c a1 p1 a2 p2 w (hG.st w hw) hn hm (h1.st w hw) (h2.st w hw))) ?_
 refine za (.int .i64 _) hF ?_
 refine zP fun ds => ?_
 refine zm (.int .i64 _) hF ?_
 refine zD hF (y_neq rf rf) ?_
 refine zN ?_
 refine W_cond rf (fun c2 => ?_) (fun c2 => ?_)
 ·
  try simp only [qz1, qz2, qz3, qz4, qz5, qz6, qz7, qz8] at c2
  refine zR fun ds => ?_
  refine zD hF (y_buildL bd24 rf) ?_
  refine zm (.int .i64 _) hF ?_
  refine WS_store hF (us := [.slice _ _ _, .slice _ _ _, .int .i64 _]) (i := 0) rf rf Tryz.sizeOf24 rf rf rf d20 ?_
  refine za (.int .i64 _) hF ?_
  refine za (.int .i64 _) hF ?_
  refine za (.int .i64 _) hF ?_
  refine zN ?_
  refine W_ret ?_
  refine Then_ret ?_
  refine Fin_ret [_, .int .i64 _, .int .i64 _, .int .i64 _] [] Tryz.results39 ⟨lvN rf Tryz.isAgg24 Tryz.sizeOf24 (Mem.own (us := [.slice _ _ _, .slice _ _ _, .int .i64 _]) 0 rf rf) rf, by rfl, by rfl, by rfl, trivial⟩ HSub.nil ?_
  obtain ⟨h1, h2⟩ := Cn.err_no c2
  rw [h2]
  exact PlayV.bad h1
 ·
  try simp only [qz1, qz2, qz3, qz4, qz5, qz6, qz7, qz8] at c2
  have c1 := Cn.err_iff.1 c2
  have hok := Cn.ok_iff.1 c1
  have hn3 := hok.n3
  refine W_skip ?_
  refine zS fun ds => ?_
  refine zD hF (y_loadN rf Tryz.isAgg24 Tryz.sizeOf24 (Mem.own (us := [.slice _ _ _, .slice _ _ _, .int .i64 _]) 1 rf rf) rf) ?_
  refine zD hF (y_buildL bd92_0 rf) ?_
  refine WS_new hF rf (y_alloc Tryz.zeroValue92 rf) (fun bb => ?_)
  refine WS_store hF (us := [.slice _ _ _, .slice _ _ _, .int .i64 _]) (i := 0) rf rf Tryz.sizeOf92 rf rf rf d20 ?_
  refine zP fun ds => ?_
  refine zD hF (y_loadN rf Tryz.isAgg92 Tryz.sizeOf92 (Mem.own (us := [.slice _ _ _, .slice _ _ _, .int .i64 _]) 0 rf rf) rf) ?_
  refine zD hF (y_callL rf rf Tryz.call58 (fun w hw => bstart_any c a1 p1 a2 p2 w hok hn hm (h1.st w hw) (h2.st w hw))) ?_
  refine WS_new hF rf (y_alloc Tryz.zeroValue106 rf) (fun bx => ?_)
  refine WS_store hF (us := [.int .i64 _, .int .i64 _, .int .i64 _, .int .i64 _]) (i := 0) rf rf Tryz.sizeOf106 rf rf rf d20 ?_
  refine zO ?_
  refine zR fun ds => ?_
  refine zm (.slice _ _ _) hF ?_
  refine zD hF (y_len rf Tryz.runUnderlying35) ?_
  refine zm (.int .i64 _) hF ?_
  refine zN ?_
  refine W_block ?_
  refine W_loop (γ := Nat) (fun k => k ≤ l.length ∧ ∀ j, j < k → c.pE (c.runK l j) (l.getD j Po.z) = 0) (fun k => [(4, .pointer (some ⟨b2, 0, none⟩)), (5, .int .i64 (c.backK l k)), (9, .pointer (some ⟨bb, 0, none⟩)), (10, .pointer (some ⟨bx, 0, none⟩)), (25, .slice la l.length lcap), (26, .int .i64 (l.length : Int)), (27, .int .i64 (k : Int))]) (fun k => [(bx, CB (c.runK l k).cells 106), (bb, CB [.slice a1 c.n p1, .slice a2 c.inn.length p2, .int .i64 c.st] 92), (b2, CB [.slice none 0 0, .slice none 0 0, .int .i64 0] 24)]) (fun k => l.length - k) (0) ⟨Nat.zero_le _, fun j h => absurd h (Nat.not_lt_zero _)⟩ s10 (sbA) ?_
  rintro k e ⟨hk, hj⟩
  refine zR fun ds => ?_
  refine zD hF (y_lss rf rf) ?_
  refine zO ?_
  refine W_cond rf (fun c7 => ?_) (fun c7 => ?_)
  ·
   try simp only [qz1, qz2, qz3, qz4, qz5, qz6, qz7, qz8] at c7
   have hin := hok.run_in hj
   have hbb := hok.back_bd hj
   obtain ⟨b, o, rfl, hc⟩ := hp.cell k om0
   change At w b _ (l.getD k Po.z).cells at hc
   refine zU ?_
   refine W_seq ?_
   refine W_block ?_
   refine zR fun ds => ?_
   refine zm (.int .i64 _) hF ?_
   refine zD hF (y_index (k := k) rf rf r1 d10 Tryz.runUnderlying35 Tryz.sizeOf47) ?_
   refine zD hF (y_loadN rf Tryz.isAgg47 Tryz.sizeOf47 (zq [.int .i64 _, .int .i64 _]) rf) ?_
   refine WS_new hF rf (y_alloc Tryz.zeroValue47 rf) (fun b3 => ?_)
   refine za (.int .i64 _) hF ?_
   refine WS_store hF (us := [.int .i64 _, .int .i64 _]) (i := 0) rf rf Tryz.sizeOf47 rf rf rf d20 ?_
   refine zO ?_
   refine zR fun ds => ?_
   refine zD hF (y_loadN rf Tryz.isAgg92 Tryz.sizeOf92 (Mem.own (us := [.slice _ _ _, .slice _ _ _, .int .i64 _]) 2 rf rf) rf) ?_
   refine zD hF (y_loadN rf Tryz.isAgg47 Tryz.sizeOf47 (Mem.own (us := [.int .i64 _, .int .i64 _]) 0 rf rf) rf) ?_
   refine zD hF (y_callL rf rf Tryz.call57 (fun w hw => bvalid_any c a1 p1 a2 p2 (l.getD k Po.z) w)) ?_
   refine zD hF (y_not rf) ?_
   refine zN ?_
   refine W_cond rf (fun c9 => ?_) (fun c9 => ?_)
   ·
    try simp only [qz1, qz2, qz3, qz4, qz5, qz6, qz7, qz8] at c9
    refine zR fun ds => ?_
    refine zD hF (y_buildL bd24 rf) ?_
    refine zm (.int .i64 _) hF ?_
    refine WS_store hF (us := [.slice _ _ _, .slice _ _ _, .int .i64 _]) (i := 3) rf rf Tryz.sizeOf24 rf rf rf d20 ?_
    refine za (.int .i64 _) hF ?_
    refine za (.int .i64 _) hF ?_
    refine za (.int .i64 _) hF ?_
    refine zN ?_
    refine W_ret ?_
    refine Then_ret ?_
    refine InB_ret ?_
    refine Then_ret ?_
    refine Loop_ret ?_
    refine InB_ret ?_
    refine Then_ret ?_
    refine Fin_ret [_, .int .i64 _, .int .i64 _, .int .i64 _] [] Tryz.results39 ⟨lvN rf Tryz.isAgg24 Tryz.sizeOf24 (Mem.own (us := [.slice _ _ _, .slice _ _ _, .int .i64 _]) 3 rf rf) rf, by rfl, by rfl, by rfl, trivial⟩ HSub.nil ?_
    refine PlayV.stop c1 om0 hj ?_ dc
    unfold Cn.pE
    rw [c9]; rfl
   ·
    try simp only [qz1, qz2, qz3, qz4, qz5, qz6, qz7, qz8] at c9
    have hpe : c.pE (c.runK l k) (l.getD k Po.z) = if c.canB (c.runK l k) (l.getD k Po.z).f.toNat (l.getD k Po.z).t.toNat then 0 else 6 := by
     unfold Cn.pE
     rw [if_pos c9]
    refine W_skip ?_
    refine zS fun ds => ?_
    refine zD hF (y_loadN rf Tryz.isAgg92 Tryz.sizeOf92 (Mem.own (us := [.slice _ _ _, .slice _ _ _, .int .i64 _]) 2 rf rf) rf) ?_
    refine zD hF (y_loadN rf Tryz.isAgg106 Tryz.sizeOf106 (Mem.own (us := [.int .i64 _, .int .i64 _, .int .i64 _, .int .i64 _]) 1 rf rf) rf) ?_
    refine zD hF (y_loadN rf Tryz.isAgg47 Tryz.sizeOf47 (Mem.own (us := [.int .i64 _, .int .i64 _]) 0 rf rf) rf) ?_
    refine zD hF (y_callL rf rf Tryz.call60 (fun w hw => bpourP_any c a1 p1 a2 p2 (c.runK l k) (l.getD k Po.z) w hok hn hm (h1.st w hw) (h2.st w hw) hin c9)) ?_
    refine zm (.tuple _) hF ?_
    refine zD hF (y_extract (c := .agg _) rf rf) ?_
    refine zD hF (y_extract (c := .bool _) rf rf) ?_
    refine WS_new hF rf (y_alloc Tryz.zeroValue106 rf) (fun b4 => ?_)
    refine WS_store hF (us := [.int .i64 _, .int .i64 _, .int .i64 _, .int .i64 _]) (i := 0) rf rf Tryz.sizeOf106 rf rf rf d20 ?_
    refine za (.bool _) hF ?_
    refine zO ?_
    refine zR fun ds => ?_
    refine zm (.bool _) hF ?_
    refine zD hF (y_not rf) ?_
    refine zN ?_
    refine W_cond rf (fun c12 => ?_) (fun c12 => ?_)
    ·
     try simp only [qz1, qz2, qz3, qz4, qz5, qz6, qz7, qz8] at c12
     refine zR fun ds => ?_
     refine zD hF (y_buildL bd24 rf) ?_
     refine zm (.int .i64 _) hF ?_
     refine WS_store hF (us := [.slice _ _ _, .slice _ _ _, .int .i64 _]) (i := 4) rf rf Tryz.sizeOf24 rf rf rf d20 ?_
     refine za (.int .i64 _) hF ?_
     refine za (.int .i64 _) hF ?_
     refine za (.int .i64 _) hF ?_
     refine zN ?_
     refine W_ret ?_
     refine Then_ret ?_
     refine InB_ret ?_
     refine Then_ret ?_
     refine Loop_ret ?_
     refine InB_ret ?_
     refine Then_ret ?_
     refine Fin_ret [_, .int .i64 _, .int .i64 _, .int .i64 _] [] Tryz.results39 ⟨lvN rf Tryz.isAgg24 Tryz.sizeOf24 (Mem.own (us := [.slice _ _ _, .slice _ _ _, .int .i64 _]) 4 rf rf) rf, by rfl, by rfl, by rfl, trivial⟩ HSub.nil ?_
     refine PlayV.stop c1 om0 hj ?_ dc
     rw [hpe, c12]; rfl
    ·
     try simp only [qz1, qz2, qz3, qz4, qz5, qz6, qz7, qz8] at c12
     have hj2 : ∀ j, j < k + 1 → c.pE (c.runK l j) (l.getD j Po.z) = 0 := fun j h => by by_cases hjk : j = k; (subst hjk; rw [hpe, c12]; rfl); exact hj j om0
     have hto : (if c.noB (c.runK l k) (l.getD k Po.z).f.toNat (l.getD k Po.z).t.toNat then c.runK l k else c.to (c.runK l k) (l.getD k Po.z).f.toNat (l.getD k Po.z).t.toNat) = c.runK l (k + 1) := Cn.can_to c12
     have hin2 := hok.run_in hj2
     have a1 : 0 ≤ (c.runK l k).a := hin.lo 0 dc
     have a2 : (c.runK l k).a ≤ 600 := hin.hi 0 (Nat.zero_le _)
     have a3 : 0 ≤ (c.runK l (k + 1)).a := hin2.lo 0 dc
     have a4 : (c.runK l (k + 1)).a ≤ 600 := hin2.hi 0 (Nat.zero_le _)
     rw [hto]
     refine W_skip ?_
     refine zS fun ds => ?_
     refine zm (.int .i64 _) hF ?_
     refine zD hF (y_indexA (k := 0) rf rf r1 d10 Tryz.runUnderlying106 Tryz.sizeOf3) ?_
     refine zD hF (y_load1 rf Tryz.isAgg3 (Mem.own1 0 rf rf)) ?_
     refine zD hF (y_indexA (k := 0) rf rf r1 d10 Tryz.runUnderlying106 Tryz.sizeOf3) ?_
     refine zD hF (y_load1 rf Tryz.isAgg3 (Mem.own1 2 rf rf)) ?_
     refine zD hF (y_sub rf rf ui) ?_
     refine zD hF (y_max rf rf) ?_
     refine zD hF (y_add rf rf ui) ?_
     refine za (.int .i64 _) hF ?_
     refine zQ fun ds => ?_
     refine zD hF (y_loadN rf Tryz.isAgg106 Tryz.sizeOf106 (Mem.own (us := [.int .i64 _, .int .i64 _, .int .i64 _, .int .i64 _]) 0 rf rf) rf) ?_
     refine WS_store hF (us := [.int .i64 _, .int .i64 _, .int .i64 _, .int .i64 _]) (i := 2) rf rf Tryz.sizeOf106 rf rf rf d20 ?_
     refine WS_nil ?_
     refine InB_normal ?_
     refine zT fun ds => ?_
     refine zD hF (y_add rf rf ui) ?_
     refine zm (.int .i64 _) hF ?_
     refine WS_nil ?_
     exact Loop_next (k + 1) ⟨by omega, hj2⟩ s10 sbA om0
  ·
   try simp only [qz1, qz2, qz3, qz4, qz5, qz6, qz7, qz8] at c7
   refine W_exit ?_
   refine Then_exit ?_
   refine Loop_exit ?_
   refine InB_same ?_
   refine zS fun ds => ?_
   refine zD hF (y_loadN rf Tryz.isAgg92 Tryz.sizeOf92 (Mem.own (us := [.slice _ _ _, .slice _ _ _, .int .i64 _]) 1 rf rf) rf) ?_
   refine zD hF (y_loadN rf Tryz.isAgg106 Tryz.sizeOf106 (Mem.own (us := [.int .i64 _, .int .i64 _, .int .i64 _, .int .i64 _]) 0 rf rf) rf) ?_
   refine WS_gen hF rf (y_callL rf rf Tryz.call64 (fun w hw => bcans_any c a1 p1 a2 p2 (c.runK l k) w hok hn hm (h1.st w hw) (h2.st w hw))) ?_
   rintro _ _ ⟨z1, q1, z2, q2, H1, H2, rfl, hr1, hr2, rfl⟩
   refine WS_back ?_
   refine zm (.int .i64 _) hF ?_
   refine WS_store hF (us := [.slice _ _ _, .slice _ _ _, .int .i64 _]) (i := 2) rf rf Tryz.sizeOf24 rf rf rf d20 ?_
   refine za (.int .i64 _) hF ?_
   refine za (.int .i64 _) hF ?_
   refine za (.int .i64 _) hF ?_
   refine zN ?_
   refine W_ret ?_
   refine Fin_ret [_, .int .i64 _, .int .i64 _, .int .i64 _] (H1 ++ H2) Tryz.results39 ⟨lvN rf Tryz.isAgg24 Tryz.sizeOf24 (Mem.own (us := [.slice _ _ _, .slice _ _ _, .int .i64 _]) 2 rf rf) rf, by rfl, by rfl, by rfl, trivial⟩ (HSub.sub sbA) ?_
   obtain rfl : k = l.length := by omega
   exact PlayV.go c1 hj ⟨_, _, _, _, H1, H2, rfl, hr1, hr2, rfl⟩
def u4c (x : Int) : List Value := [.int .u32 x]
structure U4s (w : World) (a : Option Addr) (n cap : Nat) (xs : List Int) : Prop where
 row : Rws u4c 1 0 w a n cap xs
 bd : ∀ k, k < n → 0 ≤ xs.getD k 0 ∧ xs.getD k 0 ≤ 4294967295
 le : n ≤ 9223372036854775807
theorem U4s.st {C : Ctx} {H : List Blk} {a : Option Addr} {n cap : Nat} {xs : List Int} (h : U4s C.w0 a n cap xs) (w : World) (hw : St C H w) : U4s w a n cap xs := ⟨h.row.st w hw, h.bd, h.le⟩
def Cn.pou2 (c : Cn) (f t : Nat) (m : Int) : Cn := (c.put t (c.has t + m)).put f (c.has f - m)
theorem Cn.Ok.pou2 {c : Cn} (h : c.Ok) {f t : Nat} (hf : f ≤ c.n) (ht : t ≤ c.n) (hft : f ≠ t) : c.pou2 f t (c.amt c.co f t) = c.of (c.to c.co f t) := by
 have h3 := h.n3
 unfold Cn.pou2
 rw [c.has_co f om0, c.has_co t om0]
 conv => lhs; arg 1; arg 1; rw [← h.co_of]
 rw [Cn.of_put _ _ _ _ h3 ht, Cn.of_put _ _ _ _ h3 hf]
 congr 1
 refine Co.ext4 fun k hk => ?_
 unfold Cn.to
 rw [Co.g_w _ _ om0 hk, Co.g_w _ _ om0 hk, Co.g_w _ _ om0 hk, Co.g_w _ _ om0 hk]
 by_cases e1 : k = f
 ·subst e1; rw [if_pos rfl, if_neg hft, if_pos rfl]
 ·rw [if_neg e1, if_neg e1]
def Cn.StI (c : Cn) (f t : Nat) (m : Int) : Prop := 0 ≤ m ∧ m ≤ 600 ∧ (c.canB c.co f t = (decide (m > 0) && decide ((c.pou2 f t m).st ≤ 600))) ∧ (c.canB c.co f t = true → m = c.amt c.co f t)
def StpV (c : Cn) (f t : Nat) (v : Value) (Hn : List Blk) : Prop := ∃ (d : Cn) (n : Int) (v0 : Value), v = .tuple #[v0, .int .i64 n, .bool (c.canB c.co f t)] ∧ TwinC d v0 Hn ∧ (c.canB c.co f t = true → d = c.of (c.to c.co f t) ∧ n = c.amt c.co f t)
def tunT : Tk := ⟨[0, 10, 30, 60, 100], 2, 8⟩
def logL : Lg := ⟨tunT, ⟨20, 40⟩, [⟨0, 1, ⟨10, 15⟩⟩, ⟨3, 3, ⟨18, 20⟩⟩, ⟨5, 2, ⟨10, 20⟩⟩, ⟨5, 3, ⟨12, 16⟩⟩]⟩
def TwinT (t : Tk) (v : Value) (Hn : List Blk) : Prop := ∃ a cap, v = .agg #[.slice a t.n cap, .int .i64 t.leak, .int .i64 t.foot] ∧ NewRow 3 1 t.n (iv t.pints) (.slice a t.n cap) Hn
theorem a_ep47_0 {x_0 : Int} {x_1 : Int} : ∀ w, (part 3 #[.int .i64 x_0, .int .i64 x_1] 0).run Tryz.prog w = .ok (.int .i64 x_0) w := fun w => by kernel_rfl
theorem a_ep47_1 {x_0 : Int} {x_1 : Int} : ∀ w, (part 3 #[.int .i64 x_0, .int .i64 x_1] 1).run Tryz.prog w = .ok (.int .i64 x_1) w := fun w => by kernel_rfl
theorem a_gneqA47 {x y : Operand} {x_0 : Int} {x_1 : Int} {y_0 : Int} {y_1 : Int} : ∀ w, (eqGuard .neq 47 x y (.agg #[.int .i64 x_0, .int .i64 x_1]) (.agg #[.int .i64 y_0, .int .i64 y_1])).run Tryz.prog w = .ok () w := fun w => by kernel_rfl
theorem a_st47 : Tryz.prog.stoodInHeld 47 = false := by kernel_rfl
theorem eq47 {x_0 : Int} {x_1 : Int} {y_0 : Int} {y_1 : Int} : ∀ w, (Op.equalIn Op.maxDepth 47 (.agg #[.int .i64 x_0, .int .i64 x_1]) (.agg #[.int .i64 y_0, .int .i64 y_1])).run Tryz.prog w = .ok (ieq x_0 y_0 && ieq x_1 y_1) w := fun w => by
 unfold Op.maxDepth Op.equalIn
 rw [Sem.run_bind, Tryz.runUnderlying47]
 simp [a_st47, a_ep47_0, eq_int (d := 9998) Tryz.runUnderlying3, a_ep47_1, eq_int (d := 9998) Tryz.runUnderlying3]
 generalize ieq x_0 y_0 = b0
 generalize ieq x_1 y_1 = b1
 cases b0 <;> cases b1 <;> simp
theorem neqA47 {x y : Operand} {x_0 : Int} {x_1 : Int} {y_0 : Int} {y_1 : Int} : ∀ w, ((do eqGuard .neq 47 x y (.agg #[.int .i64 x_0, .int .i64 x_1]) (.agg #[.int .i64 y_0, .int .i64 y_1]); binOp .neq 47 (.agg #[.int .i64 x_0, .int .i64 x_1]) (.agg #[.int .i64 y_0, .int .i64 y_1])) : Sem Value).run Tryz.prog w = .ok (.bool (!(ieq x_0 y_0 && ieq x_1 y_1))) w := eq_topN a_gneqA47 eq47
theorem infPo : (Tryz.prog.info? 47).map (fun i => (i.zero, i.size, i.bytes)) = some (some (.agg #[.int .i64 0, .int .i64 0]), 2, 16) := by kernel_rfl
theorem samePo_any (l : List Po) (la : Option Addr) (lcap : Nat) (la' : Option Addr) (lcap' : Nat) (w : World) (hl : l.length ≤ 1000000) (hp : Pos w la l.length lcap l) (hp' : Pos w la' l.length lcap' l) :
  Ct Tryz.prog 45 #[.slice la l.length lcap, .slice la' l.length lcap'] w fun v _ => v = .bool true := by
 have hF := wide_wide
 refine Ct_start (args := [_, _]) Tryz.func45 rf Tryz.ntmps45 rf ?_
 refine zR fun ds => ?_
 refine za (.bool _) hF ?_
 refine zO ?_
 refine zR fun ds => ?_
 refine zm (.slice _ _ _) hF ?_
 refine zD hF (y_len rf Tryz.runUnderlying35) ?_
 refine zm (.slice _ _ _) hF ?_
 refine zD hF (y_len rf Tryz.runUnderlying35) ?_
 refine zD hF (y_neqF rf rf) ?_
 refine zN ?_
 refine W_cond rf (fun c1 => ?_) (fun c1 => ?_)
 ·cases c1
 ·
  try simp only [qz1, qz2, qz3, qz4, qz5, qz6, qz7, qz8] at c1
  refine zU ?_
  refine W_seq ?_
  refine zR fun ds => ?_
  refine za (.int .i64 _) hF ?_
  refine zN ?_
  refine W_block ?_
  refine W_loop (γ := Nat) (fun k => k ≤ l.length) (fun k => [(0, .slice la l.length lcap), (1, .slice la' l.length lcap'), (5, .int .i64 (k : Int))]) (fun _ => _) (fun k => l.length - k) (0) (Nat.zero_le _) s10 (List.Sublist.refl _) ?_
  intro k e hk
  refine W_seq ?_
  refine zR fun ds => ?_
  refine zm (.int .i64 _) hF ?_
  refine zm (.slice _ _ _) hF ?_
  refine zD hF (y_len rf Tryz.runUnderlying35) ?_
  refine zD hF (y_lss rf rf) ?_
  refine zN ?_
  refine W_cond rf (fun c4 => ?_) (fun c4 => ?_)
  ·
   try simp only [qz1, qz2, qz3, qz4, qz5, qz6, qz7, qz8] at c4
   obtain ⟨b, o, rfl, hc⟩ := hp.cell k om0
   change At w b _ (l.getD k Po.z).cells at hc
   obtain ⟨bz, oz, rfl, hcz⟩ := hp'.cell k om0
   change At w bz _ (l.getD k Po.z).cells at hcz
   refine zU ?_
   refine W_seq ?_
   refine W_block ?_
   refine W_seq ?_
   refine W_draw0 hF Tryzmixed [] dk0 (fun ds => ?_)
   refine P_det rf (Over_nil (y_move (c := .slice _ _ _) rf)) ?_
   refine P_det rf (Over_nil (y_move (c := .int .i64 _) rf)) ?_
   refine P_det rf (Over_nil (y_index (k := k) rf rf r1 d10 Tryz.runUnderlying35 Tryz.sizeOf47)) ?_
   refine P_det rf (Over_nil (y_loadN rf Tryz.isAgg47 Tryz.sizeOf47 (zq [.int .i64 _, .int .i64 _]) rf)) ?_
   refine P_det rf (Over_nil (y_move (c := .slice _ _ _) rf)) ?_
   refine P_det rf (Over_nil (y_move (c := .int .i64 _) rf)) ?_
   refine P_det rf (Over_nil (y_index (k := k) rf rf r1 d10 Tryz.runUnderlying35 Tryz.sizeOf47)) ?_
   refine P_det rf (Over_nil (y_loadN rf Tryz.isAgg47 Tryz.sizeOf47 (zq [.int .i64 _, .int .i64 _]) rf)) ?_
   refine P_det rf (Over_nil (y_neqlAF rf rf neqA47 (by simp only [ieq_self, Bool.and_self, Bool.not_true]))) ?_
   refine PW_end rf ?_
   refine OverAll_nil ?_
   rintro -
   refine Then_normal ?_
   refine W_cond rf (fun c6 => ?_) (fun c6 => ?_)
   ·cases c6
   ·
    try simp only [qz1, qz2, qz3, qz4, qz5, qz6, qz7, qz8] at c6
    refine W_skip ?_
    refine InB_normal ?_
    refine zT fun ds => ?_
    refine zm (.int .i64 _) hF ?_
    refine zD hF (y_add rf rf ui) ?_
    refine za (.int .i64 _) hF ?_
    refine WS_nil ?_
    exact Loop_next (k + 1) om0 s10 s20 om0
  ·
   try simp only [qz1, qz2, qz3, qz4, qz5, qz6, qz7, qz8] at c4
   refine W_exit ?_
   refine Then_exit ?_
   refine Loop_exit ?_
   refine InB_same ?_
   refine zS fun ds => ?_
   refine za (.bool _) hF ?_
   refine zN ?_
   refine W_ret ?_
   refine Fin_ret [.bool _] [] Tryz.results45 ⟨by rfl, trivial⟩ HSub.nil ?_
   rfl
end Go.Proofs.YtjekjehgmljbgaaGreatDoor.T
namespace Go.Eng
open Go.RowKit
section
variable {C : Ctx} {e : Env} {H : List Blk} {d : Option Tmp} {ty : TypeId} {pos : String} {af : Array Edge} {g : Option (Nat × Bool)}
theorem YR.sub {o : Oper} {R R' : Value → List Blk → Prop} (h : YR C o e H R) (hr : ∀ v Hn, R v Hn → ∃ Hm, Hm.Sublist Hn ∧ R' v Hm) : YR C o e H R' := fun w hw => by
 have := h w hw
 have out : ∀ {v w w'}, Out R v w w' → Out R' v w w' := fun ⟨Hn, h1, h2, h3⟩ => by
  obtain ⟨Hm, h4, h5⟩ := hr _ _ h3
  exact ⟨Hm, h1, h2.sub h4, h5⟩
 generalize (execOp (ev e) o).run C.P w = r at *
 cases r with
 | ok x w' =>
  cases x <;> simp only [OutRes] at this ⊢
  case value v => exact out this
  case skip => exact out this
  case enter f args =>
   refine ⟨this.1, Calls.mono this.2 ?_⟩
   rintro en w'' ⟨v, he, h1⟩
   exact ⟨v, he, out h1⟩
 | halt => exact this
theorem y_makeRow {x y : Operand} {T E : TypeId} {z : Value} {zs us : List Value} {kl kc : IntKind} {n sz by_ : Nat} {l c : Int} (hx : ev e x = .int kl l) (hy : ev e y = .int kc c) (hl : l = (n : Int)) (hc : c = (n : Int))
  (hT : C.P.underlying T = some (.slice E)) (hinf : (C.P.info? E).map (fun i => (i.zero, i.size, i.bytes)) = some (some z, sz, by_)) (hzs : z.cells = zs.toArray) (hsz : zs.length = sz) (hb : n * by_ ≤ 140737488355328) (hn : n ≤ 140737488355328)
  (hu : ((List.range n).flatMap fun _ => zs) = us) : YR C ⟨d, .makeSlice T x y, ty, pos, af, g⟩ e H (NewRow E sz n us) := by
 refine (y_makeSlice hx hy hl hc hT hinf hzs hsz hb hn).sub ?_
 rintro v Hn ⟨b, rfl, rfl⟩
 have hlen : us.length = n * sz := by
  subst hu hsz
  exact rowOf_len (enc := fun (_ : Nat) => zs) (fun _ => rfl) (fun k => k) n
 by_cases h0 : n = 0
 ·subst h0
  exact ⟨[], List.nil_sublist _, _, _, rfl, Nat.le_refl _, .inr ⟨rfl, rfl, rfl⟩⟩
 ·exact ⟨_, List.Sublist.refl _, _, _, rfl, Nat.le_refl _, .inl ⟨by omega, b, [], rfl, by rw [List.append_nil, hu], by rw [List.append_nil]; exact hlen⟩⟩
end
section
variable {C : Ctx} {F : Fence} {n : Nat} {ds : List Deferred} {c : Code} {Q : Exit → Env → List Blk → Prop} {e : Env} {A B M : List Blk}
theorem W_rot2 (h : W C F n ds c Q e (M ++ (A ++ B))) : W C F n ds c Q e (A ++ (B ++ M)) := W_perm (by rw [← List.append_assoc]; exact List.perm_append_comm) h
end
end Go.Eng
namespace Go.Proofs.YtjekjehgmljbgaaGreatDoor.T
open Go.RowKit Go.Proofs Go.Eng
set_option maxRecDepth 100000
set_option maxHeartbeats 1000000
def Lg.rdS (l : Lg) : Sn := if l.aerr = 0 then l.last.fl (l.tk.up l.tk.foot) else Sn.z
theorem Lg.readyV_eq (l : Lg) : l.readyV = .tuple #[.agg l.rdS.cells.toArray, .int .i64 l.aerr] := by
 unfold Lg.readyV Lg.rdS
 by_cases h : l.aerr = 0
 ·rw [if_pos h, if_pos h, h]
 ·rw [if_neg h, if_neg h]
def begC0 (l : Lg) (D : List Int) : Cn := ⟨D, List.replicate D.length 0, l.rdS.lo⟩
def begC (l : Lg) (D : List Int) : Cn := if l.aerr = 0 then if (begC0 l D).okB then begC0 l D else Cn.zero else Cn.zero
def begE (l : Lg) (D : List Int) : Int := if l.aerr = 0 then (begC0 l D).err else l.aerr
def BegV (l : Lg) (D : List Int) (v : Value) (Hn : List Blk) : Prop := ∃ v0, v = .tuple #[v0, .int .i64 (begE l D)] ∧ TwinC (begC l D) v0 Hn
def czero : Value := .agg #[.slice none 0 0, .slice none 0 0, .int .i64 0]
theorem BegV.no {l : Lg} {D : List Int} (h : ¬ l.aerr = 0) : BegV l D (.tuple #[czero, .int .i64 l.aerr]) [] := by
 refine ⟨czero, ?_, ?_⟩
 ·unfold begE; rw [if_neg h]
 ·unfold begC; rw [if_neg h]; exact twinC_zero
theorem BegV.bad {l : Lg} {D : List Int} (h : l.aerr = 0) (hb : (begC0 l D).okB = false) : BegV l D (.tuple #[czero, .int .i64 80]) [] := by
 refine ⟨czero, ?_, ?_⟩
 ·unfold begE Cn.err; rw [if_pos h, hb]; rfl
 ·unfold begC; rw [if_pos h, hb]; exact twinC_zero
theorem BegV.ok {l : Lg} {D : List Int} {v0 : Value} {Hn : List Blk} (h : l.aerr = 0) (hb : (begC0 l D).okB = true) (hT : TwinC (begC0 l D) v0 Hn) : BegV l D (.tuple #[v0, .int .i64 0]) Hn := by
 refine ⟨v0, ?_, ?_⟩
 ·unfold begE Cn.err; rw [if_pos h, hb]; rfl
 ·unfold begC; rw [if_pos h, hb]; exact hT
theorem zeros_iv (D : List Int) (l : Lg) : ((List.range D.length).flatMap fun _ => [Value.int .i64 0]) = iv (begC0 l D).inn := by
 show _ = iv (List.replicate D.length 0)
 generalize D.length = n
 induction n with
 | zero => rfl
 | succ n ih =>
  rw [List.range_succ, List.flatMap_append, ih, List.replicate_succ']
  simp [iv]
theorem begC0_inn (l : Lg) (D : List Int) : (begC0 l D).inn.length = D.length := List.length_replicate
theorem NewRow.sl {T : TypeId} {sz m : Nat} {us : List Value} {v : Value} {Hn : List Blk} (h : NewRow T sz m us v Hn) : ∃ a cap, v = .slice a m cap ∧ NewRow T sz m us (.slice a m cap) Hn := by
 obtain ⟨a, cap, rfl, h2⟩ := h
 exact ⟨a, cap, rfl, a, cap, rfl, h2⟩
theorem begin_any (l : Lg) (a : Option Addr) (cap : Nat) (ae : Option Addr) (cape : Nat) (ta : Option Addr) (tn tcap : Nat) (D : List Int) (w : World) (hG : Gv w) (htn : tn ≤ 1000000) (hgn : l.tk.n ≤ 1000000) (hx : Ints w a l.tk.n cap l.tk.pints) (he : Ens w ae l.es.length cape l.es) (hD : Ints w ta tn tcap D) :
  Ct Tryz.prog 29 #[.agg #[.slice a l.tk.n cap, .int .i64 l.tk.leak, .int .i64 l.tk.foot, .int .i64 l.start.lo, .int .i64 l.start.hi, .slice ae l.es.length cape], .slice ta tn tcap] w (BegV l D) := by
 have hDl := hD.len
 subst hDl
 have hF := wide_wide
 refine Ct_start (args := [_, _]) Tryz.func29 rf Tryz.ntmps29 rf ?_
 refine zR fun ds => ?_
 refine WS_new hF rf (y_box rf) (fun b1 => ?_)
 refine WS_new hF rf (y_alloc Tryz.zeroValue24 rf) (fun b2 => ?_)
 refine za (.int .i64 _) hF ?_
 refine zP fun ds => ?_
 refine zD hF (y_loadN rf Tryz.isAgg62 Tryz.sizeOf62 (Mem.own (us := [.slice _ _ _, .int .i64 _, .int .i64 _, .int .i64 _, .int .i64 _, .slice _ _ _]) 1 rf rf) rf) ?_
 refine zD hF (y_callL rf rf Tryz.call30 (fun w hw => Ct_eq (ready_any l a cap ae cape w hgn (hx.st w hw) (he.st w hw)) l.readyV_eq)) ?_
 refine zm (.tuple _) hF ?_
 refine zD hF (y_extract (c := .agg _) rf rf) ?_
 refine zD hF (y_extract (c := .int .i64 _) rf rf) ?_
 refine WS_new hF rf (y_alloc Tryz.zeroValue59 rf) (fun b3 => ?_)
 refine WS_store hF (us := [.int .i64 _, .int .i64 _]) (i := 0) rf rf Tryz.sizeOf59 rf rf rf d20 ?_
 refine za (.int .i64 _) hF ?_
 refine zO ?_
 refine zR fun ds => ?_
 refine zm (.int .i64 _) hF ?_
 refine zD hF (y_neq rf rf) ?_
 refine zN ?_
 refine W_cond rf (fun c2 => ?_) (fun c2 => ?_)
 ·
  try simp only [qz1, qz2, qz3, qz4, qz5, qz6, qz7, qz8] at c2
  refine zR fun ds => ?_
  refine zD hF (y_buildL bd24 rf) ?_
  refine zm (.int .i64 _) hF ?_
  refine WS_store hF (us := [.slice _ _ _, .slice _ _ _, .int .i64 _]) (i := 1) rf rf Tryz.sizeOf24 rf rf rf d20 ?_
  refine za (.int .i64 _) hF ?_
  refine zN ?_
  refine W_ret ?_
  refine Then_ret ?_
  refine Fin_ret [_, .int .i64 _] [] Tryz.results29 ⟨lvN rf Tryz.isAgg24 Tryz.sizeOf24 (Mem.own (us := [.slice _ _ _, .slice _ _ _, .int .i64 _]) 1 rf rf) rf, by rfl, trivial⟩ HSub.nil ?_
  exact BegV.no c2
 ·
  try simp only [qz1, qz2, qz3, qz4, qz5, qz6, qz7, qz8] at c2
  refine zU ?_
  refine W_seq ?_
  refine W_draw0 hF Tryzmixed [8] dk0 (fun ds => ?_)
  refine P_det rf (Over_nil (y_move (c := .slice _ _ _) rf)) ?_
  refine P_new rf rf (Over_nil (y_callL rf rf Tryz.call72 (fun w hw => cloneN_any ta _ tcap D w htn (hD.st w hw)))) ?_
  refine P_det rf (Over_out rf (Over_nil (y_move (c := .slice _ _ _) rf))) ?_
  refine P_det rf (Over_out rf (Over_nil (y_len rf Tryz.runUnderlying22))) ?_
  refine P_new rf rf (Over_out rf (Over_nil (YR.mono (y_makeRow (n := D.length) rf rf rf rf Tryz.underlying22 infInt rf rf om0 om0 (zeros_iv D l)) (fun v Hn h => (show ∃ z2 q2, v = .slice z2 (begC0 l D).inn.length q2 ∧ NewRow 3 1 (begC0 l D).inn.length (iv (begC0 l D).inn) (.slice z2 (begC0 l D).inn.length q2) Hn by rw [begC0_inn]; obtain ⟨z2, q2, rfl, hr⟩ := h; exact ⟨z2, q2, rfl, z2, q2, rfl, hr⟩))))) ?_
  refine P_det rf (Over_out rf (Over_out rf (Over_nil (y_fieldAddr rf fa59_0)))) ?_
  refine P_det rf (Over_out rf (Over_out rf (Over_nil (y_load1 rf Tryz.isAgg3 (Mem.own1 0 rf rf))))) ?_
  refine P_ali [23, 20] (aggP [.inr 20, .inr 23, .inl _]) rf rf rf (aggP_congr rf) (Over_in rf (Over_in rf (Over_nil (by intro vb6 l20 hb6; obtain ⟨z1, q1, rfl, hr1⟩ := hb6; intro vb7 l23 hb7; obtain ⟨z2, q2, rfl, hr2⟩ := hb7; exact (YD0_of (y_buildL bd24_0_1_2 rf)))))) ?_
  refine P_newSD 26 rf rf rf (Over_out rf (Over_out rf (Over_out rf (Over_nil (y_alloc Tryz.zeroValue24 rf))))) ?_
  refine P_st 8 0 rf rf rf rf rf (Over_in rf (Over_in rf (Over_in rf (Over_nil (by intro vb9 l20 hb9; obtain ⟨z1, q1, rfl, hr1⟩ := hb9; intro vb10 l23 hb10; obtain ⟨z2, q2, rfl, hr2⟩ := hb10; rintro vb11 _ ⟨hvb11, rfl⟩; replace hvb11 : vb11 = .agg #[.slice _ _ _, .slice _ _ _, .int .i64 _] := hvb11; subst hvb11; exact (st_newD rf rf Tryz.sizeOf24 rf rf d20)))))) ?_
  refine PW_end rf ?_
  refine OverAll_cons (fun w8 l8 => ?_)
  refine OverAll_cons (fun w26 l26 => ?_)
  refine OverAll_cons (fun w23 l23 => ?_)
  refine OverAll_cons (fun w20 l20 => ?_)
  refine OverAll_nil ?_
  rintro ⟨⟨⟨⟨-, h8⟩, h26⟩, h23⟩, h20⟩
  obtain ⟨z1, q1, rfl, hr1⟩ := h20
  obtain ⟨z2, q2, rfl, hr2⟩ := h23
  obtain ⟨h26, rfl⟩ := h26
  replace h26 : w26 = .agg #[.slice _ _ _, .slice _ _ _, .int .i64 _] := h26
  subst h26
  obtain ⟨bc, rfl, rfl⟩ := h8
  refine Then_normal ?_
  refine W_seq ?_
  refine W_seq ?_
  refine W_rot2 ?_
  refine W_region_lit (fun ds => ?_)
  refine zD hF (y_loadN rf Tryz.isAgg24 Tryz.sizeOf24 (Mem.own (us := [.slice _ _ _, .slice _ _ _, .int .i64 _]) 0 rf rf) rf) ?_
  refine zD hF (y_callL rf rf Tryz.call47 (fun w hw => ccheck_any (begC0 l D) z1 q1 z2 q2 w (hG.st w hw) htn (by rw [begC0_inn]; exact htn) (NewRow.ints hr1 rfl sbA w hw) (NewRow.ints hr2 rfl sbA w hw))) ?_
  refine za (.int .i64 _) hF ?_
  refine zP fun ds => ?_
  refine zm (.int .i64 _) hF ?_
  refine zD hF (y_neq rf rf) ?_
  refine zN ?_
  refine W_cond rf (fun c6 => ?_) (fun c6 => ?_)
  ·
   try simp only [qz1, qz2, qz3, qz4, qz5, qz6, qz7, qz8] at c6
   refine zR fun ds => ?_
   refine zD hF (y_buildL bd24 rf) ?_
   refine zm (.int .i64 _) hF ?_
   refine WS_store hF (us := [.slice _ _ _, .slice _ _ _, .int .i64 _]) (i := 2) rf rf Tryz.sizeOf24 rf rf rf d20 ?_
   refine za (.int .i64 _) hF ?_
   refine zN ?_
   refine W_ret ?_
   refine Then_ret ?_
   refine Fin_ret [_, .int .i64 _] [] Tryz.results29 ⟨lvN rf Tryz.isAgg24 Tryz.sizeOf24 (Mem.own (us := [.slice _ _ _, .slice _ _ _, .int .i64 _]) 2 rf rf) rf, by rfl, trivial⟩ HSub.nil ?_
   obtain ⟨h3, h4⟩ := Cn.err_no c6
   rw [h4]
   exact BegV.bad c2 h3
  ·
   try simp only [qz1, qz2, qz3, qz4, qz5, qz6, qz7, qz8] at c6
   refine W_skip ?_
   refine zS fun ds => ?_
   refine zD hF (y_loadN rf Tryz.isAgg24 Tryz.sizeOf24 (Mem.own (us := [.slice _ _ _, .slice _ _ _, .int .i64 _]) 0 rf rf) rf) ?_
   refine WS_store hF (us := [.slice _ _ _, .slice _ _ _, .int .i64 _]) (i := 2) rf rf Tryz.sizeOf24 rf rf rf d20 ?_
   refine za (.int .i64 _) hF ?_
   refine zN ?_
   refine W_ret ?_
   refine Fin_ret [_, .int .i64 _] (l20 ++ l23) Tryz.results29 ⟨lvN rf Tryz.isAgg24 Tryz.sizeOf24 (Mem.own (us := [.slice _ _ _, .slice _ _ _, .int .i64 _]) 2 rf rf) rf, by rfl, trivial⟩ (HSub.sub sbA) ?_
   exact BegV.ok c2 (Cn.err_iff.1 c6) ⟨z1, q1, z2, q2, l20, l23, rfl, hr1, hr2, rfl⟩
set_option maxHeartbeats 2000000
def dayK (l : Lg) : Nat → Int
 | 0 => 0
 | k + 1 => (l.e k).day
def dK (c : Cn) (p : List Po) (k : Nat) : Int := (c.runK p (k + 1)).a - (c.runK p k).a
def wrX (d n : Int) : En := if n < 0 then ⟨d, 2, ⟨-n, -n⟩⟩ else ⟨d, 1, ⟨n, n⟩⟩
def wrK (l : Lg) (c : Cn) (p : List Po) : Nat → Lg
 | 0 => l
 | k + 1 => if dK c p k = 0 then wrK l c p k else (wrK l c p k).put (wrX (dayK l l.es.length) (dK c p k))
def wrE (l : Lg) (c : Cn) (p : List Po) (k : Nat) : Int := if dK c p k = 0 then 0 else (wrK l c p k).addE (wrX (dayK l l.es.length) (dK c p k))
def wrBad (l : Lg) (c : Cn) (p : List Po) : Nat → Nat → Option Nat
 | _, 0 => none
 | k, m + 1 => if wrE l c p k = 0 then wrBad l c p (k + 1) m else some k
def wtE (l : Lg) (c : Cn) (p : List Po) : Int := if l.err = 0 then if c.plE p = 0 then match wrBad l c p 0 p.length with | none => 0 | some k => wrE l c p k else c.plE p else l.err
def wtL (l : Lg) (c : Cn) (p : List Po) : Lg := if l.err = 0 then if c.plE p = 0 then match wrBad l c p 0 p.length with | none => wrK l c p p.length | some _ => Lg.zero else Lg.zero else Lg.zero
theorem wrBad_none {l : Lg} {c : Cn} {p : List Po} : ∀ {m k : Nat}, (∀ j, k ≤ j → j < k + m → wrE l c p j = 0) → wrBad l c p k m = none
 | 0, _, _ => rfl
 | m + 1, k, h => by
  unfold wrBad
  rw [if_pos (h k (Nat.le_refl _) om0)]
  exact wrBad_none fun j h1 h2 => h j om0 om0
theorem wrBad_some {l : Lg} {c : Cn} {p : List Po} {i : Nat} (hb : wrE l c p i ≠ 0) : ∀ {m k : Nat}, k ≤ i → i < k + m → (∀ j, k ≤ j → j < i → wrE l c p j = 0) → wrBad l c p k m = some i
 | 0, _, _, h2, _ => by omega
 | m + 1, k, h1, h2, h => by
  unfold wrBad
  by_cases hk : k = i
  ·subst hk; rw [if_neg hb]
  ·rw [if_pos (h k (Nat.le_refl _) om0)]
   exact wrBad_some hb om0 om0 fun j h3 h4 => h j om0 h4
theorem wrK_tk (l : Lg) (c : Cn) (p : List Po) : ∀ k, (wrK l c p k).tk = l.tk
 | 0 => rfl
 | k + 1 => by
  unfold wrK
  split
  ·exact wrK_tk l c p k
  ·exact wrK_tk l c p k
theorem Cn.badK_all {c : Cn} {l : List Po} : ∀ {m k : Nat}, c.badK l k m = none → ∀ j, k ≤ j → j < k + m → c.pE (c.runK l j) (l.getD j Po.z) = 0
 | 0, _, _, j, h1, h2 => by omega
 | m + 1, k, h, j, h1, h2 => by
  unfold Cn.badK at h
  split at h
  ·rename_i h0
   by_cases hj : j = k
   ·subst hj; exact h0
   ·exact Cn.badK_all h j om0 om0
  ·cases h
theorem Cn.plE_zero {c : Cn} {l : List Po} (h : c.plE l = 0) : c.okB = true ∧ ∀ j, j < l.length → c.pE (c.runK l j) (l.getD j Po.z) = 0 := by
 unfold Cn.plE at h
 split at h
 ·rename_i hok
  refine ⟨hok, fun j hj => ?_⟩
  cases hb : c.bad l with
  | none => exact Cn.badK_all hb j (Nat.zero_le _) om0
  | some k =>
   rw [hb] at h
   have hk : ∀ {m i : Nat}, c.badK l i m = some k → c.pE (c.runK l k) (l.getD k Po.z) ≠ 0 := by
    intro m
    induction m with
    | zero => intro i h; cases h
    | succ m ih =>
     intro i h
     unfold Cn.badK at h
     split at h
     ·exact ih h
     ·rename_i h0; cases h; exact h0
   exact absurd h (hk hb)
 ·cases h
theorem Cn.to_a (c : Cn) (x : Co) {f t : Nat} (hf : f < 4) (ht : t < 4) (hft : f ≠ t) : (c.to x f t).a = if f = 0 then x.a - c.amt x f t else if t = 0 then x.a + c.amt x f t else x.a := by
 have := c.to_g x hf ht (k := 0) dc
 change (c.to x f t).a = _ at this
 rw [this]
 by_cases h1 : f = 0
 ·subst h1
  rw [if_neg hft, if_pos rfl, if_pos rfl]; rfl
 ·by_cases h2 : t = 0
  ·subst h2
   rw [if_pos rfl, if_neg h1, if_pos rfl]; rfl
  ·rw [if_neg (Ne.symm h2), if_neg (Ne.symm h1), if_neg h1, if_neg h2]; rfl
theorem dK_facts {c : Cn} {p : List Po} {k : Nat} (hok : c.Ok) (hp : c.pE (c.runK p k) (p.getD k Po.z) = 0) : (dK c p k = 0 ↔ (p.getD k Po.z).f ≠ 0 ∧ (p.getD k Po.z).t ≠ 0) := by
 have h3 := hok.n3
 obtain ⟨hv, hc⟩ := Cn.pE_zero.1 hp
 have hv' := Cn.vld_iff.1 hv
 have hc' := (Cn.canB_iff.1 hc).2
 have ha := c.to_a (c.runK p k) (f := (p.getD k Po.z).f.toNat) (t := (p.getD k Po.z).t.toNat) om0 om0 om0
 have hr : c.runK p (k + 1) = c.to (c.runK p k) (p.getD k Po.z).f.toNat (p.getD k Po.z).t.toNat := rfl
 unfold dK
 rw [hr, ha]
 generalize c.amt (c.runK p k) (p.getD k Po.z).f.toNat (p.getD k Po.z).t.toNat = m at *
 split
 ·omega
 ·split <;> omega
def WrtV (l : Lg) (c : Cn) (p : List Po) (v : Value) (Hn : List Blk) : Prop := ∃ v0, v = .tuple #[v0, .int .i64 (wtE l c p)] ∧ TwinL (wtL l c p) v0 Hn
theorem WrtV.bad {l : Lg} {c : Cn} {p : List Po} (h : ¬ l.err = 0) : WrtV l c p (.tuple #[zeroLg, .int .i64 l.err]) [] := by
 refine ⟨zeroLg, ?_, ?_⟩
 ·unfold wtE; rw [if_neg h]
 ·unfold wtL; rw [if_neg h]; exact twin_zero
theorem WrtV.play {l : Lg} {c : Cn} {p : List Po} (h : l.err = 0) (hp : ¬ c.plE p = 0) : WrtV l c p (.tuple #[zeroLg, .int .i64 (c.plE p)]) [] := by
 refine ⟨zeroLg, ?_, ?_⟩
 ·unfold wtE; rw [if_pos h, if_neg hp]
 ·unfold wtL; rw [if_pos h, if_neg hp]; exact twin_zero
theorem WrtV.stop {l : Lg} {c : Cn} {p : List Po} {k : Nat} {e : Int} (h : l.err = 0) (hp : c.plE p = 0) (hk : k < p.length) (hj : ∀ j, j < k → wrE l c p j = 0) (he : wrE l c p k = e) (h0 : ¬ e = 0) : WrtV l c p (.tuple #[zeroLg, .int .i64 e]) [] := by
 have hb : wrBad l c p 0 p.length = some k := wrBad_some (by rw [he]; exact h0) (Nat.zero_le _) om0 fun j _ h => hj j h
 refine ⟨zeroLg, ?_, ?_⟩
 ·unfold wtE; rw [if_pos h, if_pos hp, hb]; simp only [he]
 ·unfold wtL; rw [if_pos h, if_pos hp, hb]; exact twin_zero
theorem WrtV.go {l : Lg} {c : Cn} {p : List Po} {v0 : Value} {Hn : List Blk} (h : l.err = 0) (hp : c.plE p = 0) (hj : ∀ j, j < p.length → wrE l c p j = 0) (hT : TwinL (wrK l c p p.length) v0 Hn) : WrtV l c p (.tuple #[v0, .int .i64 0]) Hn := by
 have hb : wrBad l c p 0 p.length = none := wrBad_none fun j _ h => hj j om0
 refine ⟨v0, ?_, ?_⟩
 ·unfold wtE; rw [if_pos h, if_pos hp, hb]
 ·unfold wtL; rw [if_pos h, if_pos hp, hb]; exact hT
def RdI (w0 : World) (Hs : List Blk) (a : Option Addr) (n cap : Nat) (xs : List Int) : Prop := ∀ (C : Ctx) (H : List Blk) (w : World), C.w0 = w0 → Hs.Sublist H → St C H w → Ints w a n cap xs
theorem RdI.old {w0 : World} {Hs : List Blk} {a : Option Addr} {n cap : Nat} {xs : List Int} (h : Ints w0 a n cap xs) : RdI w0 Hs a n cap xs := fun C H w hC _ hw => by subst hC; exact h.st w hw
theorem RdI.new {w0 : World} {Hs : List Blk} {a : Option Addr} {n cap : Nat} {xs : List Int} {T : TypeId} {Hn : List Blk} (h : NewRow T 1 n (iv xs) (.slice a n cap) Hn) (hl : xs.length = n) (hs : Hn.Sublist Hs) : RdI w0 Hs a n cap xs := fun C H w _ h2 hw => NewRow.ints h hl (hs.trans h2) w hw
def lgV (l : Lg) (a : Option Addr) (cap : Nat) (ae : Option Addr) (cape : Nat) : List Value := [.slice a l.tk.n cap, .int .i64 l.tk.leak, .int .i64 l.tk.foot, .int .i64 l.start.lo, .int .i64 l.start.hi, .slice ae l.es.length cape]
def cnV (c : Cn) (a1 : Option Addr) (p1 : Nat) (a2 : Option Addr) (p2 : Nat) : List Value := [.slice a1 c.n p1, .slice a2 c.inn.length p2, .int .i64 c.st]
theorem twinL_of {l : Lg} {a : Option Addr} {cap : Nat} {ae : Option Addr} {cape : Nat} {Hn : List Blk} (h : TwinL l (.agg (lgV l a cap ae cape).toArray) Hn) : ∃ H1 H2, NewRow 3 1 l.tk.n (iv l.tk.pints) (.slice a l.tk.n cap) H1 ∧ NewRow 90 4 l.es.length (rowOf En.cells l.e l.es.length) (.slice ae l.es.length cape) H2 ∧ Hn = H1 ++ H2 := by
 obtain ⟨_, _, _, _, H1, H2, he, h1, h2, rfl⟩ := h
 cases he
 exact ⟨H1, H2, h1, h2, rfl⟩
set_option maxHeartbeats 1000000
theorem bd47_0 {x0 : Int} : ∀ w, (Instr.build 47 #[(0, .int .i64 x0)]).run Tryz.prog w = .ok (.agg #[.int .i64 x0, .int .i64 0]) w := fun w => by kernel_rfl
theorem bd47_1 {x1 : Int} : ∀ w, (Instr.build 47 #[(1, .int .i64 x1)]).run Tryz.prog w = .ok (.agg #[.int .i64 0, .int .i64 x1]) w := fun w => by kernel_rfl
theorem bd90_0_1_2 {x0 : Int} {x1 : Int} {x2_0 : Int} {x2_1 : Int} : ∀ w, (Instr.build 90 #[(0, .int .i64 x0), (1, .int .i64 x1), (2, .agg #[.int .i64 x2_0, .int .i64 x2_1])]).run Tryz.prog w = .ok (.agg #[.int .i64 x0, .int .i64 x1, .int .i64 x2_0, .int .i64 x2_1]) w := fun w => by kernel_rfl
theorem kpK_nil (n : Nat) : kpK [] n = List.range n := by
 unfold kpK
 rw [List.filter_eq_self]
 intro i _
 rfl
theorem Lg.wo_nil (l : Lg) : l.wo [] = l := by
 have h : (kpK [] l.es.length).map l.e = l.es := by
  rw [kpK_nil]
  apply List.ext_getElem
  ·simp
  ·intro i h1 h2
   simp [Lg.e, List.getD_eq_getElem?_getD, h2]
 show (⟨l.tk, l.start, (kpK [] l.es.length).map l.e⟩ : Lg) = l
 rw [h]
theorem Lg.strL_nil {l : Lg} (h : l.err = 0) : l.strE [] = 0 ∧ l.strL [] = l := by
 have h1 : l.strE [] = 0 := by unfold Lg.strE; rw [if_pos h]; rfl
 refine ⟨h1, ?_⟩
 unfold Lg.strL
 rw [if_pos h1, l.wo_nil]
theorem written_any (l : Lg) (a : Option Addr) (cap : Nat) (ae : Option Addr) (cape : Nat) (c : Cn) (a1 : Option Addr) (p1 : Nat) (a2 : Option Addr) (p2 : Nat) (p : List Po) (la : Option Addr) (lcap : Nat) (w : World) (hG : Gv w) (hpl : p.length ≤ 1000000) (hgn : l.tk.n ≤ 1000000) (hge : l.es.length ≤ 1000000) (hx : Ints w a l.tk.n cap l.tk.pints) (he : Ens w ae l.es.length cape l.es) (hn : c.n ≤ 1000000) (hm : c.inn.length ≤ 1000000) (h1 : Ints w a1 c.n p1 c.sz) (h2 : Ints w a2 c.inn.length p2 c.inn) (hp : Pos w la p.length lcap p) :
  Ct Tryz.prog 32 #[.agg #[.slice a l.tk.n cap, .int .i64 l.tk.leak, .int .i64 l.tk.foot, .int .i64 l.start.lo, .int .i64 l.start.hi, .slice ae l.es.length cape], .agg #[.slice a1 c.n p1, .slice a2 c.inn.length p2, .int .i64 c.st], .slice la p.length lcap] w (WrtV l c p) := by
 have hF := wide_wide
 refine Ct_start (args := [_, _, _]) Tryz.func32 rf Tryz.ntmps32 rf ?_
 refine zR fun ds => ?_
 refine WS_new hF rf (y_box rf) (fun b1 => ?_)
 refine WS_new hF rf (y_box rf) (fun b2 => ?_)
 refine WS_new hF rf (y_alloc Tryz.zeroValue62 rf) (fun b3 => ?_)
 refine za (.int .i64 _) hF ?_
 refine zO ?_
 refine zR fun ds => ?_
 refine zD hF (y_loadN rf Tryz.isAgg62 Tryz.sizeOf62 (Mem.own (us := [.slice _ _ _, .int .i64 _, .int .i64 _, .int .i64 _, .int .i64 _, .slice _ _ _]) 2 rf rf) rf) ?_
 refine zD hF (y_callL rf rf Tryz.call77 (fun w hw => valid_any l a cap ae cape w hgn (hx.st w hw) (he.st w hw))) ?_
 refine za (.int .i64 _) hF ?_
 refine zP fun ds => ?_
 refine zm (.int .i64 _) hF ?_
 refine zD hF (y_neq rf rf) ?_
 refine zN ?_
 refine W_cond rf (fun c2 => ?_) (fun c2 => ?_)
 ·
  try simp only [qz1, qz2, qz3, qz4, qz5, qz6, qz7, qz8] at c2
  refine zR fun ds => ?_
  refine zD hF (y_buildL bd62 rf) ?_
  refine zm (.int .i64 _) hF ?_
  refine WS_store hF (us := [.slice _ _ _, .int .i64 _, .int .i64 _, .int .i64 _, .int .i64 _, .slice _ _ _]) (i := 0) rf rf Tryz.sizeOf62 rf rf rf d20 ?_
  refine za (.int .i64 _) hF ?_
  refine zN ?_
  refine W_ret ?_
  refine Then_ret ?_
  refine Fin_ret [_, .int .i64 _] [] Tryz.results32 ⟨lvN rf Tryz.isAgg62 Tryz.sizeOf62 (Mem.own (us := [.slice _ _ _, .int .i64 _, .int .i64 _, .int .i64 _, .int .i64 _, .slice _ _ _]) 0 rf rf) rf, by rfl, trivial⟩ HSub.nil ?_
  exact WrtV.bad c2
 ·
  try simp only [qz1, qz2, qz3, qz4, qz5, qz6, qz7, qz8] at c2
  refine zU ?_
  refine W_seq ?_
  refine zR fun ds => ?_
  refine zD hF (y_loadN rf Tryz.isAgg24 Tryz.sizeOf24 (Mem.own (us := [.slice _ _ _, .slice _ _ _, .int .i64 _]) 1 rf rf) rf) ?_
  refine zm (.slice _ _ _) hF ?_
  refine WS_gen hF rf (y_callL rf rf Tryz.call39 (fun w hw => play_any c a1 p1 a2 p2 p la lcap w (hG.st w hw) hpl hn hm (h1.st w hw) (h2.st w hw) (hp.st w hw))) ?_
  rintro _ _ ⟨_, rfl, _, _, _, _, H1, H2, rfl, _, _, rfl⟩
  refine WS_back ?_
  refine zm (.tuple _) hF ?_
  refine zD hF (y_extract (c := .agg _) rf rf) ?_
  refine zD hF (y_extract (c := .int .i64 _) rf rf) ?_
  refine zD hF (y_extract (c := .int .i64 _) rf rf) ?_
  refine zD hF (y_extract (c := .int .i64 _) rf rf) ?_
  refine WS_new hF rf (y_alloc Tryz.zeroValue24 rf) (fun b4 => ?_)
  refine WS_store hF (us := [.slice _ _ _, .slice _ _ _, .int .i64 _]) (i := 0) rf rf Tryz.sizeOf24 rf rf rf d20 ?_
  refine za (.int .i64 _) hF ?_
  refine za (.int .i64 _) hF ?_
  refine za (.int .i64 _) hF ?_
  refine zP fun ds => ?_
  refine zm (.int .i64 _) hF ?_
  refine zD hF (y_neq rf rf) ?_
  refine zN ?_
  refine W_cond rf (fun c5 => ?_) (fun c5 => ?_)
  ·
   try simp only [qz1, qz2, qz3, qz4, qz5, qz6, qz7, qz8] at c5
   refine zR fun ds => ?_
   refine zD hF (y_buildL bd62 rf) ?_
   refine zm (.int .i64 _) hF ?_
   refine WS_store hF (us := [.slice _ _ _, .int .i64 _, .int .i64 _, .int .i64 _, .int .i64 _, .slice _ _ _]) (i := 1) rf rf Tryz.sizeOf62 rf rf rf d20 ?_
   refine za (.int .i64 _) hF ?_
   refine zN ?_
   refine W_ret ?_
   refine Then_ret ?_
   refine Fin_ret [_, .int .i64 _] [] Tryz.results32 ⟨lvN rf Tryz.isAgg62 Tryz.sizeOf62 (Mem.own (us := [.slice _ _ _, .int .i64 _, .int .i64 _, .int .i64 _, .int .i64 _, .slice _ _ _]) 1 rf rf) rf, by rfl, trivial⟩ HSub.nil ?_
   exact WrtV.play c2 c5
  ·
   try simp only [qz1, qz2, qz3, qz4, qz5, qz6, qz7, qz8] at c5
   obtain ⟨hokB, hpj⟩ := Cn.plE_zero c5
   have hok := Cn.ok_iff.1 hokB
   have hn3 := hok.n3
   refine W_skip ?_
   refine zS fun ds => ?_
   refine za (.int .i64 _) hF ?_
   refine zO ?_
   refine zR fun ds => ?_
   refine zD hF (y_fieldAddr rf fa62_2) ?_
   refine zD hF (y_load1 rf Tryz.isAgg60 (Mem.own1 3 rf rf)) ?_
   refine zD hF (y_len rf Tryz.runUnderlying60) ?_
   refine zm (.int .i64 _) hF ?_
   refine zN ?_
   refine W_block ?_
   refine W_loop (γ := Nat) (fun k => k ≤ l.es.length) (fun k => [(2, .slice la p.length lcap), (3, .pointer (some ⟨b1, 0, none⟩)), (4, .pointer (some ⟨b2, 0, none⟩)), (6, .pointer (some ⟨b3, 0, none⟩)), (13, .int .i64 (dayK l k)), (44, .slice ae l.es.length cape), (45, .int .i64 (l.es.length : Int)), (46, .int .i64 (k : Int))]) (fun k => [(b3, CB [.slice none 0 0, .int .i64 0, .int .i64 0, .int .i64 0, .int .i64 0, .slice none 0 0] 62), (b2, CB [.slice a1 c.n p1, .slice a2 c.inn.length p2, .int .i64 c.st] 24), (b1, CB [.slice a l.tk.n cap, .int .i64 l.tk.leak, .int .i64 l.tk.foot, .int .i64 l.start.lo, .int .i64 l.start.hi, .slice ae l.es.length cape] 62)]) (fun k => l.es.length - k) (0) (Nat.zero_le _) s10 (sbA) ?_
   rintro k e hk
   refine zR fun ds => ?_
   refine zD hF (y_lss rf rf) ?_
   refine zO ?_
   refine W_cond rf (fun c9 => ?_) (fun c9 => ?_)
   ·
    try simp only [qz1, qz2, qz3, qz4, qz5, qz6, qz7, qz8] at c9
    obtain ⟨b, o, rfl, hce⟩ := he.cell k om0
    change At w b _ (l.e k).cells at hce
    refine zU ?_
    refine W_seq ?_
    refine W_block ?_
    refine zR fun ds => ?_
    refine zD hF (y_index (k := k) rf rf r1 d10 Tryz.runUnderlying60 Tryz.sizeOf90) ?_
    refine zD hF (y_loadN rf Tryz.isAgg90 Tryz.sizeOf90 (zq [.int .i64 _, .int .i64 _, .int .i64 _, .int .i64 _]) rf) ?_
    refine WS_new hF rf (y_alloc Tryz.zeroValue90 rf) (fun b5 => ?_)
    refine WS_store hF (us := [.int .i64 _, .int .i64 _, .int .i64 _, .int .i64 _]) (i := 0) rf rf Tryz.sizeOf90 rf rf rf d20 ?_
    refine zQ fun ds => ?_
    refine zD hF (y_fieldAddr rf fa90_0) ?_
    refine zD hF (y_load1 rf Tryz.isAgg3 (Mem.own1 0 rf rf)) ?_
    refine za (.int .i64 _) hF ?_
    refine WS_nil ?_
    refine InB_normal ?_
    refine zT fun ds => ?_
    refine zD hF (y_add rf rf ui) ?_
    refine zm (.int .i64 _) hF ?_
    refine WS_nil ?_
    exact Loop_next (k + 1) om0 s10 sbA om0
   ·
    try simp only [qz1, qz2, qz3, qz4, qz5, qz6, qz7, qz8] at c9
    obtain rfl : k = l.es.length := by omega
    refine W_exit ?_
    refine Then_exit ?_
    refine Loop_exit ?_
    refine InB_same ?_
    refine zS fun ds => ?_
    refine zD hF (y_loadN rf Tryz.isAgg24 Tryz.sizeOf24 (Mem.own (us := [.slice _ _ _, .slice _ _ _, .int .i64 _]) 1 rf rf) rf) ?_
    refine zD hF (y_buildL bd92_0 rf) ?_
    refine WS_new hF rf (y_alloc Tryz.zeroValue92 rf) (fun bb => ?_)
    refine WS_store hF (us := [.slice _ _ _, .slice _ _ _, .int .i64 _]) (i := 0) rf rf Tryz.sizeOf92 rf rf rf d20 ?_
    refine zP fun ds => ?_
    refine zD hF (y_loadN rf Tryz.isAgg92 Tryz.sizeOf92 (Mem.own (us := [.slice _ _ _, .slice _ _ _, .int .i64 _]) 0 rf rf) rf) ?_
    refine zD hF (y_callL rf rf Tryz.call58 (fun w hw => bstart_any c a1 p1 a2 p2 w hok hn hm (h1.st w hw) (h2.st w hw))) ?_
    refine WS_new hF rf (y_alloc Tryz.zeroValue106 rf) (fun bx => ?_)
    refine WS_store hF (us := [.int .i64 _, .int .i64 _, .int .i64 _, .int .i64 _]) (i := 0) rf rf Tryz.sizeOf106 rf rf rf d20 ?_
    refine zP fun ds => ?_
    refine zD hF (y_loadN rf Tryz.isAgg62 Tryz.sizeOf62 (Mem.own (us := [.slice _ _ _, .int .i64 _, .int .i64 _, .int .i64 _, .int .i64 _, .slice _ _ _]) 4 rf rf) rf) ?_
    refine WS_gen hF rf (y_callL rf rf Tryz.call78 (fun w hw => strike_any l a cap ae cape none 0 0 [] w om0 (Ints.nil _ _ _) hgn (hx.st w hw) (he.st w hw))) ?_
    rintro _ HL hS0
    obtain ⟨v0, rfl, hT0⟩ := StrikeV.twin hS0
    rw [(Lg.strL_nil c2).1]
    rw [(Lg.strL_nil c2).2] at hT0
    obtain ⟨ga, gc, gae, gce, G1, G2, rfl, hg1, hg2, rfl⟩ := hT0
    refine WS_back ?_
    refine zm (.tuple _) hF ?_
    refine zD hF (y_extract (c := .agg _) rf rf) ?_
    refine zD hF (y_extract (c := .int .i64 _) rf rf) ?_
    refine WS_store hF (us := [.slice _ _ _, .int .i64 _, .int .i64 _, .int .i64 _, .int .i64 _, .slice _ _ _]) (i := 4) rf rf Tryz.sizeOf62 rf rf rf d20 ?_
    refine za (.int .i64 _) hF ?_
    refine zO ?_
    refine zR fun ds => ?_
    refine zm (.slice _ _ _) hF ?_
    refine zD hF (y_len rf Tryz.runUnderlying35) ?_
    refine zm (.int .i64 _) hF ?_
    refine zN ?_
    refine W_block ?_
    refine W_loop (γ := Nat × (Option Addr × Nat × Option Addr × Nat) × List Blk) (fun q => q.1 ≤ p.length ∧ (∀ j, j < q.1 → wrE l c p j = 0) ∧ (∃ HL, TwinL (wrK l c p q.1) (.agg (lgV (wrK l c p q.1) q.2.1.1 q.2.1.2.1 q.2.1.2.2.1 q.2.1.2.2.2).toArray) HL ∧ HL.Sublist q.2.2)) (fun q => [(3, .pointer (some ⟨b1, 0, none⟩)), (6, .pointer (some ⟨b3, 0, none⟩)), (13, .int .i64 (dayK l l.es.length)), (16, .pointer (some ⟨bb, 0, none⟩)), (17, .pointer (some ⟨bx, 0, none⟩)), (18, .int .i64 0), (62, .slice la p.length lcap), (63, .int .i64 (p.length : Int)), (64, .int .i64 (q.1 : Int))]) (fun q => (bx, CB (c.runK p q.1).cells 106) :: (bb, CB [.slice a1 c.n p1, .slice a2 c.inn.length p2, .int .i64 c.st] 92) :: (b3, CB [.slice none 0 0, .int .i64 0, .int .i64 0, .int .i64 0, .int .i64 0, .slice none 0 0] 62) :: (b1, CB (lgV (wrK l c p q.1) q.2.1.1 q.2.1.2.1 q.2.1.2.2.1 q.2.1.2.2.2) 62) :: q.2.2) (fun q => p.length - q.1) ((0, (ga, gc, gae, gce), G1 ++ G2)) ⟨Nat.zero_le _, (fun j h => absurd h (Nat.not_lt_zero _)), ⟨_, ⟨_, _, _, _, G1, G2, rfl, hg1, hg2, rfl⟩, List.Sublist.refl _⟩⟩ s10 (sbA) ?_
    rintro ⟨k, ⟨ga, gc, gae, gce⟩, HX⟩ e ⟨hk, hj, ⟨HL, hT, hHL⟩⟩
    refine zR fun ds => ?_
    refine zD hF (y_lss rf rf) ?_
    refine zO ?_
    refine W_cond rf (fun c17 => ?_) (fun c17 => ?_)
    ·
     try simp only [qz1, qz2, qz3, qz4, qz5, qz6, qz7, qz8] at c17
     have hin := hok.run_in (l := p) (k := k) fun j hj => hpj j om0
     have hin2 := hok.run_in (l := p) (k := k + 1) fun j hj => hpj j om0
     have hpk := hpj k om0
     have hdk := dK_facts hok hpk
     obtain ⟨hvk, hck⟩ := Cn.pE_zero.1 hpk
     have hto : (if c.noB (c.runK p k) (p.getD k Po.z).f.toNat (p.getD k Po.z).t.toNat then c.runK p k else c.to (c.runK p k) (p.getD k Po.z).f.toNat (p.getD k Po.z).t.toNat) = c.runK p (k + 1) := Cn.can_to hck
     obtain ⟨bp, op, rfl, hcp⟩ := hp.cell k om0
     change At w bp _ (p.getD k Po.z).cells at hcp
     have a1' : 0 ≤ (c.runK p k).a := hin.lo 0 dc
     have a2' : (c.runK p k).a ≤ 600 := hin.hi 0 (Nat.zero_le _)
     have a3' : 0 ≤ (c.runK p (k + 1)).a := hin2.lo 0 dc
     have a4' : (c.runK p (k + 1)).a ≤ 600 := hin2.hi 0 (Nat.zero_le _)
     refine zU ?_
     refine W_seq ?_
     refine W_block ?_
     refine zR fun ds => ?_
     refine zD hF (y_index (k := k) rf rf r1 d10 Tryz.runUnderlying35 Tryz.sizeOf47) ?_
     refine zD hF (y_loadN rf Tryz.isAgg47 Tryz.sizeOf47 (zq [.int .i64 _, .int .i64 _]) rf) ?_
     refine WS_new hF rf (y_alloc Tryz.zeroValue47 rf) (fun b6 => ?_)
     refine WS_store hF (us := [.int .i64 _, .int .i64 _]) (i := 0) rf rf Tryz.sizeOf47 rf rf rf d20 ?_
     refine zP fun ds => ?_
     refine zD hF (y_loadN rf Tryz.isAgg92 Tryz.sizeOf92 (Mem.own (us := [.slice _ _ _, .slice _ _ _, .int .i64 _]) 2 rf rf) rf) ?_
     refine zD hF (y_loadN rf Tryz.isAgg106 Tryz.sizeOf106 (Mem.own (us := [.int .i64 _, .int .i64 _, .int .i64 _, .int .i64 _]) 1 rf rf) rf) ?_
     refine zD hF (y_loadN rf Tryz.isAgg47 Tryz.sizeOf47 (Mem.own (us := [.int .i64 _, .int .i64 _]) 0 rf rf) rf) ?_
     refine zD hF (y_callL rf rf Tryz.call60 (fun w hw => bpourP_any c a1 p1 a2 p2 (c.runK p k) (p.getD k Po.z) w hok hn hm (h1.st w hw) (h2.st w hw) hin hvk)) ?_
     refine zm (.tuple _) hF ?_
     refine zD hF (y_extract (c := .agg _) rf rf) ?_
     refine zD hF (y_extract (c := .bool _) rf rf) ?_
     refine WS_new hF rf (y_alloc Tryz.zeroValue106 rf) (fun b7 => ?_)
     refine WS_store hF (us := [.int .i64 _, .int .i64 _, .int .i64 _, .int .i64 _]) (i := 0) rf rf Tryz.sizeOf106 rf rf rf d20 ?_
     refine za (.bool _) hF ?_
     refine zO ?_
     rw [hto]
     refine W_region_lit (fun ds => ?_)
     refine zD hF (y_indexA (k := 0) rf rf r1 d10 Tryz.runUnderlying106 Tryz.sizeOf3) ?_
     refine zD hF (y_load1 rf Tryz.isAgg3 (Mem.own1 0 rf rf)) ?_
     refine zD hF (y_indexA (k := 0) rf rf r1 d10 Tryz.runUnderlying106 Tryz.sizeOf3) ?_
     refine zD hF (y_load1 rf Tryz.isAgg3 (Mem.own1 2 rf rf)) ?_
     refine zD hF (y_sub rf rf (by unfold I64; simp only; omega)) ?_
     refine za (.int .i64 _) hF ?_
     refine zP fun ds => ?_
     refine zD hF (y_loadN rf Tryz.isAgg106 Tryz.sizeOf106 (Mem.own (us := [.int .i64 _, .int .i64 _, .int .i64 _, .int .i64 _]) 0 rf rf) rf) ?_
     refine WS_store hF (us := [.int .i64 _, .int .i64 _, .int .i64 _, .int .i64 _]) (i := 2) rf rf Tryz.sizeOf106 rf rf rf d20 ?_
     refine zO ?_
     refine zR fun ds => ?_
     refine zD hF (y_loadN rf Tryz.isAgg47 Tryz.sizeOf47 (Mem.own (us := [.int .i64 _, .int .i64 _]) 1 rf rf) rf) ?_
     refine zD hF (y_fieldAddr rf fa47_0) ?_
     refine zD hF (y_load1 rf Tryz.isAgg3 (Mem.own1 1 rf rf)) ?_
     refine zD hF (y_buildL bd47_0 rf) ?_
     refine zD hF (y_neqlA rf rf neqA47) ?_
     refine zm (.bool _) hF ?_
     refine WS_split 86 rf (fun g22_5 => ?_) (fun g22_5 => ?_)
     ·
      try simp only [qz1, qz2, qz3, qz4, qz5, qz6, qz7, qz8] at g22_5
      refine zD hF (y_loadN rf Tryz.isAgg47 Tryz.sizeOf47 (Mem.own (us := [.int .i64 _, .int .i64 _]) 1 rf rf) rf) ?_
      refine zD hF (y_fieldAddr rf fa47_1) ?_
      refine zD hF (y_load1 rf Tryz.isAgg3 (Mem.own1 1 rf rf)) ?_
      refine zD hF (y_buildL bd47_1 rf) ?_
      refine zD hF (y_neqlA rf rf neqA47) ?_
      refine zD hF (zpk (.bool _)) ?_
      refine zN ?_
      refine W_cond rf (fun c22 => ?_) (fun c22 => ?_)
      ·
       try simp only [qz1, qz2, qz3, qz4, qz5, qz6, qz7, qz8] at c22
       have hz : dK c p k = 0 := hdk.2 (by simp_all [ieq])
       have hK : wrK l c p (k + 1) = wrK l c p k := if_pos hz
       have hj2 : ∀ j, j < k + 1 → wrE l c p j = 0 := fun j h => by by_cases hjk : j = k; (subst hjk; exact if_pos hz); exact hj j om0
       have hT2 : TwinL (wrK l c p (k + 1)) (.agg (lgV (wrK l c p (k + 1)) ga gc gae gce).toArray) HL := by rw [hK]; exact hT
       rw [← hK]
       refine W_exit ?_
       refine Then_exit ?_
       refine InB_same ?_
       refine zT fun ds => ?_
       refine zD hF (y_add rf rf ui) ?_
       refine zm (.int .i64 _) hF ?_
       refine WS_nil ?_
       exact Loop_next (k + 1, (ga, gc, gae, gce), HX) ⟨by simp only; omega, hj2, ⟨HL, hT2, hHL⟩⟩ s10 sbA (by simp only; omega)
      ·
       try simp only [qz1, qz2, qz3, qz4, qz5, qz6, qz7, qz8] at c22
       have hz : ¬ dK c p k = 0 := fun h => (by have := hdk.1 h; simp_all [ieq])
       obtain ⟨G3, G4, hg3, hg4, rfl⟩ := twinL_of hT
       have hb1 : -600 ≤ dK c p k ∧ dK c p k ≤ 600 := ⟨by unfold dK; omega, by unfold dK; omega⟩
       have hg3s := (List.sublist_append_left G3 G4).trans hHL
       have hg4s := (List.sublist_append_right G3 G4).trans hHL
       refine W_skip ?_
       refine zS fun ds => ?_
       refine zm (.int .i64 _) hF ?_
       refine zm (.int .i64 _) hF ?_
       refine zm (.int .i64 _) hF ?_
       refine zD hF (y_buildL bd59_0_1 rf) ?_
       refine zD hF (y_buildL bd90_0_1_2 rf) ?_
       refine WS_new hF rf (y_alloc Tryz.zeroValue90 rf) (fun b8 => ?_)
       refine WS_store hF (us := [.int .i64 _, .int .i64 _, .int .i64 _, .int .i64 _]) (i := 0) rf rf Tryz.sizeOf90 rf rf rf d20 ?_
       refine zO ?_
       refine zR fun ds => ?_
       refine zm (.int .i64 _) hF ?_
       refine zD hF (y_lss rf rf) ?_
       refine zN ?_
       refine W_cond rf (fun c24 => ?_) (fun c24 => ?_)
       ·
        try simp only [qz1, qz2, qz3, qz4, qz5, qz6, qz7, qz8] at c24
        have hX : wrX (dayK l l.es.length) (dK c p k) = ⟨dayK l l.es.length, 2, ⟨-dK c p k, -dK c p k⟩⟩ := if_pos c24
        refine W_region_lit (fun ds => ?_)
        refine zm (.int .i64 _) hF ?_
        refine zD hF (y_neg rf (by show I64 (-dK c p k); unfold I64; omega)) ?_
        refine zm (.int .i64 _) hF ?_
        refine zD hF (y_neg rf (by show I64 (-dK c p k); unfold I64; omega)) ?_
        refine zD hF (y_buildL bd59_0_1 rf) ?_
        refine zD hF (y_fieldAddr rf fa90_1) ?_
        refine WS_store hF (us := [.int .i64 _]) (i := 0) rf rf Tryz.sizeOf3 rf rf rf d20 ?_
        refine zD hF (y_fieldAddr rf fa90_2) ?_
        refine WS_store hF (us := [.int .i64 _, .int .i64 _]) (i := 0) rf rf Tryz.sizeOf59 rf rf rf d20 ?_
        refine zP fun ds => ?_
        refine zD hF (y_loadN rf Tryz.isAgg62 Tryz.sizeOf62 (Mem.own (us := [.slice _ _ _, .int .i64 _, .int .i64 _, .int .i64 _, .int .i64 _, .slice _ _ _]) 6 rf rf) rf) ?_
        refine zD hF (y_loadN rf Tryz.isAgg90 Tryz.sizeOf90 (Mem.own (us := [.int .i64 _, .int .i64 _, .int .i64 _, .int .i64 _]) 0 rf rf) rf) ?_
        refine WS_gen hF rf (y_callL rf rf Tryz.call79 (fun w hw => add_any (wrK l c p k) ga gc gae gce ⟨dayK l l.es.length, 2, ⟨-dK c p k, -dK c p k⟩⟩ w (by rw [wrK_tk]; exact hgn) (NewRow.ints hg3 rfl (hg3s.trans sbA) w hw) (NewRow.rws en_len hg4 rfl (hg4s.trans sbA) w hw))) ?_
        rintro _ _ hT9
        obtain ⟨_, rfl, u1, v1, u2, v2, Q1, Q2, rfl, hu1, hu2, rfl⟩ := AddV.twin hT9
        refine WS_back ?_
        refine zm (.tuple _) hF ?_
        refine zD hF (y_extract (c := .agg _) rf rf) ?_
        refine zD hF (y_extract (c := .int .i64 _) rf rf) ?_
        refine WS_store hF (us := [.slice _ _ _, .int .i64 _, .int .i64 _, .int .i64 _, .int .i64 _, .slice _ _ _]) (i := 6) rf rf Tryz.sizeOf62 rf rf rf d20 ?_
        refine za (.int .i64 _) hF ?_
        refine zO ?_
        have hE : wrE l c p k = (wrK l c p k).addE (wrX (dayK l l.es.length) (dK c p k)) := if_neg hz
        have hL0 : (wrK l c p k).addE (wrX (dayK l l.es.length) (dK c p k)) = 0 → (wrK l c p k).addL (wrX (dayK l l.es.length) (dK c p k)) = wrK l c p (k + 1) := fun h => by
         unfold Lg.addL
         rw [if_pos h]
         exact (if_neg hz).symm
        rw [hX] at hE hL0
        refine W_region_lit (fun ds => ?_)
        refine zm (.int .i64 _) hF ?_
        refine zD hF (y_neq rf rf) ?_
        refine zN ?_
        refine W_cond rf (fun c27 => ?_) (fun c27 => ?_)
        ·
         try simp only [qz1, qz2, qz3, qz4, qz5, qz6, qz7, qz8] at c27
         refine zR fun ds => ?_
         refine zD hF (y_buildL bd62 rf) ?_
         refine zm (.int .i64 _) hF ?_
         refine WS_store hF (us := [.slice _ _ _, .int .i64 _, .int .i64 _, .int .i64 _, .int .i64 _, .slice _ _ _]) (i := 5) rf rf Tryz.sizeOf62 rf rf rf d20 ?_
         refine za (.int .i64 _) hF ?_
         refine zN ?_
         refine W_ret ?_
         refine InB_ret ?_
         refine Then_ret ?_
         refine Loop_ret ?_
         refine InB_ret ?_
         refine Then_ret ?_
         refine Fin_ret [_, .int .i64 _] [] Tryz.results32 ⟨lvN rf Tryz.isAgg62 Tryz.sizeOf62 (Mem.own (us := [.slice _ _ _, .int .i64 _, .int .i64 _, .int .i64 _, .int .i64 _, .slice _ _ _]) 5 rf rf) rf, by rfl, trivial⟩ HSub.nil ?_
         exact WrtV.stop c2 c5 om0 hj hE c27
        ·
         try simp only [qz1, qz2, qz3, qz4, qz5, qz6, qz7, qz8] at c27
         have hL := hL0 c27
         have hj2 : ∀ j, j < k + 1 → wrE l c p j = 0 := fun j h => by by_cases hjk : j = k; (subst hjk; exact hE.trans c27); exact hj j om0
         change NewRow _ _ ((wrK l c p k).addL _).tk.n _ _ _ at hu1
         rw [hL] at hu1 hu2
         have hT2 : TwinL (wrK l c p (k + 1)) (.agg (lgV (wrK l c p (k + 1)) u1 v1 u2 v2).toArray) (Q1 ++ Q2) := ⟨_, _, _, _, Q1, Q2, rfl, hu1, hu2, rfl⟩
         rw [show (wrK l c p k).addL _ = wrK l c p (k + 1) from hL, show (wrK l c p k).addE _ = 0 from c27]
         refine W_skip ?_
         refine InB_normal ?_
         refine zT fun ds => ?_
         refine zD hF (y_add rf rf ui) ?_
         refine zm (.int .i64 _) hF ?_
         refine WS_nil ?_
         exact Loop_next (k + 1, (u1, v1, u2, v2), HX ++ (Q1 ++ Q2)) ⟨by simp only; omega, hj2, ⟨Q1 ++ Q2, hT2, sbA⟩⟩ s10 sbA (by simp only; omega)
       ·
        try simp only [qz1, qz2, qz3, qz4, qz5, qz6, qz7, qz8] at c24
        have hX : wrX (dayK l l.es.length) (dK c p k) = ⟨dayK l l.es.length, 1, ⟨dK c p k, dK c p k⟩⟩ := if_neg (by show ¬ dK c p k < 0; have : 0 ≤ dK c p k := c24; omega)
        refine W_skip ?_
        refine zS fun ds => ?_
        refine zD hF (y_loadN rf Tryz.isAgg62 Tryz.sizeOf62 (Mem.own (us := [.slice _ _ _, .int .i64 _, .int .i64 _, .int .i64 _, .int .i64 _, .slice _ _ _]) 6 rf rf) rf) ?_
        refine zD hF (y_loadN rf Tryz.isAgg90 Tryz.sizeOf90 (Mem.own (us := [.int .i64 _, .int .i64 _, .int .i64 _, .int .i64 _]) 0 rf rf) rf) ?_
        refine WS_gen hF rf (y_callL rf rf Tryz.call79 (fun w hw => add_any (wrK l c p k) ga gc gae gce ⟨dayK l l.es.length, 1, ⟨dK c p k, dK c p k⟩⟩ w (by rw [wrK_tk]; exact hgn) (NewRow.ints hg3 rfl (hg3s.trans sbA) w hw) (NewRow.rws en_len hg4 rfl (hg4s.trans sbA) w hw))) ?_
        rintro _ _ hT9
        obtain ⟨_, rfl, u1, v1, u2, v2, Q1, Q2, rfl, hu1, hu2, rfl⟩ := AddV.twin hT9
        refine WS_back ?_
        refine zm (.tuple _) hF ?_
        refine zD hF (y_extract (c := .agg _) rf rf) ?_
        refine zD hF (y_extract (c := .int .i64 _) rf rf) ?_
        refine WS_store hF (us := [.slice _ _ _, .int .i64 _, .int .i64 _, .int .i64 _, .int .i64 _, .slice _ _ _]) (i := 6) rf rf Tryz.sizeOf62 rf rf rf d20 ?_
        refine za (.int .i64 _) hF ?_
        refine zO ?_
        have hE : wrE l c p k = (wrK l c p k).addE (wrX (dayK l l.es.length) (dK c p k)) := if_neg hz
        have hL0 : (wrK l c p k).addE (wrX (dayK l l.es.length) (dK c p k)) = 0 → (wrK l c p k).addL (wrX (dayK l l.es.length) (dK c p k)) = wrK l c p (k + 1) := fun h => by
         unfold Lg.addL
         rw [if_pos h]
         exact (if_neg hz).symm
        rw [hX] at hE hL0
        refine W_region_lit (fun ds => ?_)
        refine zm (.int .i64 _) hF ?_
        refine zD hF (y_neq rf rf) ?_
        refine zN ?_
        refine W_cond rf (fun c27 => ?_) (fun c27 => ?_)
        ·
         try simp only [qz1, qz2, qz3, qz4, qz5, qz6, qz7, qz8] at c27
         refine zR fun ds => ?_
         refine zD hF (y_buildL bd62 rf) ?_
         refine zm (.int .i64 _) hF ?_
         refine WS_store hF (us := [.slice _ _ _, .int .i64 _, .int .i64 _, .int .i64 _, .int .i64 _, .slice _ _ _]) (i := 5) rf rf Tryz.sizeOf62 rf rf rf d20 ?_
         refine za (.int .i64 _) hF ?_
         refine zN ?_
         refine W_ret ?_
         refine InB_ret ?_
         refine Then_ret ?_
         refine Loop_ret ?_
         refine InB_ret ?_
         refine Then_ret ?_
         refine Fin_ret [_, .int .i64 _] [] Tryz.results32 ⟨lvN rf Tryz.isAgg62 Tryz.sizeOf62 (Mem.own (us := [.slice _ _ _, .int .i64 _, .int .i64 _, .int .i64 _, .int .i64 _, .slice _ _ _]) 5 rf rf) rf, by rfl, trivial⟩ HSub.nil ?_
         exact WrtV.stop c2 c5 om0 hj hE c27
        ·
         try simp only [qz1, qz2, qz3, qz4, qz5, qz6, qz7, qz8] at c27
         have hL := hL0 c27
         have hj2 : ∀ j, j < k + 1 → wrE l c p j = 0 := fun j h => by by_cases hjk : j = k; (subst hjk; exact hE.trans c27); exact hj j om0
         change NewRow _ _ ((wrK l c p k).addL _).tk.n _ _ _ at hu1
         rw [hL] at hu1 hu2
         have hT2 : TwinL (wrK l c p (k + 1)) (.agg (lgV (wrK l c p (k + 1)) u1 v1 u2 v2).toArray) (Q1 ++ Q2) := ⟨_, _, _, _, Q1, Q2, rfl, hu1, hu2, rfl⟩
         rw [show (wrK l c p k).addL _ = wrK l c p (k + 1) from hL, show (wrK l c p k).addE _ = 0 from c27]
         refine W_skip ?_
         refine InB_normal ?_
         refine zT fun ds => ?_
         refine zD hF (y_add rf rf ui) ?_
         refine zm (.int .i64 _) hF ?_
         refine WS_nil ?_
         exact Loop_next (k + 1, (u1, v1, u2, v2), HX ++ (Q1 ++ Q2)) ⟨by simp only; omega, hj2, ⟨Q1 ++ Q2, hT2, sbA⟩⟩ s10 sbA (by simp only; omega)
     ·
      try simp only [qz1, qz2, qz3, qz4, qz5, qz6, qz7, qz8] at g22_5
      refine zno hF ?_
      refine zno hF ?_
      refine zno hF ?_
      refine zno hF ?_
      refine zno hF ?_
      refine zD hF (zpk (.bool _)) ?_
      refine zN ?_
      refine W_cond rf (fun c22 => ?_) (fun c22 => ?_)
      ·cases c22
      ·
       try simp only [qz1, qz2, qz3, qz4, qz5, qz6, qz7, qz8] at c22
       have hz : ¬ dK c p k = 0 := fun h => (by have := hdk.1 h; simp_all [ieq])
       obtain ⟨G3, G4, hg3, hg4, rfl⟩ := twinL_of hT
       have hb1 : -600 ≤ dK c p k ∧ dK c p k ≤ 600 := ⟨by unfold dK; omega, by unfold dK; omega⟩
       have hg3s := (List.sublist_append_left G3 G4).trans hHL
       have hg4s := (List.sublist_append_right G3 G4).trans hHL
       refine W_skip ?_
       refine zS fun ds => ?_
       refine zm (.int .i64 _) hF ?_
       refine zm (.int .i64 _) hF ?_
       refine zm (.int .i64 _) hF ?_
       refine zD hF (y_buildL bd59_0_1 rf) ?_
       refine zD hF (y_buildL bd90_0_1_2 rf) ?_
       refine WS_new hF rf (y_alloc Tryz.zeroValue90 rf) (fun b9 => ?_)
       refine WS_store hF (us := [.int .i64 _, .int .i64 _, .int .i64 _, .int .i64 _]) (i := 0) rf rf Tryz.sizeOf90 rf rf rf d20 ?_
       refine zO ?_
       refine zR fun ds => ?_
       refine zm (.int .i64 _) hF ?_
       refine zD hF (y_lss rf rf) ?_
       refine zN ?_
       refine W_cond rf (fun c24 => ?_) (fun c24 => ?_)
       ·
        try simp only [qz1, qz2, qz3, qz4, qz5, qz6, qz7, qz8] at c24
        have hX : wrX (dayK l l.es.length) (dK c p k) = ⟨dayK l l.es.length, 2, ⟨-dK c p k, -dK c p k⟩⟩ := if_pos c24
        refine W_region_lit (fun ds => ?_)
        refine zm (.int .i64 _) hF ?_
        refine zD hF (y_neg rf (by show I64 (-dK c p k); unfold I64; omega)) ?_
        refine zm (.int .i64 _) hF ?_
        refine zD hF (y_neg rf (by show I64 (-dK c p k); unfold I64; omega)) ?_
        refine zD hF (y_buildL bd59_0_1 rf) ?_
        refine zD hF (y_fieldAddr rf fa90_1) ?_
        refine WS_store hF (us := [.int .i64 _]) (i := 0) rf rf Tryz.sizeOf3 rf rf rf d20 ?_
        refine zD hF (y_fieldAddr rf fa90_2) ?_
        refine WS_store hF (us := [.int .i64 _, .int .i64 _]) (i := 0) rf rf Tryz.sizeOf59 rf rf rf d20 ?_
        refine zP fun ds => ?_
        refine zD hF (y_loadN rf Tryz.isAgg62 Tryz.sizeOf62 (Mem.own (us := [.slice _ _ _, .int .i64 _, .int .i64 _, .int .i64 _, .int .i64 _, .slice _ _ _]) 6 rf rf) rf) ?_
        refine zD hF (y_loadN rf Tryz.isAgg90 Tryz.sizeOf90 (Mem.own (us := [.int .i64 _, .int .i64 _, .int .i64 _, .int .i64 _]) 0 rf rf) rf) ?_
        refine WS_gen hF rf (y_callL rf rf Tryz.call79 (fun w hw => add_any (wrK l c p k) ga gc gae gce ⟨dayK l l.es.length, 2, ⟨-dK c p k, -dK c p k⟩⟩ w (by rw [wrK_tk]; exact hgn) (NewRow.ints hg3 rfl (hg3s.trans sbA) w hw) (NewRow.rws en_len hg4 rfl (hg4s.trans sbA) w hw))) ?_
        rintro _ _ hT9
        obtain ⟨_, rfl, u1, v1, u2, v2, Q1, Q2, rfl, hu1, hu2, rfl⟩ := AddV.twin hT9
        refine WS_back ?_
        refine zm (.tuple _) hF ?_
        refine zD hF (y_extract (c := .agg _) rf rf) ?_
        refine zD hF (y_extract (c := .int .i64 _) rf rf) ?_
        refine WS_store hF (us := [.slice _ _ _, .int .i64 _, .int .i64 _, .int .i64 _, .int .i64 _, .slice _ _ _]) (i := 6) rf rf Tryz.sizeOf62 rf rf rf d20 ?_
        refine za (.int .i64 _) hF ?_
        refine zO ?_
        have hE : wrE l c p k = (wrK l c p k).addE (wrX (dayK l l.es.length) (dK c p k)) := if_neg hz
        have hL0 : (wrK l c p k).addE (wrX (dayK l l.es.length) (dK c p k)) = 0 → (wrK l c p k).addL (wrX (dayK l l.es.length) (dK c p k)) = wrK l c p (k + 1) := fun h => by
         unfold Lg.addL
         rw [if_pos h]
         exact (if_neg hz).symm
        rw [hX] at hE hL0
        refine W_region_lit (fun ds => ?_)
        refine zm (.int .i64 _) hF ?_
        refine zD hF (y_neq rf rf) ?_
        refine zN ?_
        refine W_cond rf (fun c27 => ?_) (fun c27 => ?_)
        ·
         try simp only [qz1, qz2, qz3, qz4, qz5, qz6, qz7, qz8] at c27
         refine zR fun ds => ?_
         refine zD hF (y_buildL bd62 rf) ?_
         refine zm (.int .i64 _) hF ?_
         refine WS_store hF (us := [.slice _ _ _, .int .i64 _, .int .i64 _, .int .i64 _, .int .i64 _, .slice _ _ _]) (i := 5) rf rf Tryz.sizeOf62 rf rf rf d20 ?_
         refine za (.int .i64 _) hF ?_
         refine zN ?_
         refine W_ret ?_
         refine InB_ret ?_
         refine Then_ret ?_
         refine Loop_ret ?_
         refine InB_ret ?_
         refine Then_ret ?_
         refine Fin_ret [_, .int .i64 _] [] Tryz.results32 ⟨lvN rf Tryz.isAgg62 Tryz.sizeOf62 (Mem.own (us := [.slice _ _ _, .int .i64 _, .int .i64 _, .int .i64 _, .int .i64 _, .slice _ _ _]) 5 rf rf) rf, by rfl, trivial⟩ HSub.nil ?_
         exact WrtV.stop c2 c5 om0 hj hE c27
        ·
         try simp only [qz1, qz2, qz3, qz4, qz5, qz6, qz7, qz8] at c27
         have hL := hL0 c27
         have hj2 : ∀ j, j < k + 1 → wrE l c p j = 0 := fun j h => by by_cases hjk : j = k; (subst hjk; exact hE.trans c27); exact hj j om0
         change NewRow _ _ ((wrK l c p k).addL _).tk.n _ _ _ at hu1
         rw [hL] at hu1 hu2
         have hT2 : TwinL (wrK l c p (k + 1)) (.agg (lgV (wrK l c p (k + 1)) u1 v1 u2 v2).toArray) (Q1 ++ Q2) := ⟨_, _, _, _, Q1, Q2, rfl, hu1, hu2, rfl⟩
         rw [show (wrK l c p k).addL _ = wrK l c p (k + 1) from hL, show (wrK l c p k).addE _ = 0 from c27]
         refine W_skip ?_
         refine InB_normal ?_
         refine zT fun ds => ?_
         refine zD hF (y_add rf rf ui) ?_
         refine zm (.int .i64 _) hF ?_
         refine WS_nil ?_
         exact Loop_next (k + 1, (u1, v1, u2, v2), HX ++ (Q1 ++ Q2)) ⟨by simp only; omega, hj2, ⟨Q1 ++ Q2, hT2, sbA⟩⟩ s10 sbA (by simp only; omega)
       ·
        try simp only [qz1, qz2, qz3, qz4, qz5, qz6, qz7, qz8] at c24
        have hX : wrX (dayK l l.es.length) (dK c p k) = ⟨dayK l l.es.length, 1, ⟨dK c p k, dK c p k⟩⟩ := if_neg (by show ¬ dK c p k < 0; have : 0 ≤ dK c p k := c24; omega)
        refine W_skip ?_
        refine zS fun ds => ?_
        refine zD hF (y_loadN rf Tryz.isAgg62 Tryz.sizeOf62 (Mem.own (us := [.slice _ _ _, .int .i64 _, .int .i64 _, .int .i64 _, .int .i64 _, .slice _ _ _]) 6 rf rf) rf) ?_
        refine zD hF (y_loadN rf Tryz.isAgg90 Tryz.sizeOf90 (Mem.own (us := [.int .i64 _, .int .i64 _, .int .i64 _, .int .i64 _]) 0 rf rf) rf) ?_
        refine WS_gen hF rf (y_callL rf rf Tryz.call79 (fun w hw => add_any (wrK l c p k) ga gc gae gce ⟨dayK l l.es.length, 1, ⟨dK c p k, dK c p k⟩⟩ w (by rw [wrK_tk]; exact hgn) (NewRow.ints hg3 rfl (hg3s.trans sbA) w hw) (NewRow.rws en_len hg4 rfl (hg4s.trans sbA) w hw))) ?_
        rintro _ _ hT9
        obtain ⟨_, rfl, u1, v1, u2, v2, Q1, Q2, rfl, hu1, hu2, rfl⟩ := AddV.twin hT9
        refine WS_back ?_
        refine zm (.tuple _) hF ?_
        refine zD hF (y_extract (c := .agg _) rf rf) ?_
        refine zD hF (y_extract (c := .int .i64 _) rf rf) ?_
        refine WS_store hF (us := [.slice _ _ _, .int .i64 _, .int .i64 _, .int .i64 _, .int .i64 _, .slice _ _ _]) (i := 6) rf rf Tryz.sizeOf62 rf rf rf d20 ?_
        refine za (.int .i64 _) hF ?_
        refine zO ?_
        have hE : wrE l c p k = (wrK l c p k).addE (wrX (dayK l l.es.length) (dK c p k)) := if_neg hz
        have hL0 : (wrK l c p k).addE (wrX (dayK l l.es.length) (dK c p k)) = 0 → (wrK l c p k).addL (wrX (dayK l l.es.length) (dK c p k)) = wrK l c p (k + 1) := fun h => by
         unfold Lg.addL
         rw [if_pos h]
         exact (if_neg hz).symm
        rw [hX] at hE hL0
        refine W_region_lit (fun ds => ?_)
        refine zm (.int .i64 _) hF ?_
        refine zD hF (y_neq rf rf) ?_
        refine zN ?_
        refine W_cond rf (fun c27 => ?_) (fun c27 => ?_)
        ·
         try simp only [qz1, qz2, qz3, qz4, qz5, qz6, qz7, qz8] at c27
         refine zR fun ds => ?_
         refine zD hF (y_buildL bd62 rf) ?_
         refine zm (.int .i64 _) hF ?_
         refine WS_store hF (us := [.slice _ _ _, .int .i64 _, .int .i64 _, .int .i64 _, .int .i64 _, .slice _ _ _]) (i := 5) rf rf Tryz.sizeOf62 rf rf rf d20 ?_
         refine za (.int .i64 _) hF ?_
         refine zN ?_
         refine W_ret ?_
         refine InB_ret ?_
         refine Then_ret ?_
         refine Loop_ret ?_
         refine InB_ret ?_
         refine Then_ret ?_
         refine Fin_ret [_, .int .i64 _] [] Tryz.results32 ⟨lvN rf Tryz.isAgg62 Tryz.sizeOf62 (Mem.own (us := [.slice _ _ _, .int .i64 _, .int .i64 _, .int .i64 _, .int .i64 _, .slice _ _ _]) 5 rf rf) rf, by rfl, trivial⟩ HSub.nil ?_
         exact WrtV.stop c2 c5 om0 hj hE c27
        ·
         try simp only [qz1, qz2, qz3, qz4, qz5, qz6, qz7, qz8] at c27
         have hL := hL0 c27
         have hj2 : ∀ j, j < k + 1 → wrE l c p j = 0 := fun j h => by by_cases hjk : j = k; (subst hjk; exact hE.trans c27); exact hj j om0
         change NewRow _ _ ((wrK l c p k).addL _).tk.n _ _ _ at hu1
         rw [hL] at hu1 hu2
         have hT2 : TwinL (wrK l c p (k + 1)) (.agg (lgV (wrK l c p (k + 1)) u1 v1 u2 v2).toArray) (Q1 ++ Q2) := ⟨_, _, _, _, Q1, Q2, rfl, hu1, hu2, rfl⟩
         rw [show (wrK l c p k).addL _ = wrK l c p (k + 1) from hL, show (wrK l c p k).addE _ = 0 from c27]
         refine W_skip ?_
         refine InB_normal ?_
         refine zT fun ds => ?_
         refine zD hF (y_add rf rf ui) ?_
         refine zm (.int .i64 _) hF ?_
         refine WS_nil ?_
         exact Loop_next (k + 1, (u1, v1, u2, v2), HX ++ (Q1 ++ Q2)) ⟨by simp only; omega, hj2, ⟨Q1 ++ Q2, hT2, sbA⟩⟩ s10 sbA (by simp only; omega)
    ·
     try simp only [qz1, qz2, qz3, qz4, qz5, qz6, qz7, qz8] at c17
     refine W_exit ?_
     refine Then_exit ?_
     refine Loop_exit ?_
     refine InB_same ?_
     refine zS fun ds => ?_
     refine zD hF (y_loadN rf Tryz.isAgg62 Tryz.sizeOf62 (Mem.own (us := [.slice _ _ _, .int .i64 _, .int .i64 _, .int .i64 _, .int .i64 _, .slice _ _ _]) 3 rf rf) rf) ?_
     refine zm (.int .i64 _) hF ?_
     refine WS_store hF (us := [.slice _ _ _, .int .i64 _, .int .i64 _, .int .i64 _, .int .i64 _, .slice _ _ _]) (i := 2) rf rf Tryz.sizeOf62 rf rf rf d20 ?_
     refine za (.int .i64 _) hF ?_
     refine zN ?_
     refine W_ret ?_
     refine Fin_ret [_, .int .i64 _] HL Tryz.results32 ⟨lvN rf Tryz.isAgg62 Tryz.sizeOf62 (Mem.own (us := [.slice _ _ _, .int .i64 _, .int .i64 _, .int .i64 _, .int .i64 _, .slice _ _ _]) 2 rf rf) rf, by rfl, trivial⟩ (HSub.sub (hHL.trans sbA)) ?_
     obtain rfl : k = p.length := by omega
     exact WrtV.go c2 c5 hj hT
end Go.Proofs.YtjekjehgmljbgaaGreatDoor.T
namespace Go.Proofs.YtjekjehgmljbgaaGreatDoor.T
open Go.RowKit Go.Eng
def Cn.runO (c : Cn) : Co → List Po → Option Co
 | x, [] => some x
 | x, p :: l => if c.pE x p = 0 then c.runO (c.stp x p) l else none
def Cn.bkO (c : Cn) : Co → List Po → Int
 | _, [] => 0
 | x, p :: l => bk x (c.stp x p) + c.bkO (c.stp x p) l
theorem Cn.runO_snoc (c : Cn) (p : Po) : ∀ (l : List Po) (x : Co), c.runO x (l ++ [p]) = (c.runO x l).bind fun y => if c.pE y p = 0 then some (c.stp y p) else none
 | [], x => by simp [Cn.runO]
 | q :: l, x => by
  simp only [List.cons_append, Cn.runO]
  split
  ·exact Cn.runO_snoc c p l _
  ·rfl
theorem Cn.bkO_snoc (c : Cn) (p : Po) : ∀ (l : List Po) (x y : Co), c.runO x l = some y → c.bkO x (l ++ [p]) = c.bkO x l + bk y (c.stp y p)
 | [], x, y, h => by cases h; simp [Cn.bkO]
 | q :: l, x, y, h => by
  simp only [List.cons_append, Cn.bkO]
  unfold Cn.runO at h
  split at h
  ·rw [Cn.bkO_snoc c p l _ y h]; omega
  ·cases h
def Po.lt (p q : Po) : Bool := decide (p.f < q.f) || (decide (p.f = q.f) && decide (p.t < q.t))
theorem Po.lt_iff {p q : Po} : p.lt q = true ↔ p.f < q.f ∨ (p.f = q.f ∧ p.t < q.t) := by
 unfold Po.lt
 simp only [Bool.or_eq_true, Bool.and_eq_true, decide_eq_true_eq]
theorem Po.eq_of {p q : Po} (h1 : ¬ p.lt q = true) (h2 : ¬ q.lt p = true) : p = q := by
 rw [Po.lt_iff] at h1 h2
 obtain ⟨a, b⟩ := p
 obtain ⟨a', b'⟩ := q
 simp only at h1 h2
 simp only [Po.mk.injEq]
 omega
def plt : List Po → List Po → Bool
 | p :: l, q :: m => p.lt q || (decide (p = q) && plt l m)
 | _, _ => false
theorem plt_irrefl : ∀ l, plt l l = false
 | [] => rfl
 | p :: l => by
  have : p.lt p = false := by
   cases h : p.lt p with
   | false => rfl
   | true => rw [Po.lt_iff] at h; omega
  simp [plt, this, plt_irrefl l]
theorem plt_trans : ∀ {l m r : List Po}, plt l m = true → plt m r = true → plt l r = true
 | [], _, _, h, _ => by simp [plt] at h
 | _ :: _, [], _, h, _ => by simp [plt] at h
 | _ :: _, _ :: _, [], _, h => by simp [plt] at h
 | p :: l, q :: m, s :: r, h1, h2 => by
  simp only [plt, Bool.or_eq_true, Bool.and_eq_true, decide_eq_true_eq, Po.lt_iff] at h1 h2 ⊢
  rcases h1 with h1 | ⟨rfl, h1⟩
  ·rcases h2 with h2 | ⟨rfl, h2⟩
   ·left; omega
   ·left; exact h1
  ·rcases h2 with h2 | ⟨rfl, h2⟩
   ·left; exact h2
   ·right; exact ⟨rfl, plt_trans h1 h2⟩
theorem plt_tot : ∀ {l m : List Po}, l.length = m.length → plt l m = false → plt m l = false → l = m
 | [], [], _, _, _ => rfl
 | [], _ :: _, h, _, _ => by cases h
 | _ :: _, [], h, _, _ => by cases h
 | p :: l, q :: m, h, h1, h2 => by
  simp only [plt, Bool.or_eq_false_iff, Bool.and_eq_false_iff, decide_eq_false_iff_not] at h1 h2
  have hpq : p = q := Po.eq_of (by rw [h1.1]; simp) (by rw [h2.1]; simp)
  subst hpq
  simp only [not_true_eq_false, false_or] at h1 h2
  rw [plt_tot (by simpa using h) h1.2 h2.2]
theorem plt_snoc {p : Po} : ∀ {l m : List Po}, plt l m = true → l.length = m.length → plt (l ++ [p]) (m ++ [p]) = true
 | [], _, h, _ => by simp [plt] at h
 | _ :: _, [], h, _ => by simp [plt] at h
 | q :: l, s :: m, h, hl => by
  simp only [List.cons_append, plt, Bool.or_eq_true, Bool.and_eq_true] at h ⊢
  rcases h with h | ⟨h1, h2⟩
  ·exact .inl h
  ·exact .inr ⟨h1, plt_snoc h2 (by simpa using hl)⟩
structure Wy where
 l : List Po
 back : Int
deriving DecidableEq
def Wy.lt (a b : Wy) : Bool := decide (a.l.length < b.l.length) || (decide (a.l.length = b.l.length) && (decide (a.back < b.back) || (decide (a.back = b.back) && plt a.l b.l)))
theorem Wy.lt_iff {a b : Wy} : a.lt b = true ↔ a.l.length < b.l.length ∨ (a.l.length = b.l.length ∧ (a.back < b.back ∨ (a.back = b.back ∧ plt a.l b.l = true))) := by
 unfold Wy.lt
 simp only [Bool.or_eq_true, Bool.and_eq_true, decide_eq_true_eq]
theorem Wy.lt_irrefl (a : Wy) : a.lt a = false := by
 cases h : a.lt a with
 | false => rfl
 | true =>
  rw [Wy.lt_iff, plt_irrefl] at h
  rcases h with h | ⟨_, h | ⟨_, h⟩⟩
  ·omega
  ·omega
  ·cases h
theorem Wy.lt_trans {a b d : Wy} (h1 : a.lt b = true) (h2 : b.lt d = true) : a.lt d = true := by
 rw [Wy.lt_iff] at h1 h2 ⊢
 rcases h1 with h1 | ⟨e1, h1⟩
 ·rcases h2 with h2 | ⟨e2, h2⟩ <;> (left; omega)
 ·rcases h2 with h2 | ⟨e2, h2⟩
  ·left; omega
  ·right
   refine ⟨by omega, ?_⟩
   rcases h1 with h1 | ⟨f1, h1⟩
   ·rcases h2 with h2 | ⟨f2, h2⟩ <;> (left; omega)
   ·rcases h2 with h2 | ⟨f2, h2⟩
    ·left; omega
    ·right; exact ⟨by omega, plt_trans h1 h2⟩
theorem Wy.tot {a b : Wy} (h1 : a.lt b = false) (h2 : b.lt a = false) : a = b := by
 have g1 : ¬ a.lt b = true := by rw [h1]; simp
 have g2 : ¬ b.lt a = true := by rw [h2]; simp
 rw [Wy.lt_iff] at g1 g2
 have hl : a.l.length = b.l.length := by omega
 have hb : a.back = b.back := by
  by_cases h : a.back < b.back
  ·exact absurd (.inr ⟨hl, .inl h⟩) g1
  ·by_cases h' : b.back < a.back
   ·exact absurd (.inr ⟨hl.symm, .inl h'⟩) g2
   ·omega
 have e1 : plt a.l b.l = false := by
  cases h : plt a.l b.l with
  | false => rfl
  | true => exact absurd (.inr ⟨hl, .inr ⟨hb, h⟩⟩) g1
 have e2 : plt b.l a.l = false := by
  cases h : plt b.l a.l with
  | false => rfl
  | true => exact absurd (.inr ⟨hl.symm, .inr ⟨hb.symm, h⟩⟩) g2
 obtain ⟨al, ab⟩ := a
 obtain ⟨bl, bb⟩ := b
 simp only at hl hb e1 e2
 rw [plt_tot hl e1 e2, hb]
structure Cn.Way (c : Cn) (w : Wy) (y : Co) : Prop where
 run : c.runO c.co w.l = some y
 back : w.back = c.bkO c.co w.l
structure Cn.Best (c : Cn) (w : Wy) (y : Co) : Prop where
 way : c.Way w y
 least : ∀ v, c.Way v y → v.lt w = false
theorem Cn.Best.uniq {c : Cn} {w v : Wy} {y : Co} (h : c.Best w y) (h' : c.Best v y) : w = v := Wy.tot (h'.least w h.way) (h.least v h'.way)
theorem Cn.Way.snoc {c : Cn} {w : Wy} {x : Co} {p : Po} (h : c.Way w x) (hp : c.pE x p = 0) : c.Way ⟨w.l ++ [p], w.back + bk x (c.stp x p)⟩ (c.stp x p) :=
 ⟨by simp only [Cn.runO_snoc, h.run, Option.bind_some, if_pos hp], by simp only [c.bkO_snoc p _ _ _ h.run, h.back]⟩
theorem Cn.Way.init {c : Cn} {l : List Po} {p : Po} {b : Int} {y : Co} (h : c.Way ⟨l ++ [p], b⟩ y) : ∃ x, c.Way ⟨l, c.bkO c.co l⟩ x ∧ c.pE x p = 0 ∧ y = c.stp x p ∧ b = c.bkO c.co l + bk x (c.stp x p) := by
 have h1 := h.run
 have h2 := h.back
 simp only [Cn.runO_snoc] at h1
 cases hx : c.runO c.co l with
 | none => rw [hx] at h1; cases h1
 | some x =>
  rw [hx, Option.bind_some] at h1
  split at h1
  ·rename_i hp
   cases h1
   exact ⟨x, ⟨hx, rfl⟩, hp, rfl, by simp only [c.bkO_snoc p _ _ _ hx] at h2; exact h2⟩
  ·cases h1
theorem Wy.lt_snoc {v w : Wy} {p : Po} {d : Int} (h : v.lt w = true) : Wy.lt ⟨v.l ++ [p], v.back + d⟩ ⟨w.l ++ [p], w.back + d⟩ = true := by
 rw [Wy.lt_iff] at h ⊢
 simp only [List.length_append, List.length_singleton]
 rcases h with h | ⟨h1, h2 | ⟨h2, h3⟩⟩
 ·left; omega
 ·right; exact ⟨by omega, .inl om0⟩
 ·right; exact ⟨by omega, .inr ⟨by omega, plt_snoc h3 h1⟩⟩
theorem Cn.Best.init {c : Cn} {l : List Po} {p : Po} {b : Int} {y : Co} (h : c.Best ⟨l ++ [p], b⟩ y) : ∃ x, c.Best ⟨l, c.bkO c.co l⟩ x ∧ c.pE x p = 0 ∧ y = c.stp x p ∧ b = c.bkO c.co l + bk x (c.stp x p) := by
 obtain ⟨x, h1, h2, rfl, rfl⟩ := h.way.init
 refine ⟨x, ⟨h1, fun v hv => ?_⟩, h2, rfl, rfl⟩
 cases hlt : v.lt ⟨l, c.bkO c.co l⟩ with
 | false => rfl
 | true =>
  have := h.least _ (hv.snoc h2)
  rw [Wy.lt_snoc hlt] at this
  exact this
theorem exists_min {α : Type} (S : α → Prop) (lt : α → α → Bool) (m : α → Nat) (hirr : ∀ a, lt a a = false) (htr : ∀ {a b d}, lt a b = true → lt b d = true → lt a d = true) (l : List α) (hl : ∃ a ∈ l, S a) :
  ∃ a ∈ l, S a ∧ ∀ b ∈ l, S b → lt b a = false := by
 induction l with
 | nil => obtain ⟨_, h, _⟩ := hl; cases h
 | cons x l ih =>
  by_cases h : ∃ a ∈ l, S a
  ·obtain ⟨a, ha, hs, hm⟩ := ih h
   by_cases hx : S x ∧ lt x a = true
   ·refine ⟨x, List.mem_cons_self, hx.1, fun b hb hsb => ?_⟩
    rcases List.mem_cons.1 hb with rfl | hb
    ·exact hirr _
    ·cases hbx : lt b x with
     | false => rfl
     | true => have := hm b hb hsb; rw [htr hbx hx.2] at this; exact this
   ·refine ⟨a, List.mem_cons_of_mem _ ha, hs, fun b hb hsb => ?_⟩
    rcases List.mem_cons.1 hb with rfl | hb
    ·cases hba : lt b a with
     | false => rfl
     | true => exact absurd ⟨hsb, hba⟩ hx
    ·exact hm b hb hsb
  ·obtain ⟨a, ha, hs⟩ := hl
   rcases List.mem_cons.1 ha with rfl | ha
   ·refine ⟨a, List.mem_cons_self, hs, fun b hb hsb => ?_⟩
    rcases List.mem_cons.1 hb with rfl | hb
    ·exact hirr _
    ·exact absurd ⟨b, hb, hsb⟩ h
   ·exact absurd ⟨a, ha, hs⟩ h
theorem nodup_bd : ∀ {N : Nat} {l : List Nat}, l.Nodup → (∀ x ∈ l, x < N) → l.length ≤ N
 | 0, [], _, _ => Nat.le_refl _
 | 0, x :: l, _, h => absurd (h x List.mem_cons_self) (Nat.not_lt_zero _)
 | N + 1, l, hn, h => by
  have h1 : (l.erase N).Nodup := hn.erase N
  have h2 : ∀ x ∈ l.erase N, x < N := fun x hx => by
   have h3 := hn.mem_erase_iff.1 hx
   have := h x h3.2
   have := h3.1
   omega
  have h4 := nodup_bd h1 h2
  have h5 : l.length ≤ (l.erase N).length + 1 := by rw [List.length_erase]; split <;> omega
  omega
def Co.sm (x : Co) : Int := x.a + x.b + x.c + x.d
theorem Cn.to_sm (c : Cn) (x : Co) {f t : Nat} (hf : f < 4) (ht : t < 4) (hft : f ≠ t) : (c.to x f t).sm = x.sm := by
 unfold Cn.to Co.sm
 generalize c.amt x f t = m
 obtain rfl | rfl | rfl | rfl := lt4 hf <;> obtain rfl | rfl | rfl | rfl := lt4 ht
 all_goals first | exact absurd rfl hft | (simp only [Co.w, Co.g]; omega)
theorem Cn.stp_sm {c : Cn} {x : Co} {p : Po} (hn : c.n ≤ 3) (hp : c.pE x p = 0) : (c.stp x p).sm = x.sm := by
 obtain ⟨h1, _⟩ := Cn.pE_zero.1 hp
 rw [Cn.vld_iff] at h1
 exact c.to_sm x om0 om0 om0
theorem Cn.runO_in {c : Cn} (hn : c.n ≤ 3) : ∀ {l : List Po} {x y : Co}, c.In x → c.runO x l = some y → c.In y ∧ y.sm = x.sm
 | [], x, y, hx, h => by cases h; exact ⟨hx, rfl⟩
 | p :: l, x, y, hx, h => by
  unfold Cn.runO at h
  split at h
  ·rename_i hp
   obtain ⟨h1, h2⟩ := Cn.runO_in hn (hx.stp hn hp) h
   exact ⟨h1, h2.trans (Cn.stp_sm hn hp)⟩
  ·cases h
theorem Cn.Way.in {c : Cn} {w : Wy} {y : Co} (hok : c.Ok) (h : c.Way w y) : c.In y ∧ y.sm = c.co.sm := Cn.runO_in hok.n3 hok.co_in h.run
def kyL : Int → List Int → Int
 | n, [] => n
 | n, x :: l => kyL (21 * n + x) l
def Cn.ky (c : Cn) (x : Co) : Int := kyL 0 (c.of x).inn
theorem Cn.In.bd {c : Cn} {x : Co} (hok : c.Ok) (h : c.In x) {k : Nat} (hk : k < 4) (h0 : k ≠ 0) : 0 ≤ x.g k ∧ x.g k ≤ 20 := by
 refine ⟨h.lo k hk, ?_⟩
 obtain ⟨j, rfl⟩ : ∃ j, k = j + 1 := ⟨k - 1, by omega⟩
 by_cases hj : j < c.n
 ·have := h.hi (j + 1) om0
  rw [c.room_s] at this
  have := (hok.s j hj).2
  omega
 ·have := h.z (j + 1) om0 hk
  omega
theorem Cn.ky_eq {c : Cn} (hok : c.Ok) (x : Co) : c.ky x = if c.n = 1 then x.b else if c.n = 2 then 21 * x.b + x.c else 21 * (21 * x.b + x.c) + x.d := by
 have h1 := hok.n1
 have h3 := hok.n3
 unfold Cn.ky Cn.of
 simp only
 obtain h | h | h : c.n = 1 ∨ c.n = 2 ∨ c.n = 3 := by omega
 all_goals rw [h]; simp [kyL]
theorem Cn.ky_bd {c : Cn} (hok : c.Ok) {x : Co} (h : c.In x) : 0 ≤ c.ky x ∧ c.ky x < 9261 := by
 have hb : 0 ≤ x.b ∧ x.b ≤ 20 := h.bd hok (k := 1) dc dc
 have hc : 0 ≤ x.c ∧ x.c ≤ 20 := h.bd hok (k := 2) dc dc
 have hd : 0 ≤ x.d ∧ x.d ≤ 20 := h.bd hok (k := 3) dc dc
 rw [Cn.ky_eq hok]
 split
 ·omega
 ·split <;> omega
theorem Cn.ky_inj {c : Cn} (hok : c.Ok) {x y : Co} (hx : c.In x) (hy : c.In y) (hs : x.sm = y.sm) (h : c.ky x = c.ky y) : x = y := by
 have h1 := hok.n1
 have h3 := hok.n3
 have hb : 0 ≤ x.b ∧ x.b ≤ 20 := hx.bd hok (k := 1) dc dc
 have hc : 0 ≤ x.c ∧ x.c ≤ 20 := hx.bd hok (k := 2) dc dc
 have hd : 0 ≤ x.d ∧ x.d ≤ 20 := hx.bd hok (k := 3) dc dc
 have hb' : 0 ≤ y.b ∧ y.b ≤ 20 := hy.bd hok (k := 1) dc dc
 have hc' : 0 ≤ y.c ∧ y.c ≤ 20 := hy.bd hok (k := 2) dc dc
 have hd' : 0 ≤ y.d ∧ y.d ≤ 20 := hy.bd hok (k := 3) dc dc
 have z2 : c.n < 2 → x.c = 0 ∧ y.c = 0 := fun hn => ⟨hx.z 2 hn dc, hy.z 2 hn dc⟩
 have z3 : c.n < 3 → x.d = 0 ∧ y.d = 0 := fun hn => ⟨hx.z 3 hn dc, hy.z 3 hn dc⟩
 rw [Cn.ky_eq hok, Cn.ky_eq hok] at h
 obtain ⟨xa, xb, xc, xd⟩ := x
 obtain ⟨ya, yb, yc, yd⟩ := y
 unfold Co.sm at hs
 simp only at hs hb hc hd hb' hc' hd' z2 z3 h
 simp only [Co.mk.injEq]
 obtain hn | hn | hn : c.n = 1 ∨ c.n = 2 ∨ c.n = 3 := by omega
 ·simp only [hn, if_true] at h
  have := z2 om0
  have := z3 om0
  omega
 ·simp only [hn, if_true, show ¬ ((2 : Nat) = 1) by decide, if_false] at h
  have := z3 om0
  omega
 ·simp only [hn, show ¬ ((3 : Nat) = 1) by decide, show ¬ ((3 : Nat) = 2) by decide, if_false] at h
  omega
theorem Cn.Best.chain {c : Cn} : ∀ {m : Nat} {w : Wy} {y : Co}, w.l.length = m → c.Best w y → ∃ xs : List Co, xs.length = m + 1 ∧ ∀ i x, xs[i]? = some x → ∃ v, c.Best v x ∧ v.l.length = i
 | 0, w, y, hl, h => ⟨[y], rfl, fun i x hx => by
   cases i with
   | zero => cases hx; exact ⟨w, h, hl⟩
   | succ i => simp at hx⟩
 | m + 1, w, y, hl, h => by
  obtain ⟨l, b⟩ := w
  simp only at hl
  obtain ⟨l0, p, rfl⟩ : ∃ l0 p, l = l0 ++ [p] := by
   rcases List.eq_nil_or_concat l with rfl | ⟨l0, p, rfl⟩
   ·cases hl
   ·exact ⟨l0, p, by simp⟩
  rw [List.length_append, List.length_singleton] at hl
  obtain ⟨x, hb, _, _, _⟩ := h.init
  obtain ⟨xs, h1, h2⟩ := Cn.Best.chain (m := m) (show l0.length = m by omega) hb
  refine ⟨xs ++ [y], by rw [List.length_append, h1]; rfl, fun i z hz => ?_⟩
  by_cases hi : i < xs.length
  ·rw [List.getElem?_append_left hi] at hz
   exact h2 i z hz
  ·rw [List.getElem?_append_right om0] at hz
   have hi2 : i = xs.length := by
    by_cases hj : i - xs.length = 0
    ·omega
    ·obtain ⟨j, hj⟩ : ∃ j, i - xs.length = j + 1 := ⟨i - xs.length - 1, by omega⟩
     rw [hj] at hz
     simp at hz
   subst hi2
   rw [Nat.sub_self] at hz
   cases hz
   exact ⟨_, h, by simp only [List.length_append, List.length_singleton]; omega⟩
theorem Cn.Best.len {c : Cn} (hok : c.Ok) {w : Wy} {y : Co} (h : c.Best w y) : w.l.length ≤ 9260 := by
 obtain ⟨xs, h1, h2⟩ := h.chain rfl
 have hin : ∀ i x, xs[i]? = some x → c.In x ∧ x.sm = c.co.sm := fun i x hx => by
  obtain ⟨v, hv, _⟩ := h2 i x hx
  exact hv.way.in hok
 have hm : ∀ x ∈ xs, c.In x := fun x hx => by
  obtain ⟨i, hi⟩ := List.getElem?_of_mem hx
  exact (hin i x hi).1
 have hnd : (xs.map fun x => (c.ky x).toNat).Nodup := by
  rw [List.nodup_iff_pairwise_ne] <;> rw [List.pairwise_iff_getElem]
  intro i j hi hj hij he
  simp only [List.length_map] at hi hj
  simp only [List.getElem_map] at he
  have e1 : xs[i]? = some xs[i] := List.getElem?_eq_getElem hi
  have e2 : xs[j]? = some xs[j] := List.getElem?_eq_getElem hj
  obtain ⟨i1, i2⟩ := hin _ _ e1
  obtain ⟨j1, j2⟩ := hin _ _ e2
  have k1 := Cn.ky_bd hok i1
  have k2 := Cn.ky_bd hok j1
  have hx := Cn.ky_inj hok i1 j1 (i2.trans j2.symm) om0
  obtain ⟨v, hv, hvl⟩ := h2 _ _ e1
  obtain ⟨u, hu, hul⟩ := h2 _ _ e2
  rw [hx] at hv
  have := hv.uniq hu
  subst this
  omega
 have := nodup_bd (N := 9261) hnd fun n hn => by
  obtain ⟨x, hx, rfl⟩ := List.mem_map.1 hn
  have := Cn.ky_bd hok (hm x hx)
  omega
 rw [List.length_map, h1] at this
 omega
def allP : List Po := [0, 1, 2, 3].flatMap fun f => [0, 1, 2, 3].map fun t => ⟨f, t⟩
def lists : Nat → List (List Po)
 | 0 => [[]]
 | m + 1 => [] :: (lists m).flatMap fun l => allP.map fun p => p :: l
theorem mem_lists : ∀ {m : Nat} {l : List Po}, l.length ≤ m → (∀ p ∈ l, p ∈ allP) → l ∈ lists m
 | 0, [], _, _ => List.mem_cons_self
 | 0, _ :: _, h, _ => absurd h (by simp)
 | m + 1, [], _, _ => List.mem_cons_self
 | m + 1, p :: l, h, hp => by
  unfold lists
  refine List.mem_cons_of_mem _ (List.mem_flatMap.2 ⟨l, mem_lists (by simp only [List.length_cons] at h; omega) fun q hq => hp q (List.mem_cons_of_mem _ hq), ?_⟩)
  exact List.mem_map.2 ⟨p, hp p List.mem_cons_self, rfl⟩
theorem Cn.pE_all {c : Cn} (hn : c.n ≤ 3) {x : Co} {p : Po} (hp : c.pE x p = 0) : p ∈ allP := by
 obtain ⟨h1, _⟩ := Cn.pE_zero.1 hp
 rw [Cn.vld_iff] at h1
 obtain ⟨f, t⟩ := p
 simp only at h1
 have hf : f = 0 ∨ f = 1 ∨ f = 2 ∨ f = 3 := by omega
 have ht : t = 0 ∨ t = 1 ∨ t = 2 ∨ t = 3 := by omega
 rcases hf with rfl | rfl | rfl | rfl <;> rcases ht with rfl | rfl | rfl | rfl
 all_goals decide
theorem Cn.runO_all {c : Cn} (hn : c.n ≤ 3) : ∀ {l : List Po} {x y : Co}, c.runO x l = some y → ∀ p ∈ l, p ∈ allP
 | [], _, _, _, p, hp => by cases hp
 | q :: l, x, y, h, p, hp => by
  unfold Cn.runO at h
  split at h
  ·rename_i hq
   rcases List.mem_cons.1 hp with rfl | hp
   ·exact Cn.pE_all hn hq
   ·exact Cn.runO_all hn h p hp
  ·cases h
theorem Cn.Way.best {c : Cn} (hn : c.n ≤ 3) {w : Wy} {y : Co} (h : c.Way w y) : ∃ v, c.Best v y := by
 have hmem : ∀ v, c.Way v y → v.l.length ≤ w.l.length → v ∈ (lists w.l.length).map fun l => (⟨l, c.bkO c.co l⟩ : Wy) := fun v hv hl =>
  List.mem_map.2 ⟨v.l, mem_lists hl (Cn.runO_all hn hv.run), by rw [← hv.back]⟩
 obtain ⟨a, ha, hs, hm⟩ := exists_min (fun v => c.Way v y ∧ v.l.length ≤ w.l.length) Wy.lt (fun v => v.l.length) Wy.lt_irrefl Wy.lt_trans _ ⟨w, hmem w h (Nat.le_refl _), h, Nat.le_refl _⟩
 refine ⟨a, hs.1, fun v hv => ?_⟩
 by_cases hl : v.l.length ≤ w.l.length
 ·exact hm v (hmem v hv hl) ⟨hv, hl⟩
 ·cases hlt : v.lt a with
  | false => rfl
  | true =>
   rw [Wy.lt_iff] at hlt
   have := hs.2
   omega
def IsMin (T : Wy → Prop) : Option Wy → Prop
 | none => ∀ v, ¬ T v
 | some w => T w ∧ ∀ v, T v → v.lt w = false
theorem IsMin.uniq {T : Wy → Prop} : ∀ {a b : Option Wy}, IsMin T a → IsMin T b → a = b
 | none, none, _, _ => rfl
 | none, some w, h, h' => absurd h'.1 (h w)
 | some w, none, h, h' => absurd h.1 (h' w)
 | some w, some v, h, h' => by rw [Wy.tot (h'.2 w h.1) (h.2 v h'.1)]
theorem IsMin.congr {T T' : Wy → Prop} (h : ∀ v, T v ↔ T' v) : ∀ {a : Option Wy}, IsMin T a → IsMin T' a
 | none, ha => fun v hv => ha v ((h v).2 hv)
 | some w, ha => ⟨(h w).1 ha.1, fun v hv => ha.2 v ((h v).2 hv)⟩
def pickW (r : Option Wy) (v : Wy) : Wy :=
 match r with
 | none => v
 | some w => if v.lt w then v else w
theorem IsMin.step {T : Wy → Prop} (v0 : Wy) : ∀ {r : Option Wy}, IsMin T r → IsMin (fun v => T v ∨ v = v0) (some (pickW r v0))
 | none, h => ⟨.inr rfl, fun v hv => by
   rcases hv with hv | rfl
   ·exact absurd hv (h v)
   ·exact Wy.lt_irrefl _⟩
 | some w, h => by
  unfold pickW
  simp only
  by_cases hl : v0.lt w = true
  ·rw [if_pos hl]
   refine ⟨.inr rfl, fun v hv => ?_⟩
   rcases hv with hv | rfl
   ·cases hvl : v.lt v0 with
    | false => rfl
    | true => have := h.2 v hv; rw [Wy.lt_trans hvl hl] at this; exact this
   ·exact Wy.lt_irrefl _
  ·rw [if_neg hl]
   refine ⟨.inl h.1, fun v hv => ?_⟩
   rcases hv with hv | rfl
   ·exact h.2 v hv
   ·simpa using hl
def Cn.Lv (c : Cn) (n : Nat) (w : Wy) (y : Co) : Prop := c.Best w y ∧ w.l.length = n
def Cn.nx (c : Cn) (w : Wy) (x : Co) (p : Po) : Wy := ⟨w.l ++ [p], w.back + bk x (c.stp x p)⟩
def Cn.Kn (c : Cn) (n : Nat) (y : Co) : Prop := ∃ u, c.Best u y ∧ u.l.length ≤ n
theorem Cn.Lv.cand {c : Cn} {n : Nat} {w : Wy} {y : Co} (h : c.Lv (n + 1) w y) : ∃ x v p, c.Lv n v x ∧ c.pE x p = 0 ∧ y = c.stp x p ∧ w = c.nx v x p := by
 obtain ⟨h, hl⟩ := h
 obtain ⟨l, b⟩ := w
 simp only at hl
 obtain ⟨l0, p, rfl⟩ : ∃ l0 p, l = l0 ++ [p] := by
  rcases List.eq_nil_or_concat l with rfl | ⟨l0, p, rfl⟩
  ·cases hl
  ·exact ⟨l0, p, by simp⟩
 rw [List.length_append, List.length_singleton] at hl
 obtain ⟨x, hb, hp, rfl, rfl⟩ := h.init
 exact ⟨x, _, p, ⟨hb, by simp only; omega⟩, hp, rfl, rfl⟩
theorem Cn.Lv.way {c : Cn} {n : Nat} {w : Wy} {x : Co} {p : Po} (h : c.Lv n w x) (hp : c.pE x p = 0) : c.Way (c.nx w x p) (c.stp x p) ∧ (c.nx w x p).l.length = n + 1 :=
 ⟨h.1.way.snoc hp, by unfold Cn.nx; simp only [List.length_append, List.length_singleton]; have := h.2; omega⟩
theorem Cn.level {c : Cn} (hn : c.n ≤ 3) {n : Nat} {P : Co → Wy → Prop} {look : Co → Option Wy} (hM : ∀ y, IsMin (P y) (look y))
  (hs : ∀ y v, P y v → ¬ c.Kn n y ∧ ∃ x w p, c.Lv n w x ∧ c.pE x p = 0 ∧ y = c.stp x p ∧ v = c.nx w x p)
  (hc : ∀ x w p, c.Lv n w x → c.pE x p = 0 → ¬ c.Kn n (c.stp x p) → P (c.stp x p) (c.nx w x p)) (y : Co) (w : Wy) : look y = some w ↔ c.Lv (n + 1) w y := by
 have key : ∀ y w, look y = some w → c.Lv (n + 1) w y := fun y w h => by
  have hm := hM y
  rw [h] at hm
  obtain ⟨hP, hmin⟩ := hm
  obtain ⟨hk, x, w', p, hl, hp, rfl, rfl⟩ := hs _ _ hP
  obtain ⟨hway, hlen⟩ := hl.way hp
  obtain ⟨u, hu⟩ := hway.best hn
  have h1 := hu.least _ hway
  have h2 : u.l.length = n + 1 := by
   have h3 : n < u.l.length := Nat.lt_of_not_le fun h => hk ⟨u, hu, h⟩
   have h4 : ¬ (c.nx w' x p).l.length < u.l.length := fun h => by
    have : (c.nx w' x p).lt u = true := Wy.lt_iff.2 (.inl h)
    rw [h1] at this; cases this
   omega
  obtain ⟨x2, v2, p2, hl2, hp2, he2, rfl⟩ := Cn.Lv.cand ⟨hu, h2⟩
  have hP2 := hc x2 v2 p2 hl2 hp2 (by rw [← he2]; exact hk)
  rw [← he2] at hP2
  have h5 := hmin _ hP2
  rw [Wy.tot h1 h5]
  exact ⟨hu, h2⟩
 refine ⟨key y w, fun h => ?_⟩
 obtain ⟨x, v, p, hl, hp, rfl, rfl⟩ := h.cand
 have hk : ¬ c.Kn n (c.stp x p) := fun ⟨u, hu, hul⟩ => by
  have := h.1.uniq hu
  subst this
  have := h.2
  omega
 have hP := hc x v p hl hp hk
 have hm := hM (c.stp x p)
 cases hlk : look (c.stp x p) with
 | none => rw [hlk] at hm; exact absurd hP (hm _)
 | some w' => rw [(key _ _ hlk).1.uniq h.1]
theorem Cn.no_more {c : Cn} {n : Nat} (h : ∀ w y, ¬ c.Lv n w y) {w : Wy} {y : Co} (hb : c.Best w y) : w.l.length < n := by
 refine Nat.lt_of_not_le fun hl => ?_
 obtain ⟨xs, h1, h2⟩ := hb.chain rfl
 obtain ⟨v, hv, hvl⟩ := h2 n xs[n] (List.getElem?_eq_getElem om0)
 exact h v _ ⟨hv, hvl⟩
theorem Cn.lv_zero {c : Cn} {w : Wy} {y : Co} : c.Lv 0 w y ↔ w = ⟨[], 0⟩ ∧ y = c.co := by
 constructor
 ·rintro ⟨h, hl⟩
  have h1 := h.way.run
  have h2 := h.way.back
  obtain ⟨l, b⟩ := w
  obtain rfl : l = [] := List.eq_nil_of_length_eq_zero hl
  simp only [Cn.runO, Cn.bkO, Option.some.injEq] at h1 h2
  exact ⟨by rw [h2], h1.symm⟩
 ·rintro ⟨rfl, rfl⟩
  refine ⟨⟨⟨rfl, rfl⟩, fun v hv => ?_⟩, rfl⟩
  cases hlt : v.lt ⟨[], 0⟩ with
  | false => rfl
  | true =>
   rw [Wy.lt_iff] at hlt
   obtain ⟨l, b⟩ := v
   rcases hlt with h | ⟨h1, h2⟩
   ·exact absurd h (Nat.not_lt_zero _)
   ·obtain rfl : l = [] := List.eq_nil_of_length_eq_zero h1
    have hb := hv.back
    simp only [Cn.bkO] at hb
    subst hb
    rcases h2 with h2 | ⟨_, h2⟩
    ·exact absurd h2 dc
    ·cases h2
theorem Cn.Best.back {c : Cn} (hok : c.Ok) {w : Wy} {y : Co} (h : c.Way w y) : 0 ≤ w.back ∧ w.back ≤ 600 * (w.l.length : Int) := by
 rw [h.back]
 have : ∀ {l : List Po} {x : Co}, c.In x → c.runO x l = some y → 0 ≤ c.bkO x l ∧ c.bkO x l ≤ 600 * (l.length : Int) := by
  intro l
  induction l with
  | nil => intro x _ _; exact ⟨Int.le_refl _, by simp [Cn.bkO]⟩
  | cons p l ih =>
   intro x hx hr
   unfold Cn.runO at hr
   split at hr
   ·rename_i hp
    have hs := hx.stp hok.n3 hp
    obtain ⟨h1, h2⟩ := ih hs hr
    have a1 : 0 ≤ x.a := hx.lo 0 dc
    have a2 : (c.stp x p).a ≤ 600 := hs.hi 0 (Nat.zero_le _)
    unfold Cn.bkO bk
    simp only [List.length_cons]
    omega
   ·cases hr
 exact this hok.co_in h.run
end Go.Proofs.YtjekjehgmljbgaaGreatDoor.T
namespace Go.Proofs.YtjekjehgmljbgaaGreatDoor.T
open Go.RowKit Go.Proofs Go.Eng
set_option maxRecDepth 100000
set_option maxHeartbeats 1000000
section
variable {C : Ctx} {F : Fence} {n : Nat} {ds : List Deferred} {all : Array Oper} {Q : Exit → Env → List Blk → Prop} {rest : List Oper} {e : Env} {H M' : List Blk}
theorem WS_pull (x : Blk) (hp : H.Perm (x :: M')) (h : WS C F n ds all Q rest e (x :: M')) : WS C F n ds all Q rest e H := fun w hw a ha => h w ⟨hw.1, hw.2.perm hp.symm, hw.3⟩ a ha
end
set_option maxRecDepth 100000
set_option maxHeartbeats 1000000
def orL : List Int → Int
 | [] => 0
 | x :: l => if x = 0 then orL l else x
theorem orL_step {xs : List Int} {k : Nat} (h : k < xs.length) : orL (xs.drop k) = if xs.getD k 0 = 0 then orL (xs.drop (k + 1)) else xs.getD k 0 := by
 rw [List.drop_eq_getElem_cons h]; simp [orL, h, List.getD_eq_getElem?_getD]
def cmpP (p q : Po) : Int := orL [cmpI p.f q.f, cmpI p.t q.t]
def cmpL : List Po → List Po → Int
 | p :: l, q :: m => if cmpP p q = 0 then cmpL l m else cmpP p q
 | [], [] => 0
 | [], _ :: _ => -1
 | _ :: _, [] => 1
theorem cmpL_step {l m : List Po} {k : Nat} (h : k < l.length) (h' : k < m.length) : cmpL (l.drop k) (m.drop k) = if cmpP (l.getD k Po.z) (m.getD k Po.z) = 0 then cmpL (l.drop (k + 1)) (m.drop (k + 1)) else cmpP (l.getD k Po.z) (m.getD k Po.z) := by
 rw [List.drop_eq_getElem_cons h, List.drop_eq_getElem_cons h']; simp [cmpL, h, h', List.getD_eq_getElem?_getD]
theorem cmpL_more {l m : List Po} {k : Nat} (h : k < l.length) (h' : m.length ≤ k) : cmpL (l.drop k) (m.drop k) = 1 := by
 rw [List.drop_eq_getElem_cons h, List.drop_eq_nil_of_le h']; rfl
theorem cmpL_end {l m : List Po} (h : m.length ≥ l.length) : cmpL (l.drop l.length) (m.drop l.length) = if l.length < m.length then -1 else 0 := by
 rw [List.drop_eq_nil_of_le (Nat.le_refl _)]
 split
 ·rename_i h2; rw [List.drop_eq_getElem_cons h2]; rfl
 ·rename_i h2; rw [List.drop_eq_nil_of_le om0]; rfl
def ordW (a b : Wy) : Int := orL [cmpI a.l.length b.l.length, cmpI a.back b.back, cmpL a.l b.l]
theorem cmpI_lt {a b : Int} : (cmpI a b < 0 ↔ a < b) ∧ (cmpI a b = 0 ↔ a = b) := by
 unfold cmpI
 constructor
 ·split
  ·simp [*]
  ·split <;> omega
 ·split
  ·omega
  ·split <;> omega
theorem cmpP_lt {p q : Po} : (cmpP p q < 0 ↔ p.lt q = true) ∧ (cmpP p q = 0 ↔ p = q) := by
 have h1 := @cmpI_lt p.f q.f
 have h2 := @cmpI_lt p.t q.t
 unfold cmpP orL orL orL
 rw [Po.lt_iff]
 obtain ⟨a, b⟩ := p
 obtain ⟨a', b'⟩ := q
 simp only at h1 h2 ⊢
 simp only [Po.mk.injEq]
 constructor
 ·split
  ·split <;> omega
  ·omega
 ·split
  ·split <;> omega
  ·omega
theorem cmpL_lt : ∀ {l m : List Po}, l.length = m.length → ((cmpL l m < 0 ↔ plt l m = true) ∧ (cmpL l m = 0 ↔ l = m))
 | [], [], _ => ⟨⟨fun h => absurd h dc, fun h => by cases h⟩, ⟨fun _ => rfl, fun _ => rfl⟩⟩
 | [], _ :: _, h => by cases h
 | _ :: _, [], h => by cases h
 | p :: l, q :: m, h => by
  have ih := cmpL_lt (l := l) (m := m) (by simpa using h)
  have hp := @cmpP_lt p q
  unfold cmpL plt
  simp only [Bool.or_eq_true, Bool.and_eq_true, decide_eq_true_eq]
  by_cases h0 : cmpP p q = 0
  ·have he := hp.2.1 h0
   subst he
   rw [if_pos h0]
   have : ¬ p.lt p = true := fun h => by have := hp.1.2 h; omega
   simp [this, ih.1, ih.2]
  ·have hne : ¬ p = q := fun h => h0 (hp.2.2 h)
   rw [if_neg h0]
   simp [hne, hp.1, h0]
theorem ordW_lt {a b : Wy} : ordW a b < 0 ↔ a.lt b = true := by
 have h1 := @cmpI_lt a.l.length b.l.length
 have h2 := @cmpI_lt a.back b.back
 unfold ordW orL orL orL orL
 rw [Wy.lt_iff]
 by_cases hl : a.l.length = b.l.length
 ·have h3 := cmpL_lt hl
  rw [if_pos (h1.2.2 om0)]
  by_cases hb : a.back = b.back
  ·rw [if_pos (h2.2.2 hb)]
   have e1 : ¬ a.l.length < b.l.length := by omega
   have e2 : ¬ a.back < b.back := by omega
   have e3 : (if cmpL a.l b.l = 0 then (0 : Int) else cmpL a.l b.l) = cmpL a.l b.l := by split <;> omega
   rw [e3, h3.1]
   simp [e1, e2, hl, hb]
  ·rw [if_neg (fun h => hb (h2.2.1 h))]
   have e1 : ¬ a.l.length < b.l.length := by omega
   rw [h2.1]
   simp [e1, hl, hb]
 ·rw [if_neg (fun h => hl (by have := h1.2.1 h; omega)), h1.1]
  constructor
  ·intro h; left; omega
  ·rintro (h | ⟨h, _⟩)
   ·omega
   ·exact absurd h hl
theorem orL_any (a : Option Addr) (n cap : Nat) (xs : List Int) (w : World) (hn : n ≤ 1000000) (hx : Ints w a n cap xs) : Ct Tryz.prog 85 #[.slice a n cap] w fun v _ => v = .int .i64 (orL xs) := by
 have hl := hx.len
 have hF := wide_wide
 refine Ct_start (args := [_]) Tryz.func85 rf Tryz.ntmps85 rf ?_
 refine zR fun ds => ?_
 refine za (.int .i64 _) hF ?_
 refine zP fun ds => ?_
 refine za (.int .i64 _) hF ?_
 refine zO ?_
 refine zR fun ds => ?_
 refine zm (.slice _ _ _) hF ?_
 refine zD hF (y_len rf Tryz.runUnderlying22) ?_
 refine zm (.int .i64 _) hF ?_
 refine zN ?_
 refine W_block ?_
 refine W_loop (γ := Nat) (fun k => k ≤ n ∧ orL (xs.drop k) = orL xs) (fun k => [(8, .int .i64 (k : Int)), (7, .int .i64 (n : Int)), (6, .slice a n cap), (3, .int .i64 0)]) (fun _ => _) (fun k => n - k) (0) ⟨Nat.zero_le _, by simp⟩ s10 (List.Sublist.refl _) ?_
 intro k e hk
 refine zR fun ds => ?_
 refine zD hF (y_lss rf rf) ?_
 refine zO ?_
 refine W_cond rf (fun c3 => ?_) (fun c3 => ?_)
 ·
  try simp only [qz1, qz2, qz3, qz4, qz5, qz6, qz7, qz8] at c3
  obtain ⟨b, o, rfl, hc⟩ := hx.cell k om0
  refine zU ?_
  refine W_seq ?_
  refine W_block ?_
  refine zR fun ds => ?_
  refine zD hF (y_index (k := k) rf rf r1 d10 Tryz.runUnderlying22 Tryz.sizeOf3) ?_
  refine zD hF (y_load1 rf Tryz.isAgg3 zo) ?_
  refine za (.int .i64 _) hF ?_
  refine zP fun ds => ?_
  refine zm (.int .i64 _) hF ?_
  refine zm (.int .i64 _) hF ?_
  refine zD hF (y_neq rf rf) ?_
  refine zN ?_
  refine W_cond rf (fun c5 => ?_) (fun c5 => ?_)
  ·
   try simp only [qz1, qz2, qz3, qz4, qz5, qz6, qz7, qz8] at c5
   refine zR fun ds => ?_
   refine zm (.int .i64 _) hF ?_
   refine za (.int .i64 _) hF ?_
   refine zN ?_
   refine W_ret ?_
   refine InB_ret ?_
   refine Then_ret ?_
   refine Loop_ret ?_
   refine InB_ret ?_
   refine Then_ret ?_
   refine Fin_ret [.int .i64 _] [] Tryz.results85 ⟨by rfl, trivial⟩ HSub.nil ?_
   rw [← hk.2, orL_step om0, if_neg c5]; rfl
  ·
   try simp only [qz1, qz2, qz3, qz4, qz5, qz6, qz7, qz8] at c5
   refine W_skip ?_
   refine InB_normal ?_
   refine zT fun ds => ?_
   refine zD hF (y_add rf rf ui) ?_
   refine zm (.int .i64 _) hF ?_
   refine WS_nil ?_
   exact Loop_next (k + 1) ⟨by omega, by rw [orL_step om0, if_pos c5] at hk; exact hk.2⟩ s10 s20 om0
 ·
  try simp only [qz1, qz2, qz3, qz4, qz5, qz6, qz7, qz8] at c3
  refine W_exit ?_
  refine Then_exit ?_
  refine Loop_exit ?_
  refine InB_same ?_
  refine zS fun ds => ?_
  refine zm (.int .i64 _) hF ?_
  refine za (.int .i64 _) hF ?_
  refine zN ?_
  refine W_ret ?_
  refine Fin_ret [.int .i64 _] [] Tryz.results85 ⟨by rfl, trivial⟩ HSub.nil ?_
  rw [← hk.2, List.drop_eq_nil_of_le om0]; rfl
theorem cmpP_any (p q : Po) (w : World) : Ct Tryz.prog 123 #[.agg p.cells.toArray, .agg q.cells.toArray] w fun v _ => v = .int .i64 (cmpP p q) := by
 have hF := wide_wide
 refine Ct_start (args := [_, _]) Tryz.func123 rf Tryz.ntmps123 rf ?_
 refine zR fun ds => ?_
 refine WS_new hF rf (y_box rf) (fun b1 => ?_)
 refine WS_new hF rf (y_box rf) (fun b2 => ?_)
 refine za (.int .i64 _) hF ?_
 refine zO ?_
 refine W_draw0 hF Tryzmixed [] dk0 (fun ds => ?_)
 refine P_det rf (Over_nil (y_fieldAddr rf fa47_0)) ?_
 refine P_det rf (Over_nil (y_load1 rf Tryz.isAgg3 (Mem.own1 1 rf rf))) ?_
 refine P_det rf (Over_nil (y_fieldAddr rf fa47_0)) ?_
 refine P_det rf (Over_nil (y_load1 rf Tryz.isAgg3 (Mem.own1 0 rf rf))) ?_
 refine P_det rf (Over_nil (y_callL rf rf Tryz.call86 (fun w hw => compare_any p.f q.f w))) ?_
 refine P_det rf (Over_nil (y_fieldAddr rf fa47_1)) ?_
 refine P_det rf (Over_nil (y_load1 rf Tryz.isAgg3 (Mem.own1 1 rf rf))) ?_
 refine P_det rf (Over_nil (y_fieldAddr rf fa47_1)) ?_
 refine P_det rf (Over_nil (y_load1 rf Tryz.isAgg3 (Mem.own1 0 rf rf))) ?_
 refine P_det rf (Over_nil (y_callL rf rf Tryz.call86 (fun w hw => compare_any p.t q.t w))) ?_
 refine P_new rf rf (Over_nil (y_buildSliceL bs22_2_0_1 rf)) ?_
 refine P_det rf (Over_in rf (Over_nil (by rintro _ _ ⟨b4, rfl, rfl⟩; exact (y_callL rf rf Tryz.call85 (fun w hw => orL_any _ 2 2 [cmpI p.f q.f, cmpI p.t q.t] w dc (Ints.two 0 rf w hw)))))) ?_
 refine P_det rf (Over_out rf (Over_nil (y_assign (c := .int .i64 _) rf))) ?_
 refine PW_end rf ?_
 refine OverAll_cons (fun w15 l15 => ?_)
 refine OverAll_nil ?_
 rintro ⟨-, h15⟩
 obtain ⟨b3, rfl, rfl⟩ := h15
 refine Then_normal ?_
 refine W_ret ?_
 refine Fin_ret [.int .i64 _] [] Tryz.results123 ⟨by rfl, trivial⟩ HSub.nil ?_
 rfl
theorem bs22_3_0_1_2 {x0 : Int} {x1 : Int} {x2 : Int} : ∀ w, (Instr.buildSlice 22 3 #[(0, .int .i64 x0), (1, .int .i64 x1), (2, .int .i64 x2)]).run Tryz.prog w = .ok (.slice (some ⟨w.heap.size, 0, none⟩) 3 3) (w.alloc (CB [.int .i64 x0, .int .i64 x1, .int .i64 x2] 3)) := fun w => by kernel_rfl
theorem fa118_0 : ∀ b o w, (Instr.fieldAt 118 (.pointer (some ⟨b, o, none⟩)) 0).run Tryz.prog w = .ok (.pointer (some ⟨b, o + 0, none⟩)) w := fun b o w => by kernel_rfl
theorem fa118_1 : ∀ b o w, (Instr.fieldAt 118 (.pointer (some ⟨b, o, none⟩)) 1).run Tryz.prog w = .ok (.pointer (some ⟨b, o + 1, none⟩)) w := fun b o w => by kernel_rfl
structure Wl where
 w : Wy
 a : Option Addr
 k : Nat
def Wl.z : Wl := ⟨⟨[], 0⟩, none, 0⟩
def Wl.cells (x : Wl) : List Value := [.slice x.a x.w.l.length x.k, .int .i64 x.w.back]
theorem wl_len : ∀ x, (Wl.cells x).length = 2 := fun _ => rfl
abbrev Wls (w : World) (a : Option Addr) (n cap : Nat) (xs : List Wl) : Prop := Rws Wl.cells 2 Wl.z w a n cap xs
structure Wl.Rd (w : World) (x : Wl) : Prop where
 p : Pos w x.a x.w.l.length x.k x.w.l
 n : x.w.l.length ≤ 1000000
theorem Wl.Rd.st {C : Ctx} {H : List Blk} {x : Wl} (h : x.Rd C.w0) (w : World) (hw : St C H w) : x.Rd w := ⟨h.p.st w hw, h.n⟩
theorem cmpL_any (l m : List Po) (la : Option Addr) (lcap : Nat) (ma : Option Addr) (mcap : Nat) (w : World) (hl : l.length ≤ 1000000) (hm : m.length ≤ 1000000) (hp : Pos w la l.length lcap l) (hq : Pos w ma m.length mcap m) :
  Ct Tryz.prog 122 #[.slice la l.length lcap, .slice ma m.length mcap, .func (.func 123) #[] #[]] w fun v _ => v = .int .i64 (cmpL l m) := by
 have hF := wide_wide
 refine Ct_start (args := [_, _, _]) Tryz.func122 rf Tryz.ntmps122 rf ?_
 refine zR fun ds => ?_
 refine za (.int .i64 _) hF ?_
 refine zO ?_
 refine zR fun ds => ?_
 refine zm (.slice _ _ _) hF ?_
 refine zD hF (y_len rf Tryz.runUnderlying35) ?_
 refine zm (.int .i64 _) hF ?_
 refine zN ?_
 refine W_block ?_
 refine W_loop (γ := Nat) (fun k => k ≤ l.length ∧ k ≤ m.length ∧ cmpL (l.drop k) (m.drop k) = cmpL l m) (fun k => [(13, .int .i64 (k : Int)), (12, .int .i64 (l.length : Int)), (11, .slice la l.length lcap), (0, .slice la l.length lcap), (1, .slice ma m.length mcap), (2, .func (.func 123) #[] #[])]) (fun _ => _) (fun k => l.length - k) (0) ⟨Nat.zero_le _, Nat.zero_le _, by simp⟩ s10 (List.Sublist.refl _) ?_
 intro k e hk
 refine zR fun ds => ?_
 refine zD hF (y_lss rf rf) ?_
 refine zO ?_
 refine W_cond rf (fun c2 => ?_) (fun c2 => ?_)
 ·
  try simp only [qz1, qz2, qz3, qz4, qz5, qz6, qz7, qz8] at c2
  obtain ⟨b, o, rfl, hc⟩ := hp.cell k om0
  change At w b _ (l.getD k Po.z).cells at hc
  refine zU ?_
  refine W_seq ?_
  refine W_block ?_
  refine zR fun ds => ?_
  refine zm (.int .i64 _) hF ?_
  refine zD hF (y_index (k := k) rf rf r1 d10 Tryz.runUnderlying35 Tryz.sizeOf47) ?_
  refine zD hF (y_loadN rf Tryz.isAgg47 Tryz.sizeOf47 (zq [.int .i64 _, .int .i64 _]) rf) ?_
  refine WS_new hF rf (y_alloc Tryz.zeroValue47 rf) (fun b1 => ?_)
  refine za (.int .i64 _) hF ?_
  refine WS_store hF (i := 0) rf rf Tryz.sizeOf47 rf rf rf d20 ?_
  refine zO ?_
  refine zR fun ds => ?_
  refine zm (.int .i64 _) hF ?_
  refine zm (.slice _ _ _) hF ?_
  refine zD hF (y_len rf Tryz.runUnderlying35) ?_
  refine zD hF (y_geq rf rf) ?_
  refine zN ?_
  refine W_cond rf (fun c4 => ?_) (fun c4 => ?_)
  ·
   try simp only [qz1, qz2, qz3, qz4, qz5, qz6, qz7, qz8] at c4
   refine zR fun ds => ?_
   refine za (.int .i64 _) hF ?_
   refine zN ?_
   refine W_ret ?_
   refine Then_ret ?_
   refine InB_ret ?_
   refine Then_ret ?_
   refine Loop_ret ?_
   refine InB_ret ?_
   refine Then_ret ?_
   refine Fin_ret [.int .i64 _] [] Tryz.results122 ⟨by rfl, trivial⟩ HSub.nil ?_
   rw [← hk.2.2, cmpL_more om0 om0]; rfl
  ·
   try simp only [qz1, qz2, qz3, qz4, qz5, qz6, qz7, qz8] at c4
   obtain ⟨b', o', rfl, hc'⟩ := hq.cell k om0
   change At w b' _ (m.getD k Po.z).cells at hc'
   refine W_skip ?_
   refine zS fun ds => ?_
   refine zm (.slice _ _ _) hF ?_
   refine zm (.int .i64 _) hF ?_
   refine zD hF (y_index (k := k) rf rf r1 d10 Tryz.runUnderlying35 Tryz.sizeOf47) ?_
   refine zD hF (y_loadN rf Tryz.isAgg47 Tryz.sizeOf47 (zq [.int .i64 _, .int .i64 _]) rf) ?_
   refine WS_new hF rf (y_alloc Tryz.zeroValue47 rf) (fun b2 => ?_)
   refine WS_store hF (i := 0) rf rf Tryz.sizeOf47 rf rf rf d20 ?_
   refine zP fun ds => ?_
   refine zm (_) hF ?_
   refine zD hF (y_loadN rf Tryz.isAgg47 Tryz.sizeOf47 (Mem.own (us := [.int .i64 _, .int .i64 _]) 1 rf rf) rf) ?_
   refine zD hF (y_loadN rf Tryz.isAgg47 Tryz.sizeOf47 (Mem.own (us := [.int .i64 _, .int .i64 _]) 0 rf rf) rf) ?_
   refine zD hF (y_callL (first := []) (captured := []) rf rf Tryz.call123 (fun w hw => cmpP_any (l.getD k Po.z) (m.getD k Po.z) w)) ?_
   refine za (.int .i64 _) hF ?_
   refine zP fun ds => ?_
   refine zm (.int .i64 _) hF ?_
   refine zD hF (y_neq rf rf) ?_
   refine zN ?_
   refine W_cond rf (fun c8 => ?_) (fun c8 => ?_)
   ·
    try simp only [qz1, qz2, qz3, qz4, qz5, qz6, qz7, qz8] at c8
    refine zR fun ds => ?_
    refine zm (.int .i64 _) hF ?_
    refine za (.int .i64 _) hF ?_
    refine zN ?_
    refine W_ret ?_
    refine InB_ret ?_
    refine Then_ret ?_
    refine Loop_ret ?_
    refine InB_ret ?_
    refine Then_ret ?_
    refine Fin_ret [.int .i64 _] [] Tryz.results122 ⟨by rfl, trivial⟩ HSub.nil ?_
    rw [← hk.2.2, cmpL_step om0 om0, if_neg c8]; rfl
   ·
    try simp only [qz1, qz2, qz3, qz4, qz5, qz6, qz7, qz8] at c8
    refine W_skip ?_
    refine InB_normal ?_
    refine zT fun ds => ?_
    refine zD hF (y_add rf rf ui) ?_
    refine zm (.int .i64 _) hF ?_
    refine WS_nil ?_
    exact Loop_next (k + 1) ⟨by omega, by omega, by have h := hk.2.2; rw [cmpL_step om0 om0, if_pos c8] at h; exact h⟩ s10 s20 om0
 ·
  try simp only [qz1, qz2, qz3, qz4, qz5, qz6, qz7, qz8] at c2
  refine W_exit ?_
  refine Then_exit ?_
  refine Loop_exit ?_
  refine InB_same ?_
  refine Then_normal ?_
  refine W_seq ?_
  refine zR fun ds => ?_
  refine zm (.slice _ _ _) hF ?_
  refine zD hF (y_len rf Tryz.runUnderlying35) ?_
  refine zm (.slice _ _ _) hF ?_
  refine zD hF (y_len rf Tryz.runUnderlying35) ?_
  refine zD hF (y_lss rf rf) ?_
  refine zN ?_
  refine W_cond rf (fun c11 => ?_) (fun c11 => ?_)
  ·
   try simp only [qz1, qz2, qz3, qz4, qz5, qz6, qz7, qz8] at c11
   refine zR fun ds => ?_
   refine za (.int .i64 _) hF ?_
   refine zN ?_
   refine W_ret ?_
   refine Then_ret ?_
   refine Fin_ret [.int .i64 _] [] Tryz.results122 ⟨by rfl, trivial⟩ HSub.nil ?_
   obtain rfl : k = l.length := by omega
   rw [← hk.2.2, cmpL_end hk.2.1, if_pos om0]; rfl
  ·
   try simp only [qz1, qz2, qz3, qz4, qz5, qz6, qz7, qz8] at c11
   refine W_skip ?_
   refine zS fun ds => ?_
   refine za (.int .i64 _) hF ?_
   refine zN ?_
   refine W_ret ?_
   refine Fin_ret [.int .i64 _] [] Tryz.results122 ⟨by rfl, trivial⟩ HSub.nil ?_
   obtain rfl : k = l.length := by omega
   rw [← hk.2.2, cmpL_end hk.2.1, if_neg om0]; rfl
theorem order_any (x y : Wl) (w : World) (hx : x.Rd w) (hy : y.Rd w) : Ct Tryz.prog 96 #[.agg x.cells.toArray, .agg y.cells.toArray] w fun v _ => v = .int .i64 (ordW x.w y.w) := by
 have hF := wide_wide
 refine Ct_start (args := [_, _]) Tryz.func96 rf Tryz.ntmps96 rf ?_
 refine zR fun ds => ?_
 refine WS_new hF rf (y_box rf) (fun b1 => ?_)
 refine WS_new hF rf (y_box rf) (fun b2 => ?_)
 refine za (.int .i64 _) hF ?_
 refine zO ?_
 refine W_draw0 hF Tryzmixed [] dk0 (fun ds => ?_)
 refine P_det rf (Over_nil (y_fieldAddr rf fa118_0)) ?_
 refine P_det rf (Over_nil (y_load1 rf Tryz.isAgg35 (Mem.own1 1 rf rf))) ?_
 refine P_det rf (Over_nil (y_len rf Tryz.runUnderlying35)) ?_
 refine P_det rf (Over_nil (y_fieldAddr rf fa118_0)) ?_
 refine P_det rf (Over_nil (y_load1 rf Tryz.isAgg35 (Mem.own1 0 rf rf))) ?_
 refine P_det rf (Over_nil (y_len rf Tryz.runUnderlying35)) ?_
 refine P_det rf (Over_nil (y_callL rf rf Tryz.call86 (fun w hw => compare_any x.w.l.length y.w.l.length w))) ?_
 refine P_det rf (Over_nil (y_fieldAddr rf fa118_1)) ?_
 refine P_det rf (Over_nil (y_load1 rf Tryz.isAgg3 (Mem.own1 1 rf rf))) ?_
 refine P_det rf (Over_nil (y_fieldAddr rf fa118_1)) ?_
 refine P_det rf (Over_nil (y_load1 rf Tryz.isAgg3 (Mem.own1 0 rf rf))) ?_
 refine P_det rf (Over_nil (y_callL rf rf Tryz.call86 (fun w hw => compare_any x.w.back y.w.back w))) ?_
 refine P_det rf (Over_nil (y_fieldAddr rf fa118_0)) ?_
 refine P_det rf (Over_nil (y_load1 rf Tryz.isAgg35 (Mem.own1 1 rf rf))) ?_
 refine P_det rf (Over_nil (y_fieldAddr rf fa118_0)) ?_
 refine P_det rf (Over_nil (y_load1 rf Tryz.isAgg35 (Mem.own1 0 rf rf))) ?_
 refine P_det rf (Over_nil (y_callL rf rf Tryz.call122 (fun w hw => cmpL_any x.w.l y.w.l x.a x.k y.a y.k w hx.n hy.n (hx.p.st w hw) (hy.p.st w hw)))) ?_
 refine P_new rf rf (Over_nil (y_buildSliceL bs22_3_0_1_2 rf)) ?_
 refine P_det rf (Over_in rf (Over_nil (by rintro _ _ ⟨b4, rfl, rfl⟩; exact (y_callL rf rf Tryz.call85 (fun w hw => orL_any _ 3 3 [cmpI x.w.l.length y.w.l.length, cmpI x.w.back y.w.back, cmpL x.w.l y.w.l] w dc (Ints.mem (xs := [cmpI x.w.l.length y.w.l.length, cmpI x.w.back y.w.back, cmpL x.w.l y.w.l]) (rest := []) 0 rf rf dc w hw)))))) ?_
 refine P_det rf (Over_out rf (Over_nil (y_assign (c := .int .i64 _) rf))) ?_
 refine PW_end rf ?_
 refine OverAll_cons (fun w22 l22 => ?_)
 refine OverAll_nil ?_
 rintro ⟨-, h22⟩
 obtain ⟨b3, rfl, rfl⟩ := h22
 refine Then_normal ?_
 refine W_ret ?_
 refine Fin_ret [.int .i64 _] [] Tryz.results96 ⟨by rfl, trivial⟩ HSub.nil ?_
 rfl
theorem minW_any (a : Option Addr) (n cap : Nat) (xs : List Wl) (w : World) (hn0 : 0 < n) (hn : n ≤ 1000000) (hx : Wls w a n cap xs) (hr : ∀ x ∈ xs, x.Rd w) :
  Ct Tryz.prog 121 #[.slice a n cap, .func (.func 96) #[] #[]] w fun v _ => ∃ x ∈ xs, v = .agg x.cells.toArray ∧ ∀ y ∈ xs, y.w.lt x.w = false := by
 have hl := hx.len
 have hmem : ∀ k, k < n → xs.getD k Wl.z ∈ xs := fun k hk => by rw [List.getD_eq_getElem?_getD, List.getElem?_eq_getElem om0]; exact List.getElem_mem _
 obtain ⟨b0, o0, rfl, hc0⟩ := hx.cell 0 hn0
 change At w b0 _ (xs.getD 0 Wl.z).cells at hc0
 have hF := wide_wide
 refine Ct_start (args := [_, _]) Tryz.func121 rf Tryz.ntmps121 rf ?_
 refine zR fun ds => ?_
 refine WS_new hF rf (y_alloc Tryz.zeroValue118 rf) (fun b1 => ?_)
 refine zO ?_
 refine zR fun ds => ?_
 refine zm (.slice _ _ _) hF ?_
 refine zD hF (y_len rf Tryz.runUnderlying167) ?_
 refine zD hF (y_lss rf rf) ?_
 refine zN ?_
 refine W_cond rf (fun c1 => ?_) (fun c1 => ?_)
 ·(simp only [decide_eq_true_eq] at c1; omega)
 ·
  try simp only [qz1, qz2, qz3, qz4, qz5, qz6, qz7, qz8] at c1
  refine W_skip ?_
  refine zS fun ds => ?_
  refine zm (.slice _ _ _) hF ?_
  refine zD hF (y_index (k := 0) rf rf r1 d10 Tryz.runUnderlying167 Tryz.sizeOf118) ?_
  refine zD hF (y_loadN rf Tryz.isAgg118 Tryz.sizeOf118 (zq [.slice _ _ _, .int .i64 _]) rf) ?_
  refine WS_new hF rf (y_alloc Tryz.zeroValue118 rf) (fun b2 => ?_)
  refine WS_store hF (i := 0) rf rf Tryz.sizeOf118 rf rf rf d20 ?_
  refine zO ?_
  refine zR fun ds => ?_
  refine za (.int .i64 _) hF ?_
  refine zN ?_
  refine W_block ?_
  refine W_loop (γ := Nat × Wl) (fun q => 1 ≤ q.1 ∧ q.1 ≤ n ∧ q.2 ∈ xs ∧ ∀ j, j < q.1 → (xs.getD j Wl.z).w.lt q.2.w = false) (fun q => [(0, .slice (some ⟨b0, o0, none⟩) n cap), (1, .func (.func 96) #[] #[]), (4, .pointer (some ⟨b1, 0, none⟩)), (5, .pointer (some ⟨b2, 0, none⟩)), (6, .int .i64 (q.1 : Int))]) (fun q => [(b2, CB q.2.cells 118), (b1, CB [.slice none 0 0, .int .i64 0] 118)]) (fun q => n - q.1) ((1, xs.getD 0 Wl.z)) ⟨Nat.le_refl _, hn0, hmem 0 hn0, fun j hj => by obtain rfl : j = 0 := om0; exact Wy.lt_irrefl _⟩ s10 (sbA) ?_
  rintro ⟨k, x⟩ e ⟨hk1, hkn, hxm, hmin⟩
  refine W_seq ?_
  refine zR fun ds => ?_
  refine zm (.int .i64 _) hF ?_
  refine zm (.slice _ _ _) hF ?_
  refine zD hF (y_len rf Tryz.runUnderlying167) ?_
  refine zD hF (y_lss rf rf) ?_
  refine zN ?_
  refine W_cond rf (fun c5 => ?_) (fun c5 => ?_)
  ·
   try simp only [qz1, qz2, qz3, qz4, qz5, qz6, qz7, qz8] at c5
   have hck := hx.at (k := k) om0
   have hrk := hr _ (hmem k om0)
   have hrx := hr _ hxm
   refine zU ?_
   refine W_seq ?_
   refine W_block ?_
   refine W_seq ?_
   refine W_draw0 hF Tryzmixed [] dk0 (fun ds => ?_)
   refine P_det rf (Over_nil (y_move (c := _) rf)) ?_
   refine P_det rf (Over_nil (y_move (c := .slice _ _ _) rf)) ?_
   refine P_det rf (Over_nil (y_move (c := .int .i64 _) rf)) ?_
   refine P_det rf (Over_nil (y_index (k := k) rf rf r1 d10 Tryz.runUnderlying167 Tryz.sizeOf118)) ?_
   refine P_det rf (Over_nil (y_loadN rf Tryz.isAgg118 Tryz.sizeOf118 (zq [.slice _ _ _, .int .i64 _]) rf)) ?_
   refine P_det rf (Over_nil (y_loadN rf Tryz.isAgg118 Tryz.sizeOf118 (Mem.own (us := [.slice _ _ _, .int .i64 _]) 0 rf rf) rf)) ?_
   refine P_det rf (Over_nil (y_callL (first := []) (captured := []) rf rf Tryz.call96 (fun w hw => order_any (xs.getD k Wl.z) x w (hrk.st w hw) (hrx.st w hw)))) ?_
   refine P_det rf (Over_nil (y_lss rf rf)) ?_
   refine PW_end rf ?_
   refine OverAll_nil ?_
   rintro -
   refine Then_normal ?_
   refine W_cond rf (fun c7 => ?_) (fun c7 => ?_)
   ·
    try simp only [qz1, qz2, qz3, qz4, qz5, qz6, qz7, qz8] at c7
    have hlt : (xs.getD k Wl.z).w.lt x.w = true := ordW_lt.1 c7
    have hm2 : ∀ j, j < k + 1 → (xs.getD j Wl.z).w.lt (xs.getD k Wl.z).w = false := fun j hj => by
     by_cases hjk : j = k
     ·subst hjk; exact Wy.lt_irrefl _
     ·cases hl : (xs.getD j Wl.z).w.lt (xs.getD k Wl.z).w with
      | false => rfl
      | true => have := hmin j om0; rw [Wy.lt_trans hl hlt] at this; exact this
    refine W_region_lit (fun ds => ?_)
    refine zm (.slice _ _ _) hF ?_
    refine zm (.int .i64 _) hF ?_
    refine zD hF (y_index (k := k) rf rf r1 d10 Tryz.runUnderlying167 Tryz.sizeOf118) ?_
    refine zD hF (y_loadN rf Tryz.isAgg118 Tryz.sizeOf118 (zq [.slice _ _ _, .int .i64 _]) rf) ?_
    refine WS_store hF (i := 0) rf rf Tryz.sizeOf118 rf rf rf d20 ?_
    refine WS_nil ?_
    refine InB_normal ?_
    refine zT fun ds => ?_
    refine zm (.int .i64 _) hF ?_
    refine zD hF (y_add rf rf ui) ?_
    refine za (.int .i64 _) hF ?_
    refine WS_nil ?_
    exact Loop_next (k + 1, xs.getD k Wl.z) ⟨by omega, by simp only; omega, hmem k om0, hm2⟩ s10 sbA (by simp only; omega)
   ·
    try simp only [qz1, qz2, qz3, qz4, qz5, qz6, qz7, qz8] at c7
    have hlt : ¬ (xs.getD k Wl.z).w.lt x.w = true := fun h => by have := ordW_lt.2 h; omega
    have hm2 : ∀ j, j < k + 1 → (xs.getD j Wl.z).w.lt x.w = false := fun j hj => by
     by_cases hjk : j = k
     ·subst hjk; simpa using hlt
     ·exact hmin j om0
    refine W_skip ?_
    refine InB_normal ?_
    refine zT fun ds => ?_
    refine zm (.int .i64 _) hF ?_
    refine zD hF (y_add rf rf ui) ?_
    refine za (.int .i64 _) hF ?_
    refine WS_nil ?_
    exact Loop_next (k + 1, x) ⟨by omega, by simp only; omega, hxm, hm2⟩ s10 sbA (by simp only; omega)
  ·
   try simp only [qz1, qz2, qz3, qz4, qz5, qz6, qz7, qz8] at c5
   refine W_exit ?_
   refine Then_exit ?_
   refine Loop_exit ?_
   refine InB_same ?_
   refine zS fun ds => ?_
   refine zD hF (y_loadN rf Tryz.isAgg118 Tryz.sizeOf118 (Mem.own (us := [.slice _ _ _, .int .i64 _]) 0 rf rf) rf) ?_
   refine WS_store hF (i := 1) rf rf Tryz.sizeOf118 rf rf rf d20 ?_
   refine zN ?_
   refine W_ret ?_
   refine Fin_ret [_] [] Tryz.results121 ⟨lvN rf Tryz.isAgg118 Tryz.sizeOf118 (Mem.own (us := [.slice _ _ _, .int .i64 _]) 1 rf rf) rf, trivial⟩ HSub.nil ?_
   obtain rfl : k = n := by omega
   refine ⟨x, hxm, rfl, fun y hy => ?_⟩
   obtain ⟨j, hj⟩ := List.getElem?_of_mem hy
   have hjl : j < xs.length := (List.getElem?_eq_some_iff.1 hj).1
   have := hmin j om0
   rw [List.getD_eq_getElem?_getD, hj] at this
   exact this
theorem firstW_any (a : Option Addr) (n cap : Nat) (xs : List Wl) (w : World) (hn0 : 0 < n) (hn : n ≤ 1000000) (hx : Wls w a n cap xs) (hr : ∀ x ∈ xs, x.Rd w) :
  Ct Tryz.prog 95 #[.slice a n cap, .func (.func 96) #[] #[]] w fun v _ => ∃ x ∈ xs, v = .agg x.cells.toArray ∧ ∀ y ∈ xs, y.w.lt x.w = false := by
 have hF := wide_wide
 refine Ct_start (args := [_, _]) Tryz.func95 rf Tryz.ntmps95 rf ?_
 refine zR fun ds => ?_
 refine WS_new hF rf (y_alloc Tryz.zeroValue118 rf) (fun b1 => ?_)
 refine zP fun ds => ?_
 refine zm (.slice _ _ _) hF ?_
 refine zm (_) hF ?_
 refine WS_gen hF rf (y_callL rf rf Tryz.call121 (fun w hw => minW_any a n cap xs w hn0 hn (hx.st w hw) (fun x h => (hr x h).st w hw))) ?_
 rintro _ HL ⟨x, hxm, rfl, hmin⟩
 refine WS_back ?_
 refine WS_store hF (i := 0) rf rf Tryz.sizeOf118 rf rf rf d20 ?_
 refine zN ?_
 refine W_ret ?_
 refine Fin_ret [_] [] Tryz.results95 ⟨lvN rf Tryz.isAgg118 Tryz.sizeOf118 (Mem.own (us := [.slice _ _ _, .int .i64 _]) 0 rf rf) rf, trivial⟩ HSub.nil ?_
 exact ⟨x, hxm, rfl, hmin⟩
end Go.Proofs.YtjekjehgmljbgaaGreatDoor.T
namespace Go.Eng
open Go.RowKit
section
variable {P : Program} {T E : TypeId}
structure Arr4 (P : Program) (T E : TypeId) : Prop where
 t : P.underlying T = some (.array 4 E)
 e : P.underlying E = some (.int .i64)
 agg : ∀ w, (isAgg E).run P w = .ok false w
 sz : ∀ w, (sizeOf E).run P w = .ok 1 w
def arr4 (a b c d : Int) : Value := .agg #[.int .i64 a, .int .i64 b, .int .i64 c, .int .i64 d]
theorem part4 (h : Arr4 P T E) {l : Array Value} {i : Nat} {w : World} {v : Value} (hv : l[i]? = some v) : (part E l i).run P w = .ok v w := by
 unfold part
 simp [h.agg, hv]
theorem eq_arr4 (h : Arr4 P T E) {d : Nat} (a b c e a' b' c' e' : Int) (w : World) :
  (Op.equalIn (d + 2) T (arr4 a b c e) (arr4 a' b' c' e')).run P w = .ok (ieq a a' && ieq b b' && ieq c c' && ieq e e') w := by
 have hE : ∀ w, (underlying E).run P w = .ok (.int .i64) w := run_underlying h.e
 have p0 : ∀ x y z u w, (part E #[.int .i64 x, .int .i64 y, .int .i64 z, .int .i64 u] 0).run P w = .ok (.int .i64 x) w := fun _ _ _ _ _ => part4 h rfl
 have p1 : ∀ x y z u w, (part E #[.int .i64 x, .int .i64 y, .int .i64 z, .int .i64 u] 1).run P w = .ok (.int .i64 y) w := fun _ _ _ _ _ => part4 h rfl
 have p2 : ∀ x y z u w, (part E #[.int .i64 x, .int .i64 y, .int .i64 z, .int .i64 u] 2).run P w = .ok (.int .i64 z) w := fun _ _ _ _ _ => part4 h rfl
 have p3 : ∀ x y z u w, (part E #[.int .i64 x, .int .i64 y, .int .i64 z, .int .i64 u] 3).run P w = .ok (.int .i64 u) w := fun _ _ _ _ _ => part4 h rfl
 have q : ∀ x y w, (Op.equalIn (d + 1) E (.int .i64 x) (.int .i64 y)).run P w = .ok (ieq x y) w := fun x y w => eq_int hE w
 rw [Op.equalIn.eq_def]
 unfold arr4
 simp only [Sem.run_bind, run_underlying h.t, Result.andThen, h.sz]
 simp only [Std.Legacy.Range.forIn_eq_forIn_range', Std.Legacy.Range.size, Nat.sub_zero, Nat.add_sub_cancel, Nat.div_one, List.range'_succ, List.range'_zero, List.forIn_cons, List.forIn_nil, Nat.mul_one, Nat.zero_add, Nat.reduceAdd]
 simp only [Sem.run_bind, p0, p1, p2, p3, q, Result.andThen]
 by_cases h0 : ieq a a' = true <;> by_cases h1 : ieq b b' = true <;> by_cases h2 : ieq c c' = true <;> by_cases h3 : ieq e e' = true
 all_goals simp_all [Result.andThen]
theorem chk_arr4 (h : Arr4 P T E) (em : Bool) {d : Nat} (a b c e : Int) (w : World) : (Instr.checkKey em (d + 2) T (arr4 a b c e)).run P w = .ok () w := by
 have p0 : ∀ x y z u w, (part E #[.int .i64 x, .int .i64 y, .int .i64 z, .int .i64 u] 0).run P w = .ok (.int .i64 x) w := fun _ _ _ _ _ => part4 h rfl
 have p1 : ∀ x y z u w, (part E #[.int .i64 x, .int .i64 y, .int .i64 z, .int .i64 u] 1).run P w = .ok (.int .i64 y) w := fun _ _ _ _ _ => part4 h rfl
 have p2 : ∀ x y z u w, (part E #[.int .i64 x, .int .i64 y, .int .i64 z, .int .i64 u] 2).run P w = .ok (.int .i64 z) w := fun _ _ _ _ _ => part4 h rfl
 have p3 : ∀ x y z u w, (part E #[.int .i64 x, .int .i64 y, .int .i64 z, .int .i64 u] 3).run P w = .ok (.int .i64 u) w := fun _ _ _ _ _ => part4 h rfl
 have q : ∀ x w, (Instr.checkKey em (d + 1) E (.int .i64 x)).run P w = .ok () w := fun x w => by
  rw [Instr.checkKey.eq_def]
  simp only [Sem.run_bind, run_underlying h.e, Result.andThen]
  rfl
 rw [Instr.checkKey.eq_def]
 unfold arr4
 simp only [Sem.run_bind, run_underlying h.t, Result.andThen]
 simp only [Std.Legacy.Range.forIn_eq_forIn_range', Std.Legacy.Range.size, Nat.sub_zero, Nat.add_sub_cancel, Nat.div_one, List.range'_succ, List.range'_zero, List.forIn_cons, List.forIn_nil, Nat.zero_add, Nat.reduceAdd]
 simp [Sem.run_bind, h.sz, p0, p1, p2, p3, q, Result.andThen]
theorem bits_arr4 (a b c e : Int) : Instr.sameBits 10000 (arr4 a b c e) (arr4 a b c e) = true := by
 unfold arr4
 rw [Instr.sameBits.eq_def]
 simp [Instr.sameBits]
theorem keyOk4 {K : Type} [DecidableEq K] (h : Arr4 P T E) {enc : K → Value} (g : Nat → K → Int) (he : ∀ x, enc x = arr4 (g 0 x) (g 1 x) (g 2 x) (g 3 x)) (hi : ∀ x y, g 0 x = g 0 y → g 1 x = g 1 y → g 2 x = g 2 y → g 3 x = g 3 y → x = y) : KeyOk P T enc where
 now := ⟨_, h.t, fun a b => by rw [he, he]; rfl⟩
 eq := fun x y w => by
  rw [he, he]
  unfold Op.equal Op.maxDepth
  rw [eq_arr4 h]
  congr 1
  rw [Bool.eq_iff_iff]
  simp only [Bool.and_eq_true, ieq_iff, decide_eq_true_eq]
  constructor
  ·rintro ⟨⟨⟨h0, h1⟩, h2⟩, h3⟩; exact hi x y h0 h1 h2 h3
  ·rintro rfl; exact ⟨⟨⟨rfl, rfl⟩, rfl⟩, rfl⟩
 chk := fun b x w => by rw [he]; exact chk_arr4 h b _ _ _ _ w
 bits := fun x => by rw [he]; exact bits_arr4 _ _ _ _
end
end Go.Eng
