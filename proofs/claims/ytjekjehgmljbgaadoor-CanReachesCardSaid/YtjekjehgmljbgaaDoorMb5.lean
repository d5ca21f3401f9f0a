/- Proved: for every input, with no condition, the law CanReaches returns true and the input reads as it did (Rows.CanReachesSaid). -/
import Derived.Test.YtjekjehgmljbgaaDoorMb4
import Derived.Shelf.Spec.SlicesGrow
import Derived.Test.YtjekjehgmljbgaaDoorRows
import Derived.WalkKit
import Derived.ProofKit
import Derived.OpenShut
import Derived.Lib.SmallJoins
import Derived.ChangeOld
import Derived.Below
import Derived.Test.YtjekjehgmljbgaaDoorMb2
import Derived.Test.YtjekjehgmljbgaaDoorMb3
import Derived.Test.YtjekjehgmljbgaaDoorTie
import Derived.Test.YtjekjehgmljbgaaDoorCards
import Derived.LaidMore
import Derived.Stop.Joined
import Derived.SevenTiedAt
set_option linter.unusedVariables false
set_option linter.unusedSimpArgs false
/- The amounts that can be made, and that which takes longest: the program's walks. -/
namespace Go.Proofs.YtjekjehgmljbgaaDoor.T
open Go.RowKit Go.Proofs Go.Eng
set_option maxRecDepth 100000
set_option maxHeartbeats 1000000
set_option linter.unusedVariables false
set_option linter.unusedSimpArgs false



theorem co_drop {c : Cn} (hok : c.Ok) (x : Co) : ∃ rest, List.drop 1 x.cells = iv (c.of x).inn ++ rest := by
  have h1 := hok.n1
  have h3 := hok.n3
  unfold Cn.of
  simp only
  obtain h | h | h : c.n = 1 ∨ c.n = 2 ∨ c.n = 3 := by omega
  · rw [h]; exact ⟨[.int .i64 x.c, .int .i64 x.d], rfl⟩
  · rw [h]; exact ⟨[.int .i64 x.d], rfl⟩
  · rw [h]; exact ⟨[], rfl⟩
theorem bmade_cs (w0 : World) (ds0 out0 : List Deferred) (c : Cn) (a1 : Option Addr) (p1 : Nat) (a2 : Option Addr) (p2 : Nat) (mk ck : Nat) (l : List (EntK Co)) (HX : List Blk) (hg : GoodM l ck) (hT : Tab HX l c.bestO) (hok : c.Ok) :
    Cs ⟨Tryd.prog, w0, ds0, out0⟩ 92 #[.agg #[.slice a1 c.n p1, .slice a2 c.inn.length p2, .int .i64 c.st], .map (some mk)] ((mk, MK encC l ck) :: HX) fun v Hn => ∃ b cap junk, v = .slice (some ⟨b, 0, none⟩) c.madeL.length cap ∧ Hn = (b, CB (iv c.madeL ++ junk) 3) :: (mk, MK encC l ck) :: HX ∧ (iv c.madeL ++ junk).length = cap * 1 ∧ c.madeL.length ≤ cap := by
  have hln := good_len hok hg hT
  have hn3 := hok.n3
  have hn1 := hok.n1
  have hF := wide_wide
  refine Cs_start (args := [_, _]) Tryd.func92 (by rfl) Tryd.ntmps92 (by rfl) ?_
  refine W_seq ?_
  refine W_region_lit (fun ds => ?_)
  refine WS_new hF (by rfl) (y_box (by rfl)) (fun b2 => ?_)
  refine WS_det hF (by rfl) (y_assign (c := .slice _ _ _) (by rfl)) ?_
  refine WS_nil ?_
  refine Then_normal ?_
  refine W_seq ?_
  refine W_region_lit (fun ds => ?_)
  refine WS_det hF (by rfl) (y_assign (c := .slice _ _ _) (by rfl)) ?_
  refine WS_nil ?_
  refine Then_normal ?_
  refine W_seq ?_
  refine W_seq ?_
  refine W_region_lit (fun ds => ?_)
  refine WS_det hF (by rfl) (y_move (c := .map _) (by rfl)) ?_
  refine WS_new hF (by rfl) (y_rangeK (enc := encC) (i := 1) (by rfl) Tryd.underlying115 (by rfl)) (fun it => ?_)
  refine WS_nil ?_
  refine Then_normal ?_
  refine W_block ?_
  refine W_loop (γ := Array Nat × Nat × List Int × Option Addr × Nat × List Blk) (fun q => MdI c l q.1 q.2.2.1 ∧ ck ≤ q.2.1 ∧ NewRow 3 1 q.2.2.1.length (iv q.2.2.1) (.slice q.2.2.2.1 q.2.2.1.length q.2.2.2.2.1) q.2.2.2.2.2) (fun q => [(2, .pointer (some ⟨b2, 0, none⟩)), (5, .slice q.2.2.2.1 q.2.2.1.length q.2.2.2.2.1), (8, .pointer (some ⟨it, 0, none⟩))]) (fun q => (it, .mapIter (some mk) ck q.1 q.2.1) :: (b2, CB [.slice a1 c.n p1, .slice a2 c.inn.length p2, .int .i64 c.st] 96) :: (mk, MK encC l ck) :: (HX ++ q.2.2.2.2.2)) (fun q => leftL l q.1) ((#[], ck, [], none, 0, [])) ⟨MdI.nil c l, Nat.le_refl _, ⟨none, 0, rfl, Nat.le_refl _, .inr ⟨rfl, rfl, rfl⟩⟩⟩ (by repeat (first | exact trivial | refine ⟨by rfl, ?_⟩)) ((by simp only [List.append_nil]; exact sbA)) ?_
  rintro ⟨seen, c0, L, a, cap, Hr⟩ e ⟨(hI : MdI c l seen L), (hc0 : ck ≤ c0), (hrow : NewRow 3 1 L.length (iv L) (.slice a L.length cap) Hr)⟩
  refine W_seq ?_
  refine W_region_lit (fun ds => ?_)
  refine WS_nextK hF (enc := encC) (i := 0) (j := 2) (by rfl) (by rfl) (by rfl) (by rfl) hg.old hc0 (fun hov => ?_) (fun y hy hns => ?_)
  ·
    have hlx : L.length + 3 * leftL l seen ≤ 3 * l.length := hI.len
    have hmd := hI.made hok hg hT hov
    have hL0 : 0 < L.length := by
      refine Nat.pos_of_ne_zero fun h => ?_
      have h2 := Cn.made_pos hok
      rw [← hmd] at h2
      rw [List.eq_nil_of_length_eq_zero h] at h2
      simp [sortL, Lib.compact, Lib.compactUpTo] at h2
    obtain ⟨bR, jR, rfl, rfl, hjl, hjc⟩ := NewRow.head hrow hL0
    have hsl := sortL_len L
    refine WS_pull (bR, CB (iv L ++ jR) 3) (by repeat (first | exact Pul.base0 | exact Pul.base | apply Pul.cons | apply Pul.app)) ?_
    refine WS_det hF (by rfl) (y_extract (c := .bool _) (by rfl) (by rfl)) ?_
    refine WS_nil ?_
    refine Then_normal ?_
    refine W_seq ?_
    refine W_cond (by rfl) (fun c3 => ?_) (fun c3 => ?_)
    · cases c3
    ·
      try simp only [Bool.not_eq_true', Bool.not_eq_false', decide_eq_true_eq, decide_eq_false_iff_not, ne_eq, Classical.not_not, Int.not_lt, Int.not_le] at c3
      refine W_exit ?_
      refine Then_exit ?_
      refine Loop_exit ?_
      refine InB_same ?_
      refine Then_normal ?_
      refine W_seq ?_
      refine W_region_lit (fun ds => ?_)
      refine WS_det hF (by rfl) (y_move (c := .slice _ _ _) (by rfl)) ?_
      refine WS_callS hF (by rfl) (by rfl) (by rfl) Tryd.call125 (sort_cs _ _ _ bR 3 cap L jR _ (by have := hlx; omega)) ?_
      rintro _ _ ⟨rfl, rfl⟩
      rw [← hsl]
      refine WS_nil ?_
      refine Then_normal ?_
      refine W_seq ?_
      refine W_region_lit (fun ds => ?_)
      refine WS_det hF (by rfl) (y_move (c := .slice _ _ _) (by rfl)) ?_
      refine WS_callS hF (by rfl) (by rfl) (by rfl) Tryd.call126 (compact_cs _ _ _ bR 3 cap (sortL L) jR _ (by rw [hsl]; omega) (by rw [hsl]; exact hjc)) ?_
      rintro _ _ ⟨rfl, j2, hj2, rfl⟩
      rw [hmd] at hj2 ⊢
      refine WS_det hF (by rfl) (y_assign (c := .slice _ _ _) (by rfl)) ?_
      refine WS_nil ?_
      refine Then_normal ?_
      refine W_ret ?_
      refine Fin_ret [.slice _ _ _] ((bR, _) :: (mk, _) :: HX) Tryd.results92 ⟨by rfl, trivial⟩ (HSub.sub sbA) ?_
      have hivL : (iv L).length = L.length := List.length_map _
      have hml : c.madeL.length ≤ L.length := by rw [← hmd, ← hsl]; unfold Lib.compact Lib.compactUpTo; rw [List.length_map]; refine Nat.le_trans (List.length_filter_le _ _) ?_; simp
      refine ⟨bR, cap, j2, rfl, rfl, ?_, by omega⟩
      have hivM : (iv c.madeL).length = c.madeL.length := List.length_map _
      rw [List.length_append] at hjl ⊢
      omega
  ·
    obtain ⟨xk, v, bn⟩ := y
    obtain ⟨x, hvx, hxl, hxr⟩ := hT.mem hg hy
    change v = x.v at hvx
    subst hvx
    have hkin : c.In xk := ((Cn.bestO_iff.1 hxl).way.in hok).1
    have hxl3 := (hok.of hkin).len
    have hxl4 : (c.of xk).inn.length = c.n := hxl3
    have hlx : L.length + 3 * leftL l seen ≤ 3 * l.length := hI.len
    obtain ⟨rest, hdr⟩ := co_drop hok xk
    refine WS_det hF (by rfl) (y_extract (c := .bool _) (by rfl) (by rfl)) ?_
    refine WS_nil ?_
    refine Then_normal ?_
    refine W_seq ?_
    refine W_cond (by rfl) (fun c3 => ?_) (fun c3 => ?_)
    ·
      try simp only [Bool.not_eq_true', Bool.not_eq_false', decide_eq_true_eq, decide_eq_false_iff_not, ne_eq, Classical.not_not, Int.not_lt, Int.not_le] at c3
      refine W_skip ?_
      refine Then_normal ?_
      refine W_block ?_
      refine W_seq ?_
      refine W_region_lit (fun ds => ?_)
      refine WS_det hF (by rfl) (y_entryK (enc := encC) (y := (xk, x.v, bn)) (i := 0) (j := 2) (by rfl) (by rfl) (by rfl) hy hg.born) ?_
      refine WS_det hF (by rfl) (y_extract (c := .agg _) (by rfl) (by rfl)) ?_
      refine WS_new hF (by rfl) (y_alloc Tryd.zeroValue99 (by rfl)) (fun b6 => ?_)
      refine WS_store hF (us := [.int .i64 _, .int .i64 _, .int .i64 _, .int .i64 _]) (i := 0) (by rfl) (by rfl) Tryd.sizeOf99 (by rfl) (by rfl) (by rfl) (by first | decide | exact Nat.le_of_ble_eq_true rfl | simp) ?_
      refine WS_nil ?_
      refine Then_normal ?_
      refine W_region_lit (fun ds => ?_)
      refine WS_det hF (by rfl) (y_move (c := .slice _ _ _) (by rfl)) ?_
      refine WS_det hF (by rfl) (y_fieldAddr (by rfl) fa96_0) ?_
      refine WS_det hF (by rfl) (y_fieldAddr (by rfl) fa24_0) ?_
      refine WS_det hF (by rfl) (y_load1 (by rfl) Tryd.isAgg22 (Mem.own1 2 (by rfl) (by rfl))) ?_
      refine WS_det hF (by rfl) (y_len (by rfl) Tryd.runUnderlying22) ?_
      refine WS_det hF (by rfl) (y_add (by rfl) (by rfl) (by unfold I64; omega)) ?_
      refine WS_det hF (by rfl) (YD_eq (y_sliceA_lohi (l := 1) (h := c.n + 1) (m := 4) (by rfl) (by rfl) (by rfl) (by rfl) (by omega) (by decide) (by omega) (by omega) Tryd.runUnderlying99 Tryd.sizeOf3) (show Value.slice (some ⟨b6, 1, none⟩) (c.n + 1 - 1) 3 = .slice (some ⟨b6, 1, none⟩) (c.of xk).inn.length 3 by rw [Nat.add_sub_cancel, hxl4])) ?_
      refine WS_appendN hF (H1 := (_ :: _ :: _ :: _ :: (HX))) (Hn := Hr) (news := iv (c.of xk).inn) (by rfl) (by rfl) (by rfl) Tryd.underlying22 infInt (by rfl) (by rfl) hrow (iv_len _) (.inr ⟨_, _, rfl, Mem.own (us := iv (c.of xk).inn) 0 (by rfl) hdr⟩) (iv_len _) (iv_one _) (by omega) (by omega) (by omega) ?_
      intro a3 cap3 H3 hr3
      rw [← List.length_append]
      have hrow3 : NewRow 3 1 (L ++ (c.of xk).inn).length (iv (L ++ (c.of xk).inn)) (.slice a3 (L ++ (c.of xk).inn).length cap3) H3 := by
        rw [show iv (L ++ (c.of xk).inn) = iv L ++ iv (c.of xk).inn from List.map_append, List.length_append]
        exact hr3
      refine WS_det hF (by rfl) (y_assign (c := .slice _ _ _) (by rfl)) ?_
      refine WS_nil ?_
      refine InB_normal ?_
      exact Loop_next (seen.push bn, ck, L ++ (c.of xk).inn, a3, cap3, H3) ⟨hI.step hok hy hg.born hns hkin, Nat.le_refl _, hrow3⟩ (by repeat (first | exact trivial | refine ⟨by rfl, ?_⟩)) sbA (leftL_lt hy hns)
    · cases c3
theorem made_any (c : Cn) (a1 : Option Addr) (p1 : Nat) (a2 : Option Addr) (p2 : Nat) (w : World) (hG : Gv w) (hn : c.n ≤ 1000000) (hm : c.inn.length ≤ 1000000) (h1 : Ints w a1 c.n p1 c.sz) (h2 : Ints w a2 c.inn.length p2 c.inn) : Ct Tryd.prog 42 #[.agg #[.slice a1 c.n p1, .slice a2 c.inn.length p2, .int .i64 c.st]] w (MadeV c) := by
  have hF := wide_wide
  refine Ct_start (args := [_]) Tryd.func42 (by rfl) Tryd.ntmps42 (by rfl) ?_
  refine W_seq ?_
  refine W_region_lit (fun ds => ?_)
  refine WS_new hF (by rfl) (y_box (by rfl)) (fun b1 => ?_)
  refine WS_det hF (by rfl) (y_assign (c := .slice _ _ _) (by rfl)) ?_
  refine WS_det hF (by rfl) (y_assign (c := .int .i64 _) (by rfl)) ?_
  refine WS_nil ?_
  refine Then_normal ?_
  refine W_seq ?_
  refine W_seq ?_
  refine W_region_lit (fun ds => ?_)
  refine WS_det hF (by rfl) (y_loadN (by rfl) Tryd.isAgg24 Tryd.sizeOf24 (Mem.own (us := [.slice _ _ _, .slice _ _ _, .int .i64 _]) 0 (by rfl) (by rfl)) (by rfl)) ?_
  refine WS_det hF (by rfl) (y_callL (by rfl) (by rfl) Tryd.call16 (fun w hw => ccheck_any c a1 p1 a2 p2 w (hG.st w hw) hn hm (h1.st w hw) (h2.st w hw))) ?_
  refine WS_det hF (by rfl) (y_assign (c := .int .i64 _) (by rfl)) ?_
  refine WS_nil ?_
  refine Then_normal ?_
  refine W_seq ?_
  refine W_region_lit (fun ds => ?_)
  refine WS_det hF (by rfl) (y_move (c := .int .i64 _) (by rfl)) ?_
  refine WS_det hF (by rfl) (y_neq (by rfl) (by rfl)) ?_
  refine WS_nil ?_
  refine Then_normal ?_
  refine W_cond (by rfl) (fun c2 => ?_) (fun c2 => ?_)
  ·
    try simp only [Bool.not_eq_true', Bool.not_eq_false', decide_eq_true_eq, decide_eq_false_iff_not, ne_eq, Classical.not_not, Int.not_lt, Int.not_le] at c2
    refine W_seq ?_
    refine W_region_lit (fun ds => ?_)
    refine WS_det hF (by rfl) (y_move (c := .int .i64 _) (by rfl)) ?_
    refine WS_det hF (by rfl) (y_assign (c := .slice _ _ _) (by rfl)) ?_
    refine WS_det hF (by rfl) (y_assign (c := .int .i64 _) (by rfl)) ?_
    refine WS_nil ?_
    refine Then_normal ?_
    refine W_ret ?_
    refine Then_ret ?_
    refine Fin_ret [.slice _ _ _, .int .i64 _] [] Tryd.results42 ⟨by rfl, by rfl, trivial⟩ HSub.nil ?_
    obtain ⟨h3, h4⟩ := Cn.err_no c2
    rw [h4]
    exact MadeV.bad h3
  ·
    try simp only [Bool.not_eq_true', Bool.not_eq_false', decide_eq_true_eq, decide_eq_false_iff_not, ne_eq, Classical.not_not, Int.not_lt, Int.not_le] at c2
    have hokB := Cn.err_iff.1 c2
    have hok := Cn.ok_iff.1 hokB
    refine W_skip ?_
    refine Then_normal ?_
    refine W_seq ?_
    refine W_region_lit (fun ds => ?_)
    refine WS_det hF (by rfl) (y_loadN (by rfl) Tryd.isAgg24 Tryd.sizeOf24 (Mem.own (us := [.slice _ _ _, .slice _ _ _, .int .i64 _]) 0 (by rfl) (by rfl)) (by rfl)) ?_
    refine WS_det hF (by rfl) (y_buildL bd96_0 (by rfl)) ?_
    refine WS_new hF (by rfl) (y_alloc Tryd.zeroValue96 (by rfl)) (fun b5 => ?_)
    refine WS_store hF (i := 0) (by rfl) (by rfl) Tryd.sizeOf96 (by rfl) (by rfl) (by rfl) (by first | decide | exact Nat.le_of_ble_eq_true rfl | simp) ?_
    refine WS_nil ?_
    refine Then_normal ?_
    refine W_seq ?_
    refine W_tailH 5 Trydmixed (fun e2 H2 => ∃ b cap junk, (iv c.madeL ++ junk).length = cap * 1 ∧ c.madeL.length ≤ cap ∧ Slots e2 [(2, .slice (some ⟨b, 0, none⟩) c.madeL.length cap)] ∧ HSub H2 [(b, CB (iv c.madeL ++ junk) 3)]) (by decide +kernel) (fun ds e2 H2 hmid => ?_) (fun ds => ?_)
    ·
      obtain ⟨b, cap, junk, hj1, hj2, hsl, hsb⟩ := hmid
      rw [← hsl.sets]
      refine WS_sub hsb ?_
      refine WS_det hF (by rfl) (y_assign (c := .int .i64 _) (by rfl)) ?_
      refine WS_nil ?_
      refine Then_normal ?_
      refine W_ret ?_
      refine Fin_ret [.slice _ _ _, .int .i64 _] [(b, _)] Tryd.results42 ⟨by rfl, by rfl, trivial⟩ (HSub.sub sbA) ?_
      exact MadeV.ok hokB (NewRow.mk rfl hj1 hj2 (Cn.made_pos hok))
    ·
      refine WH_take 0 (by decide +kernel) (by rfl) (by decide +kernel) (by decide +kernel) (by rfl) (ye_loadN (by rfl) Tryd.isAgg96 Tryd.sizeOf96 (Mem.own (us := [.slice _ _ _, .slice _ _ _, .int .i64 _]) 0 (by rfl) (by rfl)) (by rfl)) ?_
      refine WH_take 1 (by decide +kernel) (by rfl) (by decide +kernel) (by decide +kernel) (by rfl) (ye_loadN (by rfl) Tryd.isAgg96 Tryd.sizeOf96 (Mem.own (us := [.slice _ _ _, .slice _ _ _, .int .i64 _]) 0 (by rfl) (by rfl)) (by rfl)) ?_
      refine WH_step1 2 (by decide +kernel) (fun _ h => St.sub h sbA) (by rfl) ?_
      ·
        refine WS_gen hF (by rfl) (y_callL (by rfl) (by rfl) Tryd.call59 (fun w hw => ways_any c a1 p1 a2 p2 w hok hn hm (h1.st w hw) (h2.st w hw))) ?_
        rintro _ _ ⟨mk, l, ck, HX, rfl, rfl, hg, hT⟩
        refine WS_nil ?_
        refine WH_step1 3 (by decide +kernel) (fun _ h => St.sub h sbA) (by rfl) ?_
        ·
          refine WS_callS hF (by rfl) (by rfl) (by rfl) Tryd.call92 (bmade_cs _ _ _ c a1 p1 a2 p2 mk ck l _ hg (hT.mono sbA) hok) ?_
          rintro _ _ ⟨b, cap, junk, rfl, rfl, hj1, hj2⟩
          refine WS_nil ?_
          refine WH_take 4 (by decide +kernel) (by rfl) (by decide +kernel) (by decide +kernel) (by rfl) (ye_assign (c := .slice _ _ _) (by rfl)) ?_
          refine WH_done (by decide +kernel) (fun _ h => St.sub h sbA) ?_
          exact ⟨_, _, _, hj1, hj2, (by repeat (first | exact trivial | refine ⟨by rfl, ?_⟩ | refine ⟨congrArg (Value.int _) (by first | omega | (simp only; omega) | (push_cast; omega)), ?_⟩)), HSub.sub sbA⟩
theorem far_any (c : Cn) (a1 : Option Addr) (p1 : Nat) (a2 : Option Addr) (p2 : Nat) (w : World) (hG : Gv w) (hn : c.n ≤ 1000000) (hm : c.inn.length ≤ 1000000) (h1 : Ints w a1 c.n p1 c.sz) (h2 : Ints w a2 c.inn.length p2 c.inn) : Ct Tryd.prog 46 #[.agg #[.slice a1 c.n p1, .slice a2 c.inn.length p2, .int .i64 c.st]] w fun v _ => FarV c v := by
  have hF := wide_wide
  refine Ct_start (args := [_]) Tryd.func46 (by rfl) Tryd.ntmps46 (by rfl) ?_
  refine W_seq ?_
  refine W_region_lit (fun ds => ?_)
  refine WS_new hF (by rfl) (y_box (by rfl)) (fun b1 => ?_)
  refine WS_det hF (by rfl) (y_assign (c := .int .i64 _) (by rfl)) ?_
  refine WS_det hF (by rfl) (y_assign (c := .int .i64 _) (by rfl)) ?_
  refine WS_det hF (by rfl) (y_assign (c := .int .i64 _) (by rfl)) ?_
  refine WS_nil ?_
  refine Then_normal ?_
  refine W_seq ?_
  refine W_seq ?_
  refine W_region_lit (fun ds => ?_)
  refine WS_det hF (by rfl) (y_loadN (by rfl) Tryd.isAgg24 Tryd.sizeOf24 (Mem.own (us := [.slice _ _ _, .slice _ _ _, .int .i64 _]) 0 (by rfl) (by rfl)) (by rfl)) ?_
  refine WS_det hF (by rfl) (y_callL (by rfl) (by rfl) Tryd.call16 (fun w hw => ccheck_any c a1 p1 a2 p2 w (hG.st w hw) hn hm (h1.st w hw) (h2.st w hw))) ?_
  refine WS_det hF (by rfl) (y_assign (c := .int .i64 _) (by rfl)) ?_
  refine WS_nil ?_
  refine Then_normal ?_
  refine W_seq ?_
  refine W_region_lit (fun ds => ?_)
  refine WS_det hF (by rfl) (y_move (c := .int .i64 _) (by rfl)) ?_
  refine WS_det hF (by rfl) (y_neq (by rfl) (by rfl)) ?_
  refine WS_nil ?_
  refine Then_normal ?_
  refine W_cond (by rfl) (fun c2 => ?_) (fun c2 => ?_)
  ·
    try simp only [Bool.not_eq_true', Bool.not_eq_false', decide_eq_true_eq, decide_eq_false_iff_not, ne_eq, Classical.not_not, Int.not_lt, Int.not_le] at c2
    refine W_seq ?_
    refine W_region_lit (fun ds => ?_)
    refine WS_det hF (by rfl) (y_move (c := .int .i64 _) (by rfl)) ?_
    refine WS_det hF (by rfl) (y_assign (c := .int .i64 _) (by rfl)) ?_
    refine WS_det hF (by rfl) (y_assign (c := .int .i64 _) (by rfl)) ?_
    refine WS_det hF (by rfl) (y_assign (c := .int .i64 _) (by rfl)) ?_
    refine WS_nil ?_
    refine Then_normal ?_
    refine W_ret ?_
    refine Then_ret ?_
    refine Fin_ret [.int .i64 _, .int .i64 _, .int .i64 _] [] Tryd.results46 ⟨by rfl, by rfl, by rfl, trivial⟩ HSub.nil ?_
    exact FarV.bad (Cn.err_no c2).1 rfl
  ·
    try simp only [Bool.not_eq_true', Bool.not_eq_false', decide_eq_true_eq, decide_eq_false_iff_not, ne_eq, Classical.not_not, Int.not_lt, Int.not_le] at c2
    have hokB := Cn.err_iff.1 c2
    have hok := Cn.ok_iff.1 hokB
    have hml := c.madeL_len
    refine W_skip ?_
    refine Then_normal ?_
    refine W_seq ?_
    refine W_region_lit (fun ds => ?_)
    refine WS_det hF (by rfl) (y_loadN (by rfl) Tryd.isAgg24 Tryd.sizeOf24 (Mem.own (us := [.slice _ _ _, .slice _ _ _, .int .i64 _]) 0 (by rfl) (by rfl)) (by rfl)) ?_
    refine WS_det hF (by rfl) (y_buildL bd96_0 (by rfl)) ?_
    refine WS_new hF (by rfl) (y_alloc Tryd.zeroValue96 (by rfl)) (fun b6 => ?_)
    refine WS_store hF (i := 0) (by rfl) (by rfl) Tryd.sizeOf96 (by rfl) (by rfl) (by rfl) (by first | decide | exact Nat.le_of_ble_eq_true rfl | simp) ?_
    refine WS_nil ?_
    refine Then_normal ?_
    refine W_seq ?_
    refine W_region_lit (fun ds => ?_)
    refine WS_det hF (by rfl) (y_loadN (by rfl) Tryd.isAgg96 Tryd.sizeOf96 (Mem.own (us := [.slice _ _ _, .slice _ _ _, .int .i64 _]) 0 (by rfl) (by rfl)) (by rfl)) ?_
    refine WS_gen hF (by rfl) (y_callL (by rfl) (by rfl) Tryd.call59 (fun w hw => ways_any c a1 p1 a2 p2 w hok hn hm (h1.st w hw) (h2.st w hw))) ?_
    rintro _ _ ⟨mk, l, ck, HX, rfl, rfl, hg, hT⟩
    refine WS_pull (b6, CB [.slice a1 c.n p1, .slice a2 c.inn.length p2, .int .i64 c.st] 96) (by repeat (first | exact Pul.base0 | exact Pul.base | apply Pul.cons | apply Pul.app)) ?_
    refine WS_det hF (by rfl) (y_assign (c := .map _) (by rfl)) ?_
    refine WS_nil ?_
    refine Then_normal ?_
    refine W_seq ?_
    refine W_region_lit (fun ds => ?_)
    refine WS_det hF (by rfl) (y_assign (c := .int .i64 _) (by rfl)) ?_
    refine WS_nil ?_
    refine Then_normal ?_
    refine W_seq ?_
    refine W_seq ?_
    refine W_region_lit (fun ds => ?_)
    refine WS_det hF (by rfl) (y_loadN (by rfl) Tryd.isAgg96 Tryd.sizeOf96 (Mem.own (us := [.slice _ _ _, .slice _ _ _, .int .i64 _]) 0 (by rfl) (by rfl)) (by rfl)) ?_
    refine WS_det hF (by rfl) (y_move (c := .map _) (by rfl)) ?_
    refine WS_pull (mk, MK encC l ck) (by repeat (first | exact Pul.base0 | exact Pul.base | apply Pul.cons | apply Pul.app)) ?_
    refine WS_callS hF (by rfl) (by rfl) (by rfl) Tryd.call92 (bmade_cs _ _ _ c a1 p1 a2 p2 mk ck l _ hg (hT.mono sbA) hok) ?_
    rintro _ _ ⟨bm, cap, jm, rfl, rfl, hj1, hj2⟩
    refine WS_pull (b6, CB [.slice a1 c.n p1, .slice a2 c.inn.length p2, .int .i64 c.st] 96) (by repeat (first | exact Pul.base0 | exact Pul.base | apply Pul.cons | apply Pul.app)) ?_
    refine WS_det hF (by rfl) (y_len (by rfl) Tryd.runUnderlying22) ?_
    refine WS_det hF (by rfl) (y_move (c := .int .i64 _) (by rfl)) ?_
    refine WS_nil ?_
    refine Then_normal ?_
    refine W_block ?_
    refine W_loop (γ := Nat) (fun k => k ≤ c.madeL.length) (fun k => [(2, .int .i64 (c.farT k).1), (3, .int .i64 (c.farT k).2), (6, .pointer (some ⟨b6, 0, none⟩)), (7, .map (some mk)), (23, .slice (some ⟨bm, 0, none⟩) c.madeL.length cap), (24, .int .i64 (c.madeL.length : Int)), (25, .int .i64 (k : Int))]) (fun k => (b6, CB [.slice a1 c.n p1, .slice a2 c.inn.length p2, .int .i64 c.st] 96) :: (bm, CB (iv c.madeL ++ jm) 3) :: (mk, MK encC l ck) :: HX) (fun k => c.madeL.length - k) (0) (Nat.zero_le _) (by repeat (first | exact trivial | refine ⟨by rfl, ?_⟩)) (sbA) ?_
    intro k e hk
    refine W_seq ?_
    refine W_region_lit (fun ds => ?_)
    refine WS_det hF (by rfl) (y_lss (by rfl) (by rfl)) ?_
    refine WS_nil ?_
    refine Then_normal ?_
    refine W_seq ?_
    refine W_cond (by rfl) (fun c8 => ?_) (fun c8 => ?_)
    ·
      try simp only [Bool.not_eq_true', Bool.not_eq_false', decide_eq_true_eq, decide_eq_false_iff_not, ne_eq, Classical.not_not, Int.not_lt, Int.not_le] at c8
      have hkl : k < c.madeL.length := by omega
      obtain ⟨n, hn⟩ : ∃ n, n = c.madeL.getD k 0 := ⟨_, rfl⟩
      have hmk := Cn.made_at hok hkl
      rw [← hn] at hmk
      have hts := Cn.farT_succ hkl
      rw [← hn] at hts
      refine W_skip ?_
      refine Then_normal ?_
      refine W_seq ?_
      refine W_block ?_
      refine W_seq ?_
      refine W_region_lit (fun ds => ?_)
      refine WS_det hF (by rfl) (y_index (k := k) (by rfl) (by rfl) (by first | rfl | omega) (by first | decide | omega) Tryd.runUnderlying22 Tryd.sizeOf3) ?_
      refine WS_det hF (by rfl) (y_load1 (by rfl) Tryd.isAgg3 (Mem.own (us := [.int .i64 n]) 1 (by rfl) (drop_iv (by omega) hn.symm))) ?_
      refine WS_det hF (by rfl) (y_assign (c := .int .i64 _) (by rfl)) ?_
      refine WS_nil ?_
      refine Then_normal ?_
      refine W_seq ?_
      refine W_region_lit (fun ds => ?_)
      refine WS_det hF (by rfl) (y_move (c := .map _) (by rfl)) ?_
      refine WS_det hF (by rfl) (y_loadN (by rfl) Tryd.isAgg96 Tryd.sizeOf96 (Mem.own (us := [.slice _ _ _, .slice _ _ _, .int .i64 _]) 0 (by rfl) (by rfl)) (by rfl)) ?_
      refine WS_det hF (by rfl) (y_move (c := .int .i64 _) (by rfl)) ?_
      refine WS_gen hF (by rfl) (y_callL (by rfl) (by rfl) Tryd.call60 (fun w hw => some_any c a1 p1 a2 p2 n w)) ?_
      rintro _ _ ⟨bb, bp, rfl, rfl⟩
      refine WS_pull (bp, _) (by repeat (first | exact Pul.base0 | exact Pul.base | apply Pul.cons | apply Pul.app)) ?_
      refine WS_pull (bb, _) (by repeat (first | exact Pul.base0 | exact Pul.base | apply Pul.cons | apply Pul.app)) ?_
      refine WS_pull (mk, _) (by repeat (first | exact Pul.base0 | exact Pul.base | apply Pul.cons | apply Pul.app)) ?_
      refine WS_callS hF (by rfl) (by rfl) (by rfl) Tryd.call58 (fewest_cs _ _ _ mk ck l c _ 102 [] [_, _] (c.someP n) hg (hT.mono sbA) [(bb, CB [.slice a1 c.n p1, .slice a2 c.inn.length p2, .int .i64 c.st] 96), (bp, CB [.int .i64 n] 3)] ⟨Tryd.call102, fun x hx C H w' hC hs hw => some1_any c a1 p1 a2 p2 x n bb bp w' hok (Mem.own (us := [.slice _ _ _, .slice _ _ _, .int _ _]) 0 (by rfl) (by rfl) w' (St.sub hw hs)) (Mem.own1 1 (by rfl) (by rfl) w' (St.sub hw hs))⟩ sbA hok) ?_
      rintro _ _ ⟨fx, fb, rfl, hfv, rfl⟩
      refine WS_pull (mk, MK encC l ck) (by repeat (first | exact Pul.base0 | exact Pul.base | apply Pul.cons | apply Pul.app)) ?_
      refine WS_pull (bm, CB (iv c.madeL ++ jm) 3) (by repeat (first | exact Pul.base0 | exact Pul.base | apply Pul.cons | apply Pul.app)) ?_
      refine WS_pull (b6, CB [.slice a1 c.n p1, .slice a2 c.inn.length p2, .int .i64 c.st] 96) (by repeat (first | exact Pul.base0 | exact Pul.base | apply Pul.cons | apply Pul.app)) ?_
      have hfb : fb = true := by
        cases fb with
        | true => rfl
        | false =>
          obtain ⟨wx, y, hb, hm⟩ := hmk
          exact absurd hb ((hfv.no rfl).2 y wx (Cn.someP_iff.2 hm))
      subst hfb
      have hy := hfv.yes' rfl
      have hfl : c.fl n = (fx.w.l.length : Int) := by unfold Cn.fl; rw [hy]
      refine WS_det hF (by rfl) (y_move (c := .tuple _) (by rfl)) ?_
      refine WS_det hF (by rfl) (y_extract (c := .agg _) (by rfl) (by rfl)) ?_
      refine WS_det hF (by rfl) (y_extract (c := .bool _) (by rfl) (by rfl)) ?_
      refine WS_new hF (by rfl) (y_alloc Tryd.zeroValue112 (by rfl)) (fun b10 => ?_)
      refine WS_store hF (i := 0) (by rfl) (by rfl) Tryd.sizeOf112 (by rfl) (by rfl) (by rfl) (by first | decide | exact Nat.le_of_ble_eq_true rfl | simp) ?_
      refine WS_det hF (by rfl) (y_assign (c := .bool _) (by rfl)) ?_
      refine WS_nil ?_
      refine Then_normal ?_
      refine W_seq ?_
      refine W_region_lit (fun ds => ?_)
      refine WS_det hF (by rfl) (y_fieldAddr (by rfl) fa112_0) ?_
      refine WS_det hF (by rfl) (y_load1 (by rfl) Tryd.isAgg27 (Mem.own1 0 (by rfl) (by rfl))) ?_
      refine WS_det hF (by rfl) (y_len (by rfl) Tryd.runUnderlying27) ?_
      refine WS_det hF (by rfl) (y_move (c := .int .i64 _) (by rfl)) ?_
      refine WS_det hF (by rfl) (y_gtr (by rfl) (by rfl)) ?_
      refine WS_nil ?_
      refine Then_normal ?_
      refine W_cond (by rfl) (fun c11 => ?_) (fun c11 => ?_)
      ·
        try simp only [Bool.not_eq_true', Bool.not_eq_false', decide_eq_true_eq, decide_eq_false_iff_not, ne_eq, Classical.not_not, Int.not_lt, Int.not_le] at c11
        have hT1 : c.farT (k + 1) = (n, (fx.w.l.length : Int)) := by rw [hts]; unfold Cn.farS; rw [hfl]; exact if_pos c11
        refine W_draw0 hF Trydmixed [] (by decide +kernel) (fun ds => ?_)
        refine P_det (by rfl) (Over_nil (y_move (c := .int .i64 _) (by rfl))) ?_
        refine P_det (by rfl) (Over_nil (y_fieldAddr (by rfl) fa112_0)) ?_
        refine P_det (by rfl) (Over_nil (y_load1 (by rfl) Tryd.isAgg27 (Mem.own1 0 (by rfl) (by rfl)))) ?_
        refine P_det (by rfl) (Over_nil (y_len (by rfl) Tryd.runUnderlying27)) ?_
        refine P_det (by rfl) (Over_nil (y_assign (c := .int .i64 _) (by rfl))) ?_
        refine P_det (by rfl) (Over_nil (y_assign (c := .int .i64 _) (by rfl))) ?_
        refine PW_end (by rfl) ?_
        refine OverAll_nil ?_
        rintro -
        refine InB_normal ?_
        refine Then_normal ?_
        refine W_region_lit (fun ds => ?_)
        refine WS_det hF (by rfl) (y_add (by rfl) (by rfl) (by unfold I64; omega)) ?_
        refine WS_det hF (by rfl) (y_move (c := .int .i64 _) (by rfl)) ?_
        refine WS_nil ?_
        exact Loop_next (k + 1) (by omega) (by rw [hT1]; repeat (first | exact trivial | refine ⟨by rfl, ?_⟩)) sbA (by omega)
      ·
        try simp only [Bool.not_eq_true', Bool.not_eq_false', decide_eq_true_eq, decide_eq_false_iff_not, ne_eq, Classical.not_not, Int.not_lt, Int.not_le] at c11
        have hT1 : c.farT (k + 1) = c.farT k := by rw [hts]; unfold Cn.farS; rw [hfl]; exact if_neg (fun h => absurd h (Int.not_lt.2 c11))
        refine W_skip ?_
        refine InB_normal ?_
        refine Then_normal ?_
        refine W_region_lit (fun ds => ?_)
        refine WS_det hF (by rfl) (y_add (by rfl) (by rfl) (by unfold I64; omega)) ?_
        refine WS_det hF (by rfl) (y_move (c := .int .i64 _) (by rfl)) ?_
        refine WS_nil ?_
        exact Loop_next (k + 1) (by omega) (by rw [hT1]; repeat (first | exact trivial | refine ⟨by rfl, ?_⟩)) sbA (by omega)
    ·
      try simp only [Bool.not_eq_true', Bool.not_eq_false', decide_eq_true_eq, decide_eq_false_iff_not, ne_eq, Classical.not_not, Int.not_lt, Int.not_le] at c8
      obtain rfl : k = c.madeL.length := by omega
      refine W_exit ?_
      refine Then_exit ?_
      refine Loop_exit ?_
      refine InB_same ?_
      refine Then_normal ?_
      refine W_seq ?_
      refine W_region_lit (fun ds => ?_)
      refine WS_det hF (by rfl) (y_move (c := .int .i64 _) (by rfl)) ?_
      refine WS_det hF (by rfl) (y_move (c := .int .i64 _) (by rfl)) ?_
      refine WS_det hF (by rfl) (y_assign (c := .int .i64 _) (by rfl)) ?_
      refine WS_det hF (by rfl) (y_assign (c := .int .i64 _) (by rfl)) ?_
      refine WS_det hF (by rfl) (y_assign (c := .int .i64 _) (by rfl)) ?_
      refine WS_nil ?_
      refine Then_normal ?_
      refine W_ret ?_
      refine Fin_ret [.int .i64 _, .int .i64 _, .int .i64 _] [] Tryd.results46 ⟨by rfl, by rfl, by rfl, trivial⟩ HSub.nil ?_
      exact FarV.ok hokB c2
end Go.Proofs.YtjekjehgmljbgaaDoor.T

/- Lists put together, and the measure: the program's walks. -/
namespace Go.Proofs.YtjekjehgmljbgaaDoor.T
open Go.RowKit Go.Proofs Go.Eng Go.Shelf
set_option maxRecDepth 100000
set_option maxHeartbeats 1000000
set_option linter.unusedVariables false
set_option linter.unusedSimpArgs false

theorem bs201_2_0_1 {x0a : Option Addr} {x0l x0c : Nat} {x1a : Option Addr} {x1l x1c : Nat} : ∀ w, (Instr.buildSlice 201 2 #[(0, .slice x0a x0l x0c), (1, .slice x1a x1l x1c)]).run Tryd.prog w = .ok (.slice (some ⟨w.heap.size, 0, none⟩) 2 2) (w.alloc (CB [.slice x0a x0l x0c, .slice x1a x1l x1c] 22)) := fun w => by kernel_rfl

def grR : Go.Shelf.Ren := ⟨fun n => match n with
  | 4 => 127
  | _ => 0, fun n => match n with
  | 0 => 0
  | 3 => 3
  | 4 => 4
  | 9 => 9
  | 20 => 20
  | 22 => 22
  | 25 => 3
  | _ => 0, fun x => x⟩
theorem grL : Lays8.n4 Tryd.prog grR where
  mixed := by kernel_rfl
  f4 := ⟨Tryd.f127.name, by kernel_rfl, (Tryd.func127).trans (congrArg some (by kernel_rfl))⟩
  t0 := by kernel_rfl
  a0 := fun w => by kernel_rfl
  z0 := fun w => by kernel_rfl
  v0 := fun w => by kernel_rfl
  t3 := by kernel_rfl
  a3 := fun w => by kernel_rfl
  z3 := fun w => by kernel_rfl
  v3 := fun w => by kernel_rfl
  t4 := by kernel_rfl
  a4 := fun w => by kernel_rfl
  z4 := fun w => by kernel_rfl
  v4 := fun w => by kernel_rfl
  t9 := by kernel_rfl
  a9 := fun w => by kernel_rfl
  z9 := fun w => by kernel_rfl
  v9 := fun w => by kernel_rfl
  t20 := by kernel_rfl
  a20 := fun w => by kernel_rfl
  z20 := fun w => by kernel_rfl
  v20 := fun w => by kernel_rfl
  t22 := by kernel_rfl
  a22 := fun w => by kernel_rfl
  z22 := fun w => by kernel_rfl
  v22 := fun w => by kernel_rfl
theorem zc_size (n : Nat) : (Builtin.zeroCells (Value.int .i64 0).cells n).size = n := by rw [size_zeroCells]; show n * 1 = n; rw [Nat.mul_one]
theorem grow_any (n : Nat) (w : World) (hn0 : 0 < n) (hn : n ≤ 1000000) : Ct Tryd.prog 127 #[.slice none 0 0, .int .i64 (n : Int)] w fun v Hn => ∃ b cap junk, v = .slice (some ⟨b, 0, none⟩) 0 cap ∧ Hn = [(b, CB junk 3)] ∧ junk.length = cap ∧ n ≤ cap := by
  obtain ⟨i, hi, hz, hsz, hby⟩ := info_parts infInt
  refine Calls.mono (Any8.slices_Grow_grow grL i (.int .i64 0) hi hz (by omega) none 0 0 n [] w (Nat.le_refl _) (by omega) (by rw [hby]; omega) (by omega) (by simp) (fun _ => rfl) (fun a h => by cases h)) ?_
  rintro e w' ⟨rfl, rfl⟩
  have hge := grownCap_ge w (0 + n) 0 3
  change 0 + n ≤ grownCap w (0 + n) 0 (grR.t 25) at hge
  refine ⟨_, rfl, out_new_drew (fun h => by cases h) ⟨w.heap.size, grownCap w (0 + n) 0 (grR.t 25), ((#[] ++ Builtin.zeroCells (Value.int .i64 0).cells (0 + n - 0) ++ Builtin.zeroCells (Value.int .i64 0).cells (grownCap w (0 + n) 0 (grR.t 25) - (0 + n))) : Array Value).toList, rfl, rfl, ?_, by omega⟩⟩
  rw [Array.length_toList, Array.size_append, Array.size_append, zc_size, zc_size]
  simp only [List.size_toArray, List.length_nil]
  omega
def catK (L : Nat → List Int) : Nat → List Int
  | 0 => []
  | k + 1 => catK L k ++ L k
theorem catK_len (L : Nat → List Int) (k : Nat) : (catK L (k + 1)).length = (catK L k).length + (L k).length := List.length_append
theorem catK_bd {L : Nat → List Int} (h : ∀ k, k < 2 → (L k).length ≤ 1000) : ∀ k, k ≤ 2 → (catK L k).length ≤ 1000 * k
  | 0, _ => Nat.le_refl _
  | k + 1, hk => by have := catK_bd h k (by omega); have := h k (by omega); rw [catK_len]; omega
theorem concat_any (L : Nat → List Int) (A : Nat → Option Addr) (C : Nat → Nat) (bs : Nat) (w : World) (hb : ∀ k, k < 2 → At w bs (0 + k * 1) [.slice (A k) (L k).length (C k)]) (hI : ∀ k, k < 2 → Ints w (A k) (L k).length (C k) (L k)) (hl : ∀ k, k < 2 → (L k).length ≤ 1000) (h0 : 0 < (catK L 2).length) :
    Ct Tryd.prog 93 #[.slice (some ⟨bs, 0, none⟩) 2 2] w fun v Hn => ∃ a cap, v = .slice a (catK L 2).length cap ∧ Row 3 1 a (catK L 2).length cap (iv (catK L 2)) Hn := by
  have hbd := catK_bd hl
  have h2 := hbd 2 (Nat.le_refl _)
  have hF := wide_wide
  refine Ct_start (args := [_]) Tryd.func93 (by rfl) Tryd.ntmps93 (by rfl) ?_
  refine W_seq ?_
  refine W_region_lit (fun ds => ?_)
  refine WS_det hF (by rfl) (y_assign (c := .slice _ _ _) (by rfl)) ?_
  refine WS_nil ?_
  refine Then_normal ?_
  refine W_seq ?_
  refine W_region_lit (fun ds => ?_)
  refine WS_det hF (by rfl) (y_assign (c := .int .i64 _) (by rfl)) ?_
  refine WS_nil ?_
  refine Then_normal ?_
  refine W_seq ?_
  refine W_seq ?_
  refine W_region_lit (fun ds => ?_)
  refine WS_det hF (by rfl) (y_move (c := .slice _ _ _) (by rfl)) ?_
  refine WS_det hF (by rfl) (y_len (by rfl) Tryd.runUnderlying201) ?_
  refine WS_det hF (by rfl) (y_move (c := .int .i64 _) (by rfl)) ?_
  refine WS_nil ?_
  refine Then_normal ?_
  refine W_block ?_
  refine W_loop (γ := Nat) (fun k => k ≤ 2) (fun k => [(0, .slice (some ⟨bs, 0, none⟩) 2 2), (3, .int .i64 ((catK L k).length : Int)), (9, .slice (some ⟨bs, 0, none⟩) 2 2), (10, .int .i64 2), (11, .int .i64 (k : Int))]) (fun _ => _) (fun k => 2 - k) (0) (Nat.zero_le _) (by repeat (first | exact trivial | refine ⟨by rfl, ?_⟩)) (List.Sublist.refl _) ?_
  intro k e hk
  refine W_seq ?_
  refine W_region_lit (fun ds => ?_)
  refine WS_det hF (by rfl) (y_lss (by rfl) (by rfl)) ?_
  refine WS_nil ?_
  refine Then_normal ?_
  refine W_seq ?_
  refine W_cond (by rfl) (fun c3 => ?_) (fun c3 => ?_)
  ·
    try simp only [Bool.not_eq_true', Bool.not_eq_false', decide_eq_true_eq, decide_eq_false_iff_not, ne_eq, Classical.not_not, Int.not_lt, Int.not_le] at c3
    have hc := hb k (by omega)
    have hbk := hbd k (by omega)
    have hlk := hl k (by omega)
    have hs : ((catK L k).length : Int) + ((L k).length : Int) = ((catK L (k + 1)).length : Int) := by rw [catK_len]; omega
    refine W_skip ?_
    refine Then_normal ?_
    refine W_seq ?_
    refine W_block ?_
    refine W_seq ?_
    refine W_region_lit (fun ds => ?_)
    refine WS_det hF (by rfl) (y_index (k := k) (by rfl) (by rfl) (by first | rfl | omega) (by first | decide | omega) Tryd.runUnderlying201 Tryd.sizeOf22) ?_
    refine WS_det hF (by rfl) (y_load1 (by rfl) Tryd.isAgg22 (by first | exact Mem.old1 (by assumption) | exact Mem.oldAt1 (by assumption) (by rfl) | exact Mem.old (by assumption) | exact Mem.oldAtL1 (by assumption) (by rfl) (by rfl))) ?_
    refine WS_det hF (by rfl) (y_assign (c := .slice _ _ _) (by rfl)) ?_
    refine WS_nil ?_
    refine Then_normal ?_
    refine W_seq ?_
    refine W_region_lit (fun ds => ?_)
    refine WS_det hF (by rfl) (y_move (c := .int .i64 _) (by rfl)) ?_
    refine WS_det hF (by rfl) (y_move (c := .slice _ _ _) (by rfl)) ?_
    refine WS_det hF (by rfl) (y_len (by rfl) Tryd.runUnderlying22) ?_
    refine WS_det hF (by rfl) (y_add (by rfl) (by rfl) (by unfold I64; omega)) ?_
    refine WS_det hF (by rfl) (y_assign (c := .int .i64 _) (by rfl)) ?_
    refine WS_nil ?_
    refine Then_normal ?_
    refine W_seq ?_
    rw [hs]
    refine W_region_lit (fun ds => ?_)
    refine WS_det hF (by rfl) (y_move (c := .int .i64 _) (by rfl)) ?_
    refine WS_det hF (by rfl) (y_lss (by rfl) (by rfl)) ?_
    refine WS_nil ?_
    refine Then_normal ?_
    refine W_cond (by rfl) (fun c6 => ?_) (fun c6 => ?_)
    · (simp only [decide_eq_true_eq] at c6; omega)
    ·
      try simp only [Bool.not_eq_true', Bool.not_eq_false', decide_eq_true_eq, decide_eq_false_iff_not, ne_eq, Classical.not_not, Int.not_lt, Int.not_le] at c6
      refine W_skip ?_
      refine InB_normal ?_
      refine Then_normal ?_
      refine W_region_lit (fun ds => ?_)
      refine WS_det hF (by rfl) (y_add (by rfl) (by rfl) (by unfold I64; omega)) ?_
      refine WS_det hF (by rfl) (y_move (c := .int .i64 _) (by rfl)) ?_
      refine WS_nil ?_
      exact Loop_next (k + 1) (by omega) (by repeat (first | exact trivial | refine ⟨by rfl, ?_⟩)) (by repeat (first | exact List.Sublist.refl _ | exact List.nil_sublist _ | apply List.Sublist.cons_cons | apply List.Sublist.cons)) (by omega)
  ·
    try simp only [Bool.not_eq_true', Bool.not_eq_false', decide_eq_true_eq, decide_eq_false_iff_not, ne_eq, Classical.not_not, Int.not_lt, Int.not_le] at c3
    obtain rfl : k = 2 := by omega
    refine W_exit ?_
    refine Then_exit ?_
    refine Loop_exit ?_
    refine InB_same ?_
    refine Then_normal ?_
    refine W_seq ?_
    refine W_region_lit (fun ds => ?_)
    refine WS_det hF (by rfl) (y_move (c := .int .i64 _) (by rfl)) ?_
    refine WS_gen hF (by rfl) (y_callL (by rfl) (by rfl) Tryd.call127 (fun w hw => grow_any (catK L 2).length w h0 (by omega))) ?_
    rintro _ _ ⟨b, gcap, junk, rfl, rfl, hjl, hgc⟩
    have hrow0 : Row 3 1 (some ⟨b, 0, none⟩) 0 gcap (iv (catK L 0)) [(b, CB junk 3)] := .inr ⟨b, junk, rfl, rfl, rfl, by rw [Nat.mul_one]; exact hjl, Nat.zero_le _⟩
    refine WS_det hF (by rfl) (y_assign (c := .slice _ _ _) (by rfl)) ?_
    refine WS_nil ?_
    refine Then_normal ?_
    refine W_seq ?_
    refine W_seq ?_
    refine W_region_lit (fun ds => ?_)
    refine WS_det hF (by rfl) (y_move (c := .slice _ _ _) (by rfl)) ?_
    refine WS_det hF (by rfl) (y_len (by rfl) Tryd.runUnderlying201) ?_
    refine WS_det hF (by rfl) (y_move (c := .int .i64 _) (by rfl)) ?_
    refine WS_nil ?_
    refine Then_normal ?_
    refine W_block ?_
    refine W_loop (γ := Nat × Option Addr × Nat × List Blk) (fun q => q.1 ≤ 2 ∧ Row 3 1 q.2.1 (catK L q.1).length q.2.2.1 (iv (catK L q.1)) q.2.2.2) (fun q => [(6, .slice q.2.1 (catK L q.1).length q.2.2.1), (25, .slice (some ⟨bs, 0, none⟩) 2 2), (26, .int .i64 2), (27, .int .i64 (q.1 : Int))]) (fun q => q.2.2.2) (fun q => 2 - q.1) ((0, some ⟨b, 0, none⟩, gcap, [(b, CB junk 3)])) ⟨Nat.zero_le _, hrow0⟩ (by repeat (first | exact trivial | refine ⟨by rfl, ?_⟩)) (sbA) ?_
    rintro ⟨k, a, cap, Hr⟩ e ⟨(hk : k ≤ 2), (hrow : Row 3 1 a (catK L k).length cap (iv (catK L k)) Hr)⟩
    refine W_seq ?_
    refine W_region_lit (fun ds => ?_)
    refine WS_det hF (by rfl) (y_lss (by rfl) (by rfl)) ?_
    refine WS_nil ?_
    refine Then_normal ?_
    refine W_seq ?_
    refine W_cond (by rfl) (fun c11 => ?_) (fun c11 => ?_)
    ·
      try simp only [Bool.not_eq_true', Bool.not_eq_false', decide_eq_true_eq, decide_eq_false_iff_not, ne_eq, Classical.not_not, Int.not_lt, Int.not_le] at c11
      have hc := hb k (by omega)
      have hbk := hbd k (by omega)
      have hlk := hl k (by omega)
      refine W_skip ?_
      refine Then_normal ?_
      refine W_seq ?_
      refine W_block ?_
      refine W_seq ?_
      refine W_region_lit (fun ds => ?_)
      refine WS_det hF (by rfl) (y_index (k := k) (by rfl) (by rfl) (by first | rfl | omega) (by first | decide | omega) Tryd.runUnderlying201 Tryd.sizeOf22) ?_
      refine WS_det hF (by rfl) (y_load1 (by rfl) Tryd.isAgg22 (by first | exact Mem.old1 (by assumption) | exact Mem.oldAt1 (by assumption) (by rfl) | exact Mem.old (by assumption) | exact Mem.oldAtL1 (by assumption) (by rfl) (by rfl))) ?_
      refine WS_det hF (by rfl) (y_assign (c := .slice _ _ _) (by rfl)) ?_
      refine WS_nil ?_
      refine Then_normal ?_
      refine W_region_lit (fun ds => ?_)
      refine WS_det hF (by rfl) (y_move (c := .slice _ _ _) (by rfl)) ?_
      refine WS_det hF (by rfl) (y_move (c := .slice _ _ _) (by rfl)) ?_
      refine WS_append hF (news := iv (L k)) (H1 := []) (Hn := Hr) (H2 := []) (by rfl) (by rfl) (by rfl) Tryd.underlying22 infInt (by rfl) (by simp) hrow (Ints.src (hI k (by omega))) (iv_len (L k)) (iv_one _) (by omega) (by omega) ?_
      intro a3 cap3 H3 hr3
      rw [← catK_len]
      have hrow3 : Row 3 1 a3 (catK L (k + 1)).length cap3 (iv (catK L (k + 1))) H3 := by
        rw [catK_len]
        show Row _ _ _ _ _ (iv (catK L k ++ L k)) _
        rw [show iv (catK L k ++ L k) = iv (catK L k) ++ iv (L k) from List.map_append]
        exact hr3
      rw [List.nil_append, List.append_nil]
      refine WS_det hF (by rfl) (y_assign (c := .slice _ _ _) (by rfl)) ?_
      refine WS_nil ?_
      refine InB_normal ?_
      refine Then_normal ?_
      refine W_region_lit (fun ds => ?_)
      refine WS_det hF (by rfl) (y_add (by rfl) (by rfl) (by unfold I64; omega)) ?_
      refine WS_det hF (by rfl) (y_move (c := .int .i64 _) (by rfl)) ?_
      refine WS_nil ?_
      exact Loop_next (k + 1, a3, cap3, H3) ⟨by omega, hrow3⟩ (by repeat (first | exact trivial | refine ⟨by rfl, ?_⟩)) sbA (by simp only; omega)
    ·
      try simp only [Bool.not_eq_true', Bool.not_eq_false', decide_eq_true_eq, decide_eq_false_iff_not, ne_eq, Classical.not_not, Int.not_lt, Int.not_le] at c11
      obtain rfl : k = 2 := by omega
      refine W_exit ?_
      refine Then_exit ?_
      refine Loop_exit ?_
      refine InB_same ?_
      refine Then_normal ?_
      refine W_seq ?_
      refine W_region_lit (fun ds => ?_)
      refine WS_det hF (by rfl) (y_move (c := .slice _ _ _) (by rfl)) ?_
      refine WS_det hF (by rfl) (y_assign (c := .slice _ _ _) (by rfl)) ?_
      refine WS_nil ?_
      refine Then_normal ?_
      refine W_ret ?_
      refine Fin_ret [.slice _ _ _] Hr Tryd.results93 ⟨by rfl, trivial⟩ HSub.refl ?_
      exact ⟨a, cap, rfl, hrow⟩
theorem row_adr {E : TypeId} {sz n cap : Nat} {a : Option Addr} {us : List Value} {Hn : List Blk} (h : Row E sz a n cap us Hn) (hn : 0 < n) : ∃ b, a = some ⟨b, 0, none⟩ := by
  rcases h with ⟨_, h, _⟩ | ⟨b, _, h, _⟩
  · omega
  · exact ⟨b, h⟩
/-! ### The measure -/
def gK (zs : List Int) (k : Nat) : Nat := (zs.take k).foldl (fun g x => Nat.gcd g x.toNat) 0
theorem gK_succ {zs : List Int} {k : Nat} (h : k < zs.length) : gK zs (k + 1) = Nat.gcd (gK zs k) (zs.getD k 0).toNat := by
  unfold gK
  rw [List.take_add_one, List.getElem?_eq_getElem h]
  simp only [Option.toList_some]
  rw [List.foldl_append]
  simp [List.getD_eq_getElem?_getD, h]
def Cn.all (c : Cn) : List Int := c.sz ++ c.inn
def Cn.gc (c : Cn) : Nat := gK c.all c.all.length
def Cn.meN (c : Cn) : Int := if c.okB then (c.gc : Int) else 0
theorem Cn.Ok.all_bd {c : Cn} (h : c.Ok) : c.all.length = c.n + c.n ∧ ∀ k, k < c.all.length → 0 ≤ c.all.getD k 0 ∧ c.all.getD k 0 ≤ 20 := by
  have hs : c.sz.length = c.n := rfl
  have hl := h.len
  refine ⟨by unfold Cn.all; rw [List.length_append]; omega, fun k hk => ?_⟩
  unfold Cn.all at hk ⊢
  rw [List.length_append] at hk
  by_cases hkn : k < c.n
  · rw [List.getD_eq_getElem?_getD, List.getElem?_append_left (by omega), ← List.getD_eq_getElem?_getD]
    have := h.s k hkn
    unfold Cn.s at this
    omega
  · rw [List.getD_eq_getElem?_getD, List.getElem?_append_right (by omega), ← List.getD_eq_getElem?_getD]
    have h1 := h.i (k - c.sz.length) (by omega)
    have h2 := h.s (k - c.sz.length) (by omega)
    unfold Cn.i at h1
    omega
theorem gK_bd {zs : List Int} (h : ∀ k, k < zs.length → 0 ≤ zs.getD k 0 ∧ zs.getD k 0 ≤ 20) : ∀ k, k ≤ zs.length → gK zs k ≤ 20
  | 0, _ => by unfold gK; simp
  | k + 1, hk => by
    have ih := gK_bd h k (by omega)
    have hx := h k (by omega)
    rw [gK_succ (by omega)]
    by_cases h0 : gK zs k = 0
    · rw [h0, Nat.gcd_zero_left]; omega
    · exact Nat.le_trans (Nat.gcd_le_left _ (by omega)) ih
theorem measure_any (c : Cn) (a1 : Option Addr) (p1 : Nat) (a2 : Option Addr) (p2 : Nat) (w : World) (hG : Gv w) (hn : c.n ≤ 1000000) (hm : c.inn.length ≤ 1000000) (h1 : Ints w a1 c.n p1 c.sz) (h2 : Ints w a2 c.inn.length p2 c.inn) : Ct Tryd.prog 44 #[.agg #[.slice a1 c.n p1, .slice a2 c.inn.length p2, .int .i64 c.st]] w fun v _ => v = .tuple #[.int .i64 c.meN, .int .i64 c.err] := by
  have hF := wide_wide
  refine Ct_start (args := [_]) Tryd.func44 (by rfl) Tryd.ntmps44 (by rfl) ?_
  refine W_seq ?_
  refine W_region_lit (fun ds => ?_)
  refine WS_new hF (by rfl) (y_box (by rfl)) (fun b1 => ?_)
  refine WS_det hF (by rfl) (y_assign (c := .int .i64 _) (by rfl)) ?_
  refine WS_det hF (by rfl) (y_assign (c := .int .i64 _) (by rfl)) ?_
  refine WS_nil ?_
  refine Then_normal ?_
  refine W_seq ?_
  refine W_seq ?_
  refine W_region_lit (fun ds => ?_)
  refine WS_det hF (by rfl) (y_loadN (by rfl) Tryd.isAgg24 Tryd.sizeOf24 (Mem.own (us := [.slice _ _ _, .slice _ _ _, .int .i64 _]) 0 (by rfl) (by rfl)) (by rfl)) ?_
  refine WS_det hF (by rfl) (y_callL (by rfl) (by rfl) Tryd.call16 (fun w hw => ccheck_any c a1 p1 a2 p2 w (hG.st w hw) hn hm (h1.st w hw) (h2.st w hw))) ?_
  refine WS_det hF (by rfl) (y_assign (c := .int .i64 _) (by rfl)) ?_
  refine WS_nil ?_
  refine Then_normal ?_
  refine W_seq ?_
  refine W_region_lit (fun ds => ?_)
  refine WS_det hF (by rfl) (y_move (c := .int .i64 _) (by rfl)) ?_
  refine WS_det hF (by rfl) (y_neq (by rfl) (by rfl)) ?_
  refine WS_nil ?_
  refine Then_normal ?_
  refine W_cond (by rfl) (fun c2 => ?_) (fun c2 => ?_)
  ·
    try simp only [Bool.not_eq_true', Bool.not_eq_false', decide_eq_true_eq, decide_eq_false_iff_not, ne_eq, Classical.not_not, Int.not_lt, Int.not_le] at c2
    refine W_seq ?_
    refine W_region_lit (fun ds => ?_)
    refine WS_det hF (by rfl) (y_move (c := .int .i64 _) (by rfl)) ?_
    refine WS_det hF (by rfl) (y_assign (c := .int .i64 _) (by rfl)) ?_
    refine WS_det hF (by rfl) (y_assign (c := .int .i64 _) (by rfl)) ?_
    refine WS_nil ?_
    refine Then_normal ?_
    refine W_ret ?_
    refine Then_ret ?_
    refine Fin_ret [.int .i64 _, .int .i64 _] [] Tryd.results44 ⟨by rfl, by rfl, trivial⟩ HSub.nil ?_
    obtain ⟨h3, h4⟩ := Cn.err_no c2
    rw [h4]
    unfold Cn.meN
    rw [h3]
    rfl
  ·
    try simp only [Bool.not_eq_true', Bool.not_eq_false', decide_eq_true_eq, decide_eq_false_iff_not, ne_eq, Classical.not_not, Int.not_lt, Int.not_le] at c2
    have hokB := Cn.err_iff.1 c2
    have hok := Cn.ok_iff.1 hokB
    have hn1 := hok.n1
    have hn3 := hok.n3
    have hlen := hok.len
    obtain ⟨hal, habd⟩ := hok.all_bd
    have hgb := gK_bd habd
    have hszl : c.sz.length = c.n := rfl
    have hc2 : catK (fun k => if k = 0 then c.sz else c.inn) 2 = c.all := by show ([] ++ c.sz) ++ c.inn = c.sz ++ c.inn; rw [List.nil_append]
    refine W_skip ?_
    refine Then_normal ?_
    refine W_seq ?_
    refine W_region_lit (fun ds => ?_)
    refine WS_det hF (by rfl) (y_assign (c := .int .i64 _) (by rfl)) ?_
    refine WS_nil ?_
    refine Then_normal ?_
    refine W_seq ?_
    refine W_seq ?_
    refine W_region_lit (fun ds => ?_)
    refine WS_det hF (by rfl) (y_fieldAddr (by rfl) fa24_0) ?_
    refine WS_det hF (by rfl) (y_load1 (by rfl) Tryd.isAgg22 (Mem.own1 0 (by rfl) (by rfl))) ?_
    refine WS_det hF (by rfl) (y_fieldAddr (by rfl) fa24_1) ?_
    refine WS_det hF (by rfl) (y_load1 (by rfl) Tryd.isAgg22 (Mem.own1 0 (by rfl) (by rfl))) ?_
    refine WS_newS hF (by rfl) (y_buildSliceL bs201_2_0_1 (by rfl)) (fun bs => ?_)
    refine WS_gen hF (by rfl) (y_callL (by rfl) (by rfl) Tryd.call93 (fun w hw => concat_any (fun k => if k = 0 then c.sz else c.inn) (fun k => if k = 0 then a1 else a2) (fun k => if k = 0 then p1 else p2) bs w (fun k hk => by obtain rfl | rfl : k = 0 ∨ k = 1 := (by omega); exact Mem.own (us := [.slice a1 c.n p1]) 0 (by rfl) (by rfl) w hw; exact Mem.own (us := [.slice a2 c.inn.length p2]) 0 (by rfl) (by rfl) w hw) (fun k hk => by obtain rfl | rfl : k = 0 ∨ k = 1 := (by omega); exact h1.st w hw; exact h2.st w hw) (fun k hk => by obtain rfl | rfl : k = 0 ∨ k = 1 := (by omega); show c.sz.length ≤ 1000; omega; show c.inn.length ≤ 1000; omega) (by rw [hc2, hal]; omega))) ?_
    rw [hc2]
    rintro _ Hr ⟨a, cap, rfl, hrow⟩
    obtain ⟨bR, rfl⟩ := row_adr hrow (by rw [hal]; omega)
    refine WS_det hF (by rfl) (y_len (by rfl) Tryd.runUnderlying22) ?_
    refine WS_det hF (by rfl) (y_move (c := .int .i64 _) (by rfl)) ?_
    refine WS_nil ?_
    refine Then_normal ?_
    refine W_block ?_
    refine W_loop (γ := Nat) (fun k => k ≤ c.all.length) (fun k => [(5, .int .i64 (gK c.all k : Int)), (18, .slice (some ⟨bR, 0, none⟩) c.all.length cap), (19, .int .i64 (c.all.length : Int)), (20, .int .i64 (k : Int))]) (fun k => Hr) (fun k => c.all.length - k) (0) (Nat.zero_le _) (by repeat (first | exact trivial | refine ⟨by rfl, ?_⟩)) (sbA) ?_
    intro k e hk
    refine W_seq ?_
    refine W_region_lit (fun ds => ?_)
    refine WS_det hF (by rfl) (y_lss (by rfl) (by rfl)) ?_
    refine WS_nil ?_
    refine Then_normal ?_
    refine W_seq ?_
    refine W_cond (by rfl) (fun c6 => ?_) (fun c6 => ?_)
    ·
      try simp only [Bool.not_eq_true', Bool.not_eq_false', decide_eq_true_eq, decide_eq_false_iff_not, ne_eq, Classical.not_not, Int.not_lt, Int.not_le] at c6
      have hx := habd k (by omega)
      have hgk := hgb k hk
      have hgs := gK_succ (zs := c.all) (k := k) (by omega)
      obtain ⟨zk, hzk⟩ : ∃ zk : Nat, c.all.getD k 0 = (zk : Int) := ⟨(c.all.getD k 0).toNat, by omega⟩
      have hz20 : zk ≤ 20 := by omega
      have hg2 : Nat.gcd (gK c.all k) zk = gK c.all (k + 1) := by rw [hgs, hzk, Int.toNat_natCast]
      refine W_skip ?_
      refine Then_normal ?_
      refine W_seq ?_
      refine W_block ?_
      refine W_seq ?_
      refine W_region_lit (fun ds => ?_)
      refine WS_det hF (by rfl) (y_index (k := k) (by rfl) (by rfl) (by first | rfl | omega) (by first | decide | omega) Tryd.runUnderlying22 Tryd.sizeOf3) ?_
      refine WS_det hF (by rfl) (y_load1 (v := .int .i64 (zk : Int)) (by rfl) Tryd.isAgg3 (by rw [← hzk]; exact Row.mem hrow rfl sbA (by omega))) ?_
      refine WS_det hF (by rfl) (y_assign (c := .int .i64 _) (by rfl)) ?_
      refine WS_nil ?_
      refine Then_normal ?_
      refine W_block ?_
      refine W_loop (γ := Nat × Nat) (fun q => q.1 ≤ 20 ∧ q.2 ≤ 20 ∧ Nat.gcd q.1 q.2 = gK c.all (k + 1)) (fun q => [(5, .int .i64 (q.1 : Int)), (7, .int .i64 (q.2 : Int)), (18, .slice (some ⟨bR, 0, none⟩) c.all.length cap), (19, .int .i64 (c.all.length : Int)), (20, .int .i64 (k : Int))]) (fun q => Hr) (fun q => q.2) ((gK c.all k, zk)) ⟨hgk, hz20, hg2⟩ (by repeat (first | exact trivial | refine ⟨by rfl, ?_⟩)) (sbA) ?_
      rintro ⟨n, x⟩ e ⟨(hn20 : n ≤ 20), (hx20 : x ≤ 20), (hgc : Nat.gcd n x = gK c.all (k + 1))⟩
      refine W_seq ?_
      refine W_seq ?_
      refine W_region_lit (fun ds => ?_)
      refine WS_det hF (by rfl) (y_move (c := .int .i64 _) (by rfl)) ?_
      refine WS_det hF (by rfl) (y_gtr (by rfl) (by rfl)) ?_
      refine WS_nil ?_
      refine Then_normal ?_
      refine W_cond (by rfl) (fun c8 => ?_) (fun c8 => ?_)
      ·
        try simp only [Bool.not_eq_true', Bool.not_eq_false', decide_eq_true_eq, decide_eq_false_iff_not, ne_eq, Classical.not_not, Int.not_lt, Int.not_le] at c8
        have hx0 : 0 < x := by omega
        have hgn : Nat.gcd x (n % x) = gK c.all (k + 1) := by rw [← hgc, Nat.gcd_comm n x, Nat.gcd_rec x n, Nat.gcd_comm]
        refine W_skip ?_
        refine Then_normal ?_
        refine W_block ?_
        refine W_draw0 hF Trydmixed [] (by decide +kernel) (fun ds => ?_)
        refine P_det (by rfl) (Over_nil (y_move (c := .int .i64 _) (by rfl))) ?_
        refine P_det (by rfl) (Over_nil (y_move (c := .int .i64 _) (by rfl))) ?_
        refine P_det (by rfl) (Over_nil (y_move (c := .int .i64 _) (by rfl))) ?_
        refine P_det (by rfl) (Over_nil (y_rem (by rfl) (by rfl) (by omega) (by omega))) ?_
        refine P_det (by rfl) (Over_nil (y_assign (c := .int .i64 _) (by rfl))) ?_
        refine P_det (by rfl) (Over_nil (y_assign (c := .int .i64 _) (by rfl))) ?_
        refine PW_end (by rfl) ?_
        refine OverAll_nil ?_
        rintro -
        refine InB_normal ?_
        exact Loop_next (x, n % x) ⟨hx20, Nat.le_trans (Nat.le_of_lt (Nat.mod_lt n hx0)) hx20, hgn⟩ (by repeat (first | exact trivial | refine ⟨by rfl, ?_⟩)) sbA (by simp only; exact Nat.mod_lt n hx0)
      ·
        try simp only [Bool.not_eq_true', Bool.not_eq_false', decide_eq_true_eq, decide_eq_false_iff_not, ne_eq, Classical.not_not, Int.not_lt, Int.not_le] at c8
        obtain rfl : n = gK c.all (k + 1) := by rw [← hgc, show x = 0 by omega, Nat.gcd_zero_right]
        refine W_exit ?_
        refine Then_exit ?_
        refine Loop_exit ?_
        refine InB_same ?_
        refine InB_normal ?_
        refine Then_normal ?_
        refine W_region_lit (fun ds => ?_)
        refine WS_det hF (by rfl) (y_add (by rfl) (by rfl) (by unfold I64; omega)) ?_
        refine WS_det hF (by rfl) (y_move (c := .int .i64 _) (by rfl)) ?_
        refine WS_nil ?_
        exact Loop_next (k + 1) (by omega) (by repeat (first | exact trivial | refine ⟨by rfl, ?_⟩)) sbA (by omega)
    ·
      try simp only [Bool.not_eq_true', Bool.not_eq_false', decide_eq_true_eq, decide_eq_false_iff_not, ne_eq, Classical.not_not, Int.not_lt, Int.not_le] at c6
      obtain rfl : k = c.all.length := by omega
      refine W_exit ?_
      refine Then_exit ?_
      refine Loop_exit ?_
      refine InB_same ?_
      refine Then_normal ?_
      refine W_seq ?_
      refine W_region_lit (fun ds => ?_)
      refine WS_det hF (by rfl) (y_move (c := .int .i64 _) (by rfl)) ?_
      refine WS_det hF (by rfl) (y_assign (c := .int .i64 _) (by rfl)) ?_
      refine WS_det hF (by rfl) (y_assign (c := .int .i64 _) (by rfl)) ?_
      refine WS_nil ?_
      refine Then_normal ?_
      refine W_ret ?_
      refine Fin_ret [.int .i64 _, .int .i64 _] [] Tryd.results44 ⟨by rfl, by rfl, trivial⟩ HSub.nil ?_
      rw [c2]
      unfold Cn.meN
      rw [hokB]
      rfl
theorem Cn.gc_dvd (c : Cn) (hok : c.Ok) (m : Nat) : m ∣ c.gc ↔ ∀ k, k < c.all.length → m ∣ (c.all.getD k 0).toNat := by
  have : ∀ j, j ≤ c.all.length → (m ∣ gK c.all j ↔ ∀ k, k < j → m ∣ (c.all.getD k 0).toNat) := by
    intro j
    induction j with
    | zero => intro _; exact ⟨fun _ k h => absurd h (Nat.not_lt_zero _), fun _ => by unfold gK; exact Nat.dvd_zero m⟩
    | succ j ih =>
      intro hj
      rw [gK_succ (by omega), Nat.dvd_gcd_iff, ih (by omega)]
      constructor
      · rintro ⟨h1, h2⟩ k hk
        by_cases hkj : k = j
        · subst hkj; exact h2
        · exact h1 k (by omega)
      · intro h
        exact ⟨fun k hk => h k (by omega), h j (by omega)⟩
  exact this _ (Nat.le_refl _)
theorem Cn.gc_bd {c : Cn} (hok : c.Ok) : 1 ≤ c.gc ∧ c.gc ≤ 20 := by
  obtain ⟨h1, h2⟩ := hok.all_bd
  refine ⟨?_, gK_bd h2 _ (Nat.le_refl _)⟩
  have hn1 := hok.n1
  have hd := (c.gc_dvd hok c.gc).1 (Nat.dvd_refl _) 0 (by omega)
  have hs := hok.s 0 (by omega)
  have h0 : c.all.getD 0 0 = c.s 0 := by
    unfold Cn.all Cn.s
    have hsz : c.sz.length = c.n := rfl
    rw [List.getD_eq_getElem?_getD, List.getElem?_append_left (by omega), ← List.getD_eq_getElem?_getD]
  rw [h0] at hd
  refine Nat.pos_of_ne_zero fun hz => ?_
  rw [hz] at hd
  have := Nat.eq_zero_of_zero_dvd hd
  omega
def Cn.dvB (c : Cn) (m i : Nat) : Bool := (List.range i).all fun j => decide (m ∣ (c.s j).toNat) && decide (m ∣ (c.i j).toNat)
theorem Cn.dvB_succ (c : Cn) (m i : Nat) : c.dvB m (i + 1) = (c.dvB m i && (decide (m ∣ (c.s i).toNat) && decide (m ∣ (c.i i).toNat))) := by
  unfold Cn.dvB; rw [List.range_succ, List.all_append]; simp
theorem dvI {s : Int} (h : 0 ≤ s) {m : Nat} : s % (m : Int) = 0 ↔ m ∣ s.toNat := by
  obtain ⟨z, rfl⟩ := Int.eq_ofNat_of_zero_le h
  rw [← Int.dvd_iff_emod_eq_zero, Int.toNat_natCast, Int.natCast_dvd_natCast]
theorem Cn.dvB_iff {c : Cn} (hok : c.Ok) {m : Nat} : c.dvB m c.n = true ↔ m ∣ c.gc := by
  have hs : c.sz.length = c.n := rfl
  have hl := hok.len
  have hal := hok.all_bd.1
  have hg : ∀ k, k < c.n → c.all.getD k 0 = c.s k ∧ c.all.getD (c.n + k) 0 = c.i k := fun k hk => by
    unfold Cn.all Cn.s Cn.i
    refine ⟨?_, ?_⟩
    · rw [List.getD_eq_getElem?_getD, List.getElem?_append_left (by omega), ← List.getD_eq_getElem?_getD]
    · rw [List.getD_eq_getElem?_getD, List.getElem?_append_right (by omega), ← List.getD_eq_getElem?_getD, show c.n + k - c.sz.length = k by omega]
  rw [c.gc_dvd hok]
  unfold Cn.dvB
  rw [List.all_eq_true]
  simp only [List.mem_range, Bool.and_eq_true, decide_eq_true_eq]
  constructor
  · intro h k hk
    by_cases hkn : k < c.n
    · rw [(hg k hkn).1]; exact (h k hkn).1
    · have := (hg (k - c.n) (by omega)).2
      rw [show c.n + (k - c.n) = k by omega] at this
      rw [this]
      exact (h _ (by omega)).2
  · intro h k hk
    obtain ⟨h1, h2⟩ := hg k hk
    exact ⟨by rw [← h1]; exact h k (by omega), by rw [← h2]; exact h _ (by omega)⟩
theorem rmeasure_any (c : Cn) (a1 : Option Addr) (p1 : Nat) (a2 : Option Addr) (p2 : Nat) (w : World) (hn : c.n ≤ 1000000) (hm : c.inn.length ≤ 1000000) (h1 : Ints w a1 c.n p1 c.sz) (h2 : Ints w a2 c.inn.length p2 c.inn) : Ct Tryd.prog 45 #[.agg #[.slice a1 c.n p1, .slice a2 c.inn.length p2, .int .i64 c.st]] w fun v _ => v = .tuple #[.int .i64 c.meN, .int .i64 c.err] := by
  have hF := wide_wide
  refine Ct_start (args := [_]) Tryd.func45 (by rfl) Tryd.ntmps45 (by rfl) ?_
  refine W_seq ?_
  refine W_region_lit (fun ds => ?_)
  refine WS_new hF (by rfl) (y_box (by rfl)) (fun b1 => ?_)
  refine WS_det hF (by rfl) (y_assign (c := .int .i64 _) (by rfl)) ?_
  refine WS_det hF (by rfl) (y_assign (c := .int .i64 _) (by rfl)) ?_
  refine WS_nil ?_
  refine Then_normal ?_
  refine W_seq ?_
  refine W_seq ?_
  refine W_region_lit (fun ds => ?_)
  refine WS_det hF (by rfl) (y_loadN (by rfl) Tryd.isAgg24 Tryd.sizeOf24 (Mem.own (us := [.slice _ _ _, .slice _ _ _, .int .i64 _]) 0 (by rfl) (by rfl)) (by rfl)) ?_
  refine WS_det hF (by rfl) (y_callL (by rfl) (by rfl) Tryd.call52 (fun w hw => rcans_any c a1 p1 a2 p2 w hn hm (h1.st w hw) (h2.st w hw))) ?_
  refine WS_det hF (by rfl) (y_not (by rfl)) ?_
  refine WS_nil ?_
  refine Then_normal ?_
  refine W_cond (by rfl) (fun c1 => ?_) (fun c1 => ?_)
  ·
    try simp only [Bool.not_eq_true', Bool.not_eq_false', decide_eq_true_eq, decide_eq_false_iff_not, ne_eq, Classical.not_not, Int.not_lt, Int.not_le] at c1
    refine W_seq ?_
    refine W_region_lit (fun ds => ?_)
    refine WS_det hF (by rfl) (y_assign (c := .int .i64 _) (by rfl)) ?_
    refine WS_det hF (by rfl) (y_assign (c := .int .i64 _) (by rfl)) ?_
    refine WS_nil ?_
    refine Then_normal ?_
    refine W_ret ?_
    refine Then_ret ?_
    refine Fin_ret [.int .i64 _, .int .i64 _] [] Tryd.results45 ⟨by rfl, by rfl, trivial⟩ HSub.nil ?_
    unfold Cn.meN Cn.err
    rw [c1]
    rfl
  ·
    try simp only [Bool.not_eq_true', Bool.not_eq_false', decide_eq_true_eq, decide_eq_false_iff_not, ne_eq, Classical.not_not, Int.not_lt, Int.not_le] at c1
    have hok := Cn.ok_iff.1 c1
    have hn1 := hok.n1
    have hn3 := hok.n3
    have hlen := hok.len
    obtain ⟨hg1, hg20⟩ := Cn.gc_bd hok
    have hdi := fun m => Cn.dvB_iff hok (m := m)
    have hgg : c.dvB c.gc c.n = true := (hdi c.gc).2 (Nat.dvd_refl _)
    refine W_skip ?_
    refine Then_normal ?_
    refine W_seq ?_
    refine W_seq ?_
    refine W_region_lit (fun ds => ?_)
    refine WS_det hF (by rfl) (y_assign (c := .int .i64 _) (by rfl)) ?_
    refine WS_nil ?_
    refine Then_normal ?_
    refine W_block ?_
    refine W_loop (γ := Nat) (fun m => m ≤ 20 ∧ ∀ q, m < q → q ≤ 20 → c.dvB q c.n = false) (fun m => [(1, .pointer (some ⟨b1, 0, none⟩)), (4, .int .i64 (m : Int))]) (fun _ => _) (fun m => m) (20) ⟨Nat.le_refl _, fun q h1 h2 => by omega⟩ (by repeat (first | exact trivial | refine ⟨by rfl, ?_⟩)) (List.Sublist.refl _) ?_
    rintro m e ⟨hm20, hmq⟩
    refine W_seq ?_
    refine W_seq ?_
    refine W_region_lit (fun ds => ?_)
    refine WS_det hF (by rfl) (y_move (c := .int .i64 _) (by rfl)) ?_
    refine WS_det hF (by rfl) (y_gtr (by rfl) (by rfl)) ?_
    refine WS_nil ?_
    refine Then_normal ?_
    refine W_cond (by rfl) (fun c4 => ?_) (fun c4 => ?_)
    ·
      try simp only [Bool.not_eq_true', Bool.not_eq_false', decide_eq_true_eq, decide_eq_false_iff_not, ne_eq, Classical.not_not, Int.not_lt, Int.not_le] at c4
      have hm2 : 2 ≤ m := by omega
      have hm1 : ((m - 1 : Nat) : Int) = (m : Int) - 1 := by omega
      refine W_skip ?_
      refine Then_normal ?_
      refine W_seq ?_
      refine W_block ?_
      refine W_seq ?_
      refine W_region_lit (fun ds => ?_)
      refine WS_det hF (by rfl) (y_assign (c := .bool _) (by rfl)) ?_
      refine WS_nil ?_
      refine Then_normal ?_
      refine W_seq ?_
      refine W_seq ?_
      refine W_region_lit (fun ds => ?_)
      refine WS_det hF (by rfl) (y_assign (c := .int .i64 _) (by rfl)) ?_
      refine WS_nil ?_
      refine Then_normal ?_
      refine W_block ?_
      refine W_loop (γ := Nat) (fun i => i ≤ c.n) (fun i => [(1, .pointer (some ⟨b1, 0, none⟩)), (4, .int .i64 (m : Int)), (5, .bool (c.dvB m i)), (6, .int .i64 (i : Int))]) (fun _ => _) (fun i => c.n - i) (0) (Nat.zero_le _) (by repeat (first | exact trivial | refine ⟨by rfl, ?_⟩)) (List.Sublist.refl _) ?_
      rintro i e hi
      refine W_seq ?_
      refine W_seq ?_
      refine W_region_lit (fun ds => ?_)
      refine WS_det hF (by rfl) (y_move (c := .int .i64 _) (by rfl)) ?_
      refine WS_det hF (by rfl) (y_fieldAddr (by rfl) fa24_0) ?_
      refine WS_det hF (by rfl) (y_load1 (by rfl) Tryd.isAgg22 (Mem.own1 0 (by rfl) (by rfl))) ?_
      refine WS_det hF (by rfl) (y_len (by rfl) Tryd.runUnderlying22) ?_
      refine WS_det hF (by rfl) (y_lss (by rfl) (by rfl)) ?_
      refine WS_nil ?_
      refine Then_normal ?_
      refine W_cond (by rfl) (fun c8 => ?_) (fun c8 => ?_)
      ·
        try simp only [Bool.not_eq_true', Bool.not_eq_false', decide_eq_true_eq, decide_eq_false_iff_not, ne_eq, Classical.not_not, Int.not_lt, Int.not_le] at c8
        obtain ⟨b, o, rfl, hc⟩ := h1.cell i (by omega)
        obtain ⟨b', o', rfl, hc'⟩ := h2.cell i (by omega)
        change At w b _ [.int .i64 (c.s i)] at hc
        change At w b' _ [.int .i64 (c.i i)] at hc'
        have hs := hok.s i (by omega)
        have hii := hok.i i (by omega)
        have hds := dvI (s := c.s i) (m := m) (by omega)
        have hdi2 := dvI (s := c.i i) (m := m) (by omega)
        have hsc := c.dvB_succ m i
        refine W_skip ?_
        refine Then_normal ?_
        refine W_seq ?_
        refine W_block ?_
        refine W_region_lit (fun ds => ?_)
        refine WS_det hF (by rfl) (y_move (c := .bool _) (by rfl)) ?_
        refine WS_det hF (by rfl) (y_move (c := .bool _) (by rfl)) ?_
        refine WS_split 22 (by rfl) (fun g10_1 => ?_) (fun g10_1 => ?_)
        ·
          try simp only [Bool.not_eq_true', Bool.not_eq_false', decide_eq_true_eq, decide_eq_false_iff_not, ne_eq, Classical.not_not, Int.not_lt, Int.not_le] at g10_1
          refine WS_det hF (by rfl) (y_fieldAddr (by rfl) fa24_0) ?_
          refine WS_det hF (by rfl) (y_load1 (by rfl) Tryd.isAgg22 (Mem.own1 0 (by rfl) (by rfl))) ?_
          refine WS_det hF (by rfl) (y_move (c := .int .i64 _) (by rfl)) ?_
          refine WS_det hF (by rfl) (y_index (k := i) (by rfl) (by rfl) (by first | rfl | omega) (by first | decide | omega) Tryd.runUnderlying22 Tryd.sizeOf3) ?_
          refine WS_det hF (by rfl) (y_load1 (by rfl) Tryd.isAgg3 (by first | exact Mem.old1 (by assumption) | exact Mem.oldAt1 (by assumption) (by rfl) | exact Mem.old (by assumption) | exact Mem.oldAtL1 (by assumption) (by rfl) (by rfl))) ?_
          refine WS_det hF (by rfl) (y_move (c := .int .i64 _) (by rfl)) ?_
          refine WS_det hF (by rfl) (y_rem (by rfl) (by rfl) (by omega) (by omega)) ?_
          refine WS_det hF (by rfl) (y_eql (by rfl) (by rfl)) ?_
          refine WS_det hF (by rfl) (by first | exact y_pick_t (c := .bool _) (by rfl) (by rfl) | exact y_pick_f (c := .bool _) (by rfl) (by rfl)) ?_
          refine WS_det hF (by rfl) (y_move (c := .bool _) (by rfl)) ?_
          refine WS_split 32 (by rfl) (fun g10_11 => ?_) (fun g10_11 => ?_)
          ·
            try simp only [Bool.not_eq_true', Bool.not_eq_false', decide_eq_true_eq, decide_eq_false_iff_not, ne_eq, Classical.not_not, Int.not_lt, Int.not_le] at g10_11
            have hB : c.dvB m (i + 1) = decide (c.i i % (m : Int) = 0) := by
              rw [hsc, g10_1, show decide (m ∣ (c.s i).toNat) = true from decide_eq_true (hds.1 g10_11), Bool.true_and, Bool.true_and]
              exact decide_eq_decide.2 hdi2.symm
            refine WS_det hF (by rfl) (y_fieldAddr (by rfl) fa24_1) ?_
            refine WS_det hF (by rfl) (y_load1 (by rfl) Tryd.isAgg22 (Mem.own1 0 (by rfl) (by rfl))) ?_
            refine WS_det hF (by rfl) (y_move (c := .int .i64 _) (by rfl)) ?_
            refine WS_det hF (by rfl) (y_index (k := i) (by rfl) (by rfl) (by first | rfl | omega) (by first | decide | omega) Tryd.runUnderlying22 Tryd.sizeOf3) ?_
            refine WS_det hF (by rfl) (y_load1 (by rfl) Tryd.isAgg3 (by first | exact Mem.old1 (by assumption) | exact Mem.oldAt1 (by assumption) (by rfl) | exact Mem.old (by assumption) | exact Mem.oldAtL1 (by assumption) (by rfl) (by rfl))) ?_
            refine WS_det hF (by rfl) (y_move (c := .int .i64 _) (by rfl)) ?_
            refine WS_det hF (by rfl) (y_rem (by rfl) (by rfl) (by omega) (by omega)) ?_
            refine WS_det hF (by rfl) (y_eql (by rfl) (by rfl)) ?_
            refine WS_det hF (by rfl) (by first | exact y_pick_t (c := .bool _) (by rfl) (by rfl) | exact y_pick_f (c := .bool _) (by rfl) (by rfl)) ?_
            refine WS_det hF (by rfl) (y_assign (c := .bool _) (by rfl)) ?_
            refine WS_nil ?_
            refine InB_normal ?_
            refine Then_normal ?_
            refine W_region_lit (fun ds => ?_)
            refine WS_det hF (by rfl) (y_move (c := .int .i64 _) (by rfl)) ?_
            refine WS_det hF (by rfl) (y_add (by rfl) (by rfl) (by unfold I64; omega)) ?_
            refine WS_det hF (by rfl) (y_assign (c := .int .i64 _) (by rfl)) ?_
            refine WS_nil ?_
            exact Loop_next (i + 1) (by omega) (by rw [hB]; repeat (first | exact trivial | refine ⟨by rfl, ?_⟩)) (by repeat (first | exact List.Sublist.refl _ | exact List.nil_sublist _ | apply List.Sublist.cons_cons | apply List.Sublist.cons)) (by omega)
          ·
            try simp only [Bool.not_eq_true', Bool.not_eq_false', decide_eq_true_eq, decide_eq_false_iff_not, ne_eq, Classical.not_not, Int.not_lt, Int.not_le] at g10_11
            have hB : c.dvB m (i + 1) = false := by
              rw [hsc, show decide (m ∣ (c.s i).toNat) = false from decide_eq_false (fun h => g10_11 (hds.2 h)), Bool.false_and, Bool.and_false]
            refine WS_no hF (by rfl) ?_
            refine WS_no hF (by rfl) ?_
            refine WS_no hF (by rfl) ?_
            refine WS_no hF (by rfl) ?_
            refine WS_no hF (by rfl) ?_
            refine WS_no hF (by rfl) ?_
            refine WS_no hF (by rfl) ?_
            refine WS_no hF (by rfl) ?_
            refine WS_det hF (by rfl) (by first | exact y_pick_t (c := .bool _) (by rfl) (by rfl) | exact y_pick_f (c := .bool _) (by rfl) (by rfl)) ?_
            refine WS_det hF (by rfl) (y_assign (c := .bool _) (by rfl)) ?_
            refine WS_nil ?_
            refine InB_normal ?_
            refine Then_normal ?_
            refine W_region_lit (fun ds => ?_)
            refine WS_det hF (by rfl) (y_move (c := .int .i64 _) (by rfl)) ?_
            refine WS_det hF (by rfl) (y_add (by rfl) (by rfl) (by unfold I64; omega)) ?_
            refine WS_det hF (by rfl) (y_assign (c := .int .i64 _) (by rfl)) ?_
            refine WS_nil ?_
            exact Loop_next (i + 1) (by omega) (by rw [hB]; repeat (first | exact trivial | refine ⟨by rfl, ?_⟩)) (by repeat (first | exact List.Sublist.refl _ | exact List.nil_sublist _ | apply List.Sublist.cons_cons | apply List.Sublist.cons)) (by omega)
        ·
          try simp only [Bool.not_eq_true', Bool.not_eq_false', decide_eq_true_eq, decide_eq_false_iff_not, ne_eq, Classical.not_not, Int.not_lt, Int.not_le] at g10_1
          have hB : c.dvB m (i + 1) = false := by rw [hsc, g10_1, Bool.false_and]
          refine WS_no hF (by rfl) ?_
          refine WS_no hF (by rfl) ?_
          refine WS_no hF (by rfl) ?_
          refine WS_no hF (by rfl) ?_
          refine WS_no hF (by rfl) ?_
          refine WS_no hF (by rfl) ?_
          refine WS_no hF (by rfl) ?_
          refine WS_no hF (by rfl) ?_
          refine WS_det hF (by rfl) (by first | exact y_pick_t (c := .bool _) (by rfl) (by rfl) | exact y_pick_f (c := .bool _) (by rfl) (by rfl)) ?_
          refine WS_det hF (by rfl) (y_move (c := .bool _) (by rfl)) ?_
          refine WS_no hF (by rfl) ?_
          refine WS_no hF (by rfl) ?_
          refine WS_no hF (by rfl) ?_
          refine WS_no hF (by rfl) ?_
          refine WS_no hF (by rfl) ?_
          refine WS_no hF (by rfl) ?_
          refine WS_no hF (by rfl) ?_
          refine WS_no hF (by rfl) ?_
          refine WS_det hF (by rfl) (by first | exact y_pick_t (c := .bool _) (by rfl) (by rfl) | exact y_pick_f (c := .bool _) (by rfl) (by rfl)) ?_
          refine WS_det hF (by rfl) (y_assign (c := .bool _) (by rfl)) ?_
          refine WS_nil ?_
          refine InB_normal ?_
          refine Then_normal ?_
          refine W_region_lit (fun ds => ?_)
          refine WS_det hF (by rfl) (y_move (c := .int .i64 _) (by rfl)) ?_
          refine WS_det hF (by rfl) (y_add (by rfl) (by rfl) (by unfold I64; omega)) ?_
          refine WS_det hF (by rfl) (y_assign (c := .int .i64 _) (by rfl)) ?_
          refine WS_nil ?_
          exact Loop_next (i + 1) (by omega) (by rw [hB]; repeat (first | exact trivial | refine ⟨by rfl, ?_⟩)) (by repeat (first | exact List.Sublist.refl _ | exact List.nil_sublist _ | apply List.Sublist.cons_cons | apply List.Sublist.cons)) (by omega)
      ·
        try simp only [Bool.not_eq_true', Bool.not_eq_false', decide_eq_true_eq, decide_eq_false_iff_not, ne_eq, Classical.not_not, Int.not_lt, Int.not_le] at c8
        obtain rfl : i = c.n := by omega
        refine W_exit ?_
        refine Then_exit ?_
        refine Loop_exit ?_
        refine InB_same ?_
        refine Then_normal ?_
        refine W_seq ?_
        refine W_region_lit (fun ds => ?_)
        refine WS_det hF (by rfl) (y_move (c := .bool _) (by rfl)) ?_
        refine WS_nil ?_
        refine Then_normal ?_
        refine W_cond (by rfl) (fun c11 => ?_) (fun c11 => ?_)
        ·
          try simp only [Bool.not_eq_true', Bool.not_eq_false', decide_eq_true_eq, decide_eq_false_iff_not, ne_eq, Classical.not_not, Int.not_lt, Int.not_le] at c11
          refine W_seq ?_
          refine W_region_lit (fun ds => ?_)
          refine WS_det hF (by rfl) (y_move (c := .int .i64 _) (by rfl)) ?_
          refine WS_det hF (by rfl) (y_assign (c := .int .i64 _) (by rfl)) ?_
          refine WS_det hF (by rfl) (y_assign (c := .int .i64 _) (by rfl)) ?_
          refine WS_nil ?_
          refine Then_normal ?_
          refine W_ret ?_
          refine InB_ret ?_
          refine Then_ret ?_
          refine Loop_ret ?_
          refine InB_ret ?_
          refine Then_ret ?_
          refine Fin_ret [.int .i64 _, .int .i64 _] [] Tryd.results45 ⟨by rfl, by rfl, trivial⟩ HSub.nil ?_
          have h1 : m ∣ c.gc := (hdi m).1 c11
          have h2 : m ≤ c.gc := Nat.le_of_dvd (by omega) h1
          have h3 : c.gc = m := by
            by_cases h : m < c.gc
            · have := hmq c.gc h hg20
              rw [hgg] at this; cases this
            · omega
          unfold Cn.meN Cn.err
          rw [c1, h3]
          rfl
        ·
          try simp only [Bool.not_eq_true', Bool.not_eq_false', decide_eq_true_eq, decide_eq_false_iff_not, ne_eq, Classical.not_not, Int.not_lt, Int.not_le] at c11
          refine W_skip ?_
          refine InB_normal ?_
          refine Then_normal ?_
          refine W_region_lit (fun ds => ?_)
          refine WS_det hF (by rfl) (y_move (c := .int .i64 _) (by rfl)) ?_
          refine WS_det hF (by rfl) (y_sub (by rfl) (by rfl) (by unfold I64; omega)) ?_
          refine WS_det hF (by rfl) (y_assign (c := .int .i64 _) (by rfl)) ?_
          refine WS_nil ?_
          exact Loop_next (m - 1) ⟨by omega, fun q h1 h2 => by by_cases hq : q = m; (subst hq; exact c11); exact hmq q (by omega) h2⟩ (by rw [hm1]; repeat (first | exact trivial | refine ⟨by rfl, ?_⟩)) (by repeat (first | exact List.Sublist.refl _ | exact List.nil_sublist _ | apply List.Sublist.cons_cons | apply List.Sublist.cons)) (by omega)
    ·
      try simp only [Bool.not_eq_true', Bool.not_eq_false', decide_eq_true_eq, decide_eq_false_iff_not, ne_eq, Classical.not_not, Int.not_lt, Int.not_le] at c4
      refine W_exit ?_
      refine Then_exit ?_
      refine Loop_exit ?_
      refine InB_same ?_
      refine Then_normal ?_
      refine W_seq ?_
      refine W_region_lit (fun ds => ?_)
      refine WS_det hF (by rfl) (y_assign (c := .int .i64 _) (by rfl)) ?_
      refine WS_det hF (by rfl) (y_assign (c := .int .i64 _) (by rfl)) ?_
      refine WS_nil ?_
      refine Then_normal ?_
      refine W_ret ?_
      refine Fin_ret [.int .i64 _, .int .i64 _] [] Tryd.results45 ⟨by rfl, by rfl, trivial⟩ HSub.nil ?_
      have h3 : c.gc = 1 := by
        by_cases h : m < c.gc
        · have := hmq c.gc h hg20
          rw [hgg] at this; cases this
        · omega
      unfold Cn.meN Cn.err
      rw [c1, h3]
      rfl
end Go.Proofs.YtjekjehgmljbgaaDoor.T

/- How many contents can be reached: the walks. -/
namespace Go.Proofs.YtjekjehgmljbgaaDoor.T
open Go.RowKit Go.Proofs Go.Eng
set_option maxRecDepth 100000
set_option maxHeartbeats 1000000
set_option linter.unusedVariables false
set_option linter.unusedSimpArgs false



/-- All that can be reached. -/
def Cn.IsAll (c : Cn) (L : List Co) : Prop := L.Nodup ∧ ∀ y, y ∈ L ↔ ∃ w, c.Best w y
theorem nodup_len {α : Type} [DecidableEq α] : ∀ {l m : List α}, l.Nodup → m.Nodup → (∀ x, x ∈ l ↔ x ∈ m) → l.length = m.length := by
  have key : ∀ {l m : List α}, l.Nodup → (∀ x ∈ l, x ∈ m) → l.length ≤ m.length := by
    intro l
    induction l with
    | nil => intro m _ _; exact Nat.zero_le _
    | cons x l ih =>
      intro m hl hs
      rw [List.nodup_cons] at hl
      have hxm := hs x List.mem_cons_self
      have h := ih (m := m.erase x) hl.2 fun y hy => by
        have hne : y ≠ x := fun e => hl.1 (e ▸ hy)
        exact (List.mem_erase_of_ne hne).2 (hs y (List.mem_cons_of_mem _ hy))
      rw [List.length_erase_of_mem hxm] at h
      have := List.length_pos_of_mem hxm
      simp only [List.length_cons]
      omega
  intro l m hl hm h
  exact Nat.le_antisymm (key hl fun x hx => (h x).1 hx) (key hm fun x hx => (h x).2 hx)
open Classical in
/-- How many contents can be reached. -/
noncomputable def Cn.many (c : Cn) : Nat := if h : ∃ L, c.IsAll L then h.choose.length else 0
theorem Cn.IsAll.len {c : Cn} {L : List Co} (h : c.IsAll L) : c.many = L.length := by
  unfold Cn.many
  have hx : ∃ L, c.IsAll L := ⟨L, h⟩
  rw [dif_pos hx]
  exact nodup_len hx.choose_spec.1 h.1 fun y => by rw [hx.choose_spec.2, h.2]
theorem Tab.all {c : Cn} {HX : List Blk} {l : List (EntK Co)} {ck : Nat} (hg : GoodM l ck) (hT : Tab HX l c.bestO) : c.IsAll (l.map (·.1)) := by
  refine ⟨hg.keys, fun y => ⟨fun h => ?_, fun ⟨w, h⟩ => ?_⟩⟩
  · obtain ⟨e, he, rfl⟩ := List.mem_map.1 h
    obtain ⟨x, _, h2, _⟩ := hT.mem hg he
    exact ⟨_, Cn.bestO_iff.1 h2⟩
  · obtain ⟨e, he, rfl⟩ := hT.has (Cn.bestO_iff.2 h)
    exact List.mem_map.2 ⟨e, he, rfl⟩
theorem Cn.Rcd.isAll {c : Cn} {xs : List (Co × Wy)} (h : c.Rcd xs) : c.IsAll (xs.map Prod.fst) := by
  refine ⟨h.nd, fun y => ⟨fun hy => ?_, fun ⟨w, hw⟩ => ?_⟩⟩
  · obtain ⟨z, hz, rfl⟩ := List.mem_map.1 hy
    exact ⟨_, h.best z hz⟩
  · exact List.mem_map.2 ⟨_, h.all y w hw, rfl⟩
noncomputable def Cn.maN (c : Cn) : Int := if c.okB then (c.many : Int) else 0
theorem many_any (c : Cn) (a1 : Option Addr) (p1 : Nat) (a2 : Option Addr) (p2 : Nat) (w : World) (hG : Gv w) (hn : c.n ≤ 1000000) (hm : c.inn.length ≤ 1000000) (h1 : Ints w a1 c.n p1 c.sz) (h2 : Ints w a2 c.inn.length p2 c.inn) : Ct Tryd.prog 40 #[.agg #[.slice a1 c.n p1, .slice a2 c.inn.length p2, .int .i64 c.st]] w fun v _ => v = .tuple #[.int .i64 c.maN, .int .i64 c.err] := by
  have hF := wide_wide
  refine Ct_start (args := [_]) Tryd.func40 (by rfl) Tryd.ntmps40 (by rfl) ?_
  refine W_seq ?_
  refine W_region_lit (fun ds => ?_)
  refine WS_new hF (by rfl) (y_box (by rfl)) (fun b1 => ?_)
  refine WS_det hF (by rfl) (y_assign (c := .int .i64 _) (by rfl)) ?_
  refine WS_det hF (by rfl) (y_assign (c := .int .i64 _) (by rfl)) ?_
  refine WS_nil ?_
  refine Then_normal ?_
  refine W_seq ?_
  refine W_seq ?_
  refine W_region_lit (fun ds => ?_)
  refine WS_det hF (by rfl) (y_loadN (by rfl) Tryd.isAgg24 Tryd.sizeOf24 (Mem.own (us := [.slice _ _ _, .slice _ _ _, .int .i64 _]) 0 (by rfl) (by rfl)) (by rfl)) ?_
  refine WS_det hF (by rfl) (y_callL (by rfl) (by rfl) Tryd.call16 (fun w hw => ccheck_any c a1 p1 a2 p2 w (hG.st w hw) hn hm (h1.st w hw) (h2.st w hw))) ?_
  refine WS_det hF (by rfl) (y_assign (c := .int .i64 _) (by rfl)) ?_
  refine WS_nil ?_
  refine Then_normal ?_
  refine W_seq ?_
  refine W_region_lit (fun ds => ?_)
  refine WS_det hF (by rfl) (y_move (c := .int .i64 _) (by rfl)) ?_
  refine WS_det hF (by rfl) (y_neq (by rfl) (by rfl)) ?_
  refine WS_nil ?_
  refine Then_normal ?_
  refine W_cond (by rfl) (fun c2 => ?_) (fun c2 => ?_)
  ·
    try simp only [Bool.not_eq_true', Bool.not_eq_false', decide_eq_true_eq, decide_eq_false_iff_not, ne_eq, Classical.not_not, Int.not_lt, Int.not_le] at c2
    refine W_seq ?_
    refine W_region_lit (fun ds => ?_)
    refine WS_det hF (by rfl) (y_move (c := .int .i64 _) (by rfl)) ?_
    refine WS_det hF (by rfl) (y_assign (c := .int .i64 _) (by rfl)) ?_
    refine WS_det hF (by rfl) (y_assign (c := .int .i64 _) (by rfl)) ?_
    refine WS_nil ?_
    refine Then_normal ?_
    refine W_ret ?_
    refine Then_ret ?_
    refine Fin_ret [.int .i64 _, .int .i64 _] [] Tryd.results40 ⟨by rfl, by rfl, trivial⟩ HSub.nil ?_
    obtain ⟨h3, h4⟩ := Cn.err_no c2
    rw [h4]
    unfold Cn.maN
    rw [h3]
    rfl
  ·
    try simp only [Bool.not_eq_true', Bool.not_eq_false', decide_eq_true_eq, decide_eq_false_iff_not, ne_eq, Classical.not_not, Int.not_lt, Int.not_le] at c2
    have hokB := Cn.err_iff.1 c2
    have hok := Cn.ok_iff.1 hokB
    refine W_skip ?_
    refine Then_normal ?_
    refine W_seq ?_
    refine W_region_lit (fun ds => ?_)
    refine WS_det hF (by rfl) (y_loadN (by rfl) Tryd.isAgg24 Tryd.sizeOf24 (Mem.own (us := [.slice _ _ _, .slice _ _ _, .int .i64 _]) 0 (by rfl) (by rfl)) (by rfl)) ?_
    refine WS_det hF (by rfl) (y_buildL bd96_0 (by rfl)) ?_
    refine WS_gen hF (by rfl) (y_callL (by rfl) (by rfl) Tryd.call59 (fun w hw => ways_any c a1 p1 a2 p2 w hok hn hm (h1.st w hw) (h2.st w hw))) ?_
    rintro _ _ ⟨mk, l, ck, HX, rfl, rfl, hg, hT⟩
    refine WS_det hF (by rfl) (y_lenK (enc := encC) (i := 0) (by rfl) Tryd.underlying115 (by rfl)) ?_
    refine WS_det hF (by rfl) (y_assign (c := .int .i64 _) (by rfl)) ?_
    refine WS_det hF (by rfl) (y_assign (c := .int .i64 _) (by rfl)) ?_
    refine WS_nil ?_
    refine Then_normal ?_
    refine W_ret ?_
    refine Fin_ret [.int .i64 _, .int .i64 _] [] Tryd.results40 ⟨by rfl, by rfl, trivial⟩ HSub.nil ?_
    rw [c2]
    unfold Cn.maN
    rw [hokB, (Tab.all hg hT).len, List.length_map]
    rfl
theorem rmany_any (c : Cn) (a1 : Option Addr) (p1 : Nat) (a2 : Option Addr) (p2 : Nat) (w : World) (hn : c.n ≤ 1000000) (hm : c.inn.length ≤ 1000000) (h1 : Ints w a1 c.n p1 c.sz) (h2 : Ints w a2 c.inn.length p2 c.inn) : Ct Tryd.prog 41 #[.agg #[.slice a1 c.n p1, .slice a2 c.inn.length p2, .int .i64 c.st]] w fun v _ => v = .tuple #[.int .i64 c.maN, .int .i64 c.err] := by
  have hF := wide_wide
  refine Ct_start (args := [_]) Tryd.func41 (by rfl) Tryd.ntmps41 (by rfl) ?_
  refine W_seq ?_
  refine W_region_lit (fun ds => ?_)
  refine WS_new hF (by rfl) (y_box (by rfl)) (fun b1 => ?_)
  refine WS_det hF (by rfl) (y_assign (c := .int .i64 _) (by rfl)) ?_
  refine WS_det hF (by rfl) (y_assign (c := .int .i64 _) (by rfl)) ?_
  refine WS_nil ?_
  refine Then_normal ?_
  refine W_seq ?_
  refine W_seq ?_
  refine W_region_lit (fun ds => ?_)
  refine WS_det hF (by rfl) (y_loadN (by rfl) Tryd.isAgg24 Tryd.sizeOf24 (Mem.own (us := [.slice _ _ _, .slice _ _ _, .int .i64 _]) 0 (by rfl) (by rfl)) (by rfl)) ?_
  refine WS_det hF (by rfl) (y_callL (by rfl) (by rfl) Tryd.call52 (fun w hw => rcans_any c a1 p1 a2 p2 w hn hm (h1.st w hw) (h2.st w hw))) ?_
  refine WS_det hF (by rfl) (y_not (by rfl)) ?_
  refine WS_nil ?_
  refine Then_normal ?_
  refine W_cond (by rfl) (fun c1 => ?_) (fun c1 => ?_)
  ·
    try simp only [Bool.not_eq_true', Bool.not_eq_false', decide_eq_true_eq, decide_eq_false_iff_not, ne_eq, Classical.not_not, Int.not_lt, Int.not_le] at c1
    refine W_seq ?_
    refine W_region_lit (fun ds => ?_)
    refine WS_det hF (by rfl) (y_assign (c := .int .i64 _) (by rfl)) ?_
    refine WS_det hF (by rfl) (y_assign (c := .int .i64 _) (by rfl)) ?_
    refine WS_nil ?_
    refine Then_normal ?_
    refine W_ret ?_
    refine Then_ret ?_
    refine Fin_ret [.int .i64 _, .int .i64 _] [] Tryd.results41 ⟨by rfl, by rfl, trivial⟩ HSub.nil ?_
    unfold Cn.maN Cn.err
    rw [c1]
    rfl
  ·
    try simp only [Bool.not_eq_true', Bool.not_eq_false', decide_eq_true_eq, decide_eq_false_iff_not, ne_eq, Classical.not_not, Int.not_lt, Int.not_le] at c1
    have hok := Cn.ok_iff.1 c1
    refine W_skip ?_
    refine Then_normal ?_
    refine W_seq ?_
    refine W_region_lit (fun ds => ?_)
    refine WS_det hF (by rfl) (y_loadN (by rfl) Tryd.isAgg24 Tryd.sizeOf24 (Mem.own (us := [.slice _ _ _, .slice _ _ _, .int .i64 _]) 0 (by rfl) (by rfl)) (by rfl)) ?_
    refine WS_gen hF (by rfl) (y_callL (by rfl) (by rfl) Tryd.call67 (fun w hw => reached_any c a1 p1 a2 p2 w hok hn hm (h1.st w hw) (h2.st w hw))) ?_
    rintro _ _ ⟨rs, bo, cap, junk, HX, rfl, rfl, hrc, hrd, hcap⟩
    refine WS_det hF (by rfl) (y_len (by rfl) Tryd.runUnderlying131) ?_
    refine WS_det hF (by rfl) (y_assign (c := .int .i64 _) (by rfl)) ?_
    refine WS_det hF (by rfl) (y_assign (c := .int .i64 _) (by rfl)) ?_
    refine WS_nil ?_
    refine Then_normal ?_
    refine W_ret ?_
    refine Fin_ret [.int .i64 _, .int .i64 _] [] Tryd.results41 ⟨by rfl, by rfl, trivial⟩ HSub.nil ?_
    unfold Cn.maN Cn.err
    rw [c1, hrc.isAll.len, List.length_map, List.length_map]
    rfl
end Go.Proofs.YtjekjehgmljbgaaDoor.T

/- The law CanReaches, walked. -/
namespace Go.Proofs.YtjekjehgmljbgaaDoor.T
open Go.RowKit Go.Proofs Go.Eng
set_option maxRecDepth 100000
set_option maxHeartbeats 1000000
set_option linter.unusedVariables false
set_option linter.unusedSimpArgs false



theorem Cn.mdL_bd (c : Cn) : c.mdL.length ≤ 1000000 := by
  unfold Cn.mdL
  split
  · have := c.madeL_len; omega
  · exact Nat.zero_le _
theorem canReaches_any (c : Cn) (a1 : Option Addr) (p1 : Nat) (a2 : Option Addr) (p2 : Nat) (w : World) (hG : Gv w) (h1 : Ints w a1 c.n p1 c.sz) (h2 : Ints w a2 c.inn.length p2 c.inn) :
    Ct Tryd.prog 8 #[.agg #[.slice a1 c.n p1, .slice a2 c.inn.length p2, .int .i64 c.st]] w fun v _ => v = .bool true := by
  have hF := wide_wide
  refine Ct_start (args := [_]) Tryd.func8 (by rfl) Tryd.ntmps8 (by rfl) ?_
  refine W_seq ?_
  refine W_region_lit (fun ds => ?_)
  refine WS_new hF (by rfl) (y_box (by rfl)) (fun b1 => ?_)
  refine WS_det hF (by rfl) (y_assign (c := .bool _) (by rfl)) ?_
  refine WS_nil ?_
  refine Then_normal ?_
  refine W_seq ?_
  refine W_seq ?_
  refine W_region_lit (fun ds => ?_)
  refine WS_det hF (by rfl) (y_loadN (by rfl) Tryd.isAgg24 Tryd.sizeOf24 (Mem.own (us := [.slice _ _ _, .slice _ _ _, .int .i64 _]) 0 (by rfl) (by rfl)) (by rfl)) ?_
  refine WS_det hF (by rfl) (y_callL (by rfl) (by rfl) Tryd.call9 (fun w hw => rcgreat_any c a1 p1 a2 p2 w)) ?_
  refine WS_nil ?_
  refine Then_normal ?_
  refine W_cond (by rfl) (fun c1 => ?_) (fun c1 => ?_)
  ·
    try simp only [Bool.not_eq_true', Bool.not_eq_false', decide_eq_true_eq, decide_eq_false_iff_not, ne_eq, Classical.not_not, Int.not_lt, Int.not_le] at c1
    refine W_seq ?_
    refine W_region_lit (fun ds => ?_)
    refine WS_det hF (by rfl) (y_assign (c := .bool _) (by rfl)) ?_
    refine WS_nil ?_
    refine Then_normal ?_
    refine W_ret ?_
    refine Then_ret ?_
    refine Fin_ret [.bool _] [] Tryd.results8 ⟨by rfl, trivial⟩ HSub.nil ?_
    rfl
  ·
    try simp only [Bool.not_eq_true', Bool.not_eq_false', decide_eq_true_eq, decide_eq_false_iff_not, ne_eq, Classical.not_not, Int.not_lt, Int.not_le] at c1
    simp only [Bool.or_eq_false_iff, decide_eq_false_iff_not] at c1
    have hn : c.n ≤ 1000000 := by omega
    have hm : c.inn.length ≤ 1000000 := by omega
    refine W_skip ?_
    refine Then_normal ?_
    refine W_seq ?_
    refine W_region_lit (fun ds => ?_)
    refine WS_det hF (by rfl) (y_loadN (by rfl) Tryd.isAgg24 Tryd.sizeOf24 (Mem.own (us := [.slice _ _ _, .slice _ _ _, .int .i64 _]) 0 (by rfl) (by rfl)) (by rfl)) ?_
    refine WS_gen hF (by rfl) (y_callL (by rfl) (by rfl) Tryd.call10 (fun w hw => rctwin_any c a1 p1 a2 p2 w hn hm (h1.st w hw) (h2.st w hw))) ?_
    rintro _ _ ⟨z1, q1, z2, q2, H1, H2, rfl, hr1, hr2, rfl⟩
    refine WS_back ?_
    refine WS_new hF (by rfl) (y_alloc Tryd.zeroValue24 (by rfl)) (fun bo => ?_)
    refine WS_store hF (us := [.slice _ _ _, .slice _ _ _, .int .i64 _]) (i := 0) (by rfl) (by rfl) Tryd.sizeOf24 (by rfl) (by rfl) (by rfl) (by first | decide | exact Nat.le_of_ble_eq_true rfl | simp) ?_
    refine WS_nil ?_
    refine Then_normal ?_
    refine W_seq ?_
    refine W_region_lit (fun ds => ?_)
    refine WS_det hF (by rfl) (y_loadN (by rfl) Tryd.isAgg24 Tryd.sizeOf24 (Mem.own (us := [.slice _ _ _, .slice _ _ _, .int .i64 _]) 0 (by rfl) (by rfl)) (by rfl)) ?_
    refine WS_det hF (by rfl) (y_callL (by rfl) (by rfl) Tryd.call40 (fun w hw => many_any c z1 q1 z2 q2 w (hG.st w hw) hn hm (NewRow.ints hr1 rfl sbA w hw) (NewRow.ints hr2 rfl sbA w hw))) ?_
    refine WS_det hF (by rfl) (y_move (c := .tuple _) (by rfl)) ?_
    refine WS_det hF (by rfl) (y_extract (c := .int .i64 _) (by rfl) (by rfl)) ?_
    refine WS_det hF (by rfl) (y_extract (c := .int .i64 _) (by rfl) (by rfl)) ?_
    refine WS_det hF (by rfl) (y_assign (c := .int .i64 _) (by rfl)) ?_
    refine WS_det hF (by rfl) (y_assign (c := .int .i64 _) (by rfl)) ?_
    refine WS_nil ?_
    refine Then_normal ?_
    refine W_seq ?_
    refine W_region_lit (fun ds => ?_)
    refine WS_det hF (by rfl) (y_loadN (by rfl) Tryd.isAgg24 Tryd.sizeOf24 (Mem.own (us := [.slice _ _ _, .slice _ _ _, .int .i64 _]) 1 (by rfl) (by rfl)) (by rfl)) ?_
    refine WS_det hF (by rfl) (y_callL (by rfl) (by rfl) Tryd.call41 (fun w hw => rmany_any c a1 p1 a2 p2 w hn hm (h1.st w hw) (h2.st w hw))) ?_
    refine WS_det hF (by rfl) (y_move (c := .tuple _) (by rfl)) ?_
    refine WS_det hF (by rfl) (y_extract (c := .int .i64 _) (by rfl) (by rfl)) ?_
    refine WS_det hF (by rfl) (y_extract (c := .int .i64 _) (by rfl) (by rfl)) ?_
    refine WS_det hF (by rfl) (y_assign (c := .int .i64 _) (by rfl)) ?_
    refine WS_det hF (by rfl) (y_assign (c := .int .i64 _) (by rfl)) ?_
    refine WS_nil ?_
    refine Then_normal ?_
    refine W_seq ?_
    refine W_region_lit (fun ds => ?_)
    refine WS_det hF (by rfl) (y_loadN (by rfl) Tryd.isAgg24 Tryd.sizeOf24 (Mem.own (us := [.slice _ _ _, .slice _ _ _, .int .i64 _]) 0 (by rfl) (by rfl)) (by rfl)) ?_
    refine WS_gen hF (by rfl) (y_callL (by rfl) (by rfl) Tryd.call42 (fun w hw => made_any c z1 q1 z2 q2 w (hG.st w hw) hn hm (NewRow.ints hr1 rfl sbA w hw) (NewRow.ints hr2 rfl sbA w hw))) ?_
    rintro _ G1 ⟨m1, n1, rfl, hm1⟩
    refine WS_back ?_
    refine WS_det hF (by rfl) (y_move (c := .tuple _) (by rfl)) ?_
    refine WS_det hF (by rfl) (y_extract (c := .slice _ _ _) (by rfl) (by rfl)) ?_
    refine WS_det hF (by rfl) (y_extract (c := .int .i64 _) (by rfl) (by rfl)) ?_
    refine WS_det hF (by rfl) (y_assign (c := .slice _ _ _) (by rfl)) ?_
    refine WS_det hF (by rfl) (y_assign (c := .int .i64 _) (by rfl)) ?_
    refine WS_nil ?_
    refine Then_normal ?_
    refine W_seq ?_
    refine W_region_lit (fun ds => ?_)
    refine WS_det hF (by rfl) (y_loadN (by rfl) Tryd.isAgg24 Tryd.sizeOf24 (Mem.own (us := [.slice _ _ _, .slice _ _ _, .int .i64 _]) 1 (by rfl) (by rfl)) (by rfl)) ?_
    refine WS_gen hF (by rfl) (y_callL (by rfl) (by rfl) Tryd.call43 (fun w hw => rmade_any c a1 p1 a2 p2 w hn hm (h1.st w hw) (h2.st w hw))) ?_
    rintro _ G2 ⟨m2, n2, rfl, hm2⟩
    refine WS_back ?_
    refine WS_det hF (by rfl) (y_move (c := .tuple _) (by rfl)) ?_
    refine WS_det hF (by rfl) (y_extract (c := .slice _ _ _) (by rfl) (by rfl)) ?_
    refine WS_det hF (by rfl) (y_extract (c := .int .i64 _) (by rfl) (by rfl)) ?_
    refine WS_det hF (by rfl) (y_assign (c := .slice _ _ _) (by rfl)) ?_
    refine WS_det hF (by rfl) (y_assign (c := .int .i64 _) (by rfl)) ?_
    refine WS_nil ?_
    refine Then_normal ?_
    refine W_seq ?_
    refine W_keep [(1, .pointer _), (2, .bool _), (3, .pointer _), (4, .int .i64 _), (5, .int .i64 _), (6, .int .i64 _), (7, .int .i64 _), (8, .slice _ _ _), (9, .int .i64 _), (10, .slice _ _ _), (11, .int .i64 _)] (by repeat (first | exact trivial | refine ⟨by rfl, ?_⟩)) (fun e => ?_)
    refine W_region_lit (fun ds => ?_)
    refine WS_det hF (by rfl) (y_loadN (by rfl) Tryd.isAgg24 Tryd.sizeOf24 (Mem.own (us := [.slice _ _ _, .slice _ _ _, .int .i64 _]) 0 (by rfl) (by rfl)) (by rfl)) ?_
    refine WS_det hF (by rfl) (y_callL (by rfl) (by rfl) Tryd.call44 (fun w hw => measure_any c z1 q1 z2 q2 w (hG.st w hw) hn hm (NewRow.ints hr1 rfl sbA w hw) (NewRow.ints hr2 rfl sbA w hw))) ?_
    refine WS_det hF (by rfl) (y_move (c := .tuple _) (by rfl)) ?_
    refine WS_det hF (by rfl) (y_extract (c := .int .i64 _) (by rfl) (by rfl)) ?_
    refine WS_det hF (by rfl) (y_extract (c := .int .i64 _) (by rfl) (by rfl)) ?_
    refine WS_det hF (by rfl) (y_assign (c := .int .i64 _) (by rfl)) ?_
    refine WS_det hF (by rfl) (y_assign (c := .int .i64 _) (by rfl)) ?_
    refine WS_nil ?_
    refine Then_normal ?_
    refine W_seq ?_
    refine W_region_lit (fun ds => ?_)
    refine WS_det hF (by rfl) (y_loadN (by rfl) Tryd.isAgg24 Tryd.sizeOf24 (Mem.own (us := [.slice _ _ _, .slice _ _ _, .int .i64 _]) 1 (by rfl) (by rfl)) (by rfl)) ?_
    refine WS_det hF (by rfl) (y_callL (by rfl) (by rfl) Tryd.call45 (fun w hw => rmeasure_any c a1 p1 a2 p2 w hn hm (h1.st w hw) (h2.st w hw))) ?_
    refine WS_det hF (by rfl) (y_move (c := .tuple _) (by rfl)) ?_
    refine WS_det hF (by rfl) (y_extract (c := .int .i64 _) (by rfl) (by rfl)) ?_
    refine WS_det hF (by rfl) (y_extract (c := .int .i64 _) (by rfl) (by rfl)) ?_
    refine WS_det hF (by rfl) (y_assign (c := .int .i64 _) (by rfl)) ?_
    refine WS_det hF (by rfl) (y_assign (c := .int .i64 _) (by rfl)) ?_
    refine WS_nil ?_
    refine Then_normal ?_
    refine W_seq ?_
    refine W_region_lit (fun ds => ?_)
    refine WS_det hF (by rfl) (y_loadN (by rfl) Tryd.isAgg24 Tryd.sizeOf24 (Mem.own (us := [.slice _ _ _, .slice _ _ _, .int .i64 _]) 0 (by rfl) (by rfl)) (by rfl)) ?_
    refine WS_gen hF (by rfl) (y_callL (by rfl) (by rfl) Tryd.call46 (fun w hw => far_any c z1 q1 z2 q2 w (hG.st w hw) hn hm (NewRow.ints hr1 rfl sbA w hw) (NewRow.ints hr2 rfl sbA w hw))) ?_
    rintro _ G3 hh
    unfold FarV at hh
    subst hh
    refine WS_back ?_
    refine WS_det hF (by rfl) (y_move (c := .tuple _) (by rfl)) ?_
    refine WS_det hF (by rfl) (y_extract (c := .int .i64 _) (by rfl) (by rfl)) ?_
    refine WS_det hF (by rfl) (y_extract (c := .int .i64 _) (by rfl) (by rfl)) ?_
    refine WS_det hF (by rfl) (y_extract (c := .int .i64 _) (by rfl) (by rfl)) ?_
    refine WS_det hF (by rfl) (y_assign (c := .int .i64 _) (by rfl)) ?_
    refine WS_det hF (by rfl) (y_assign (c := .int .i64 _) (by rfl)) ?_
    refine WS_det hF (by rfl) (y_assign (c := .int .i64 _) (by rfl)) ?_
    refine WS_nil ?_
    refine Then_normal ?_
    refine W_seq ?_
    refine W_region_lit (fun ds => ?_)
    refine WS_det hF (by rfl) (y_loadN (by rfl) Tryd.isAgg24 Tryd.sizeOf24 (Mem.own (us := [.slice _ _ _, .slice _ _ _, .int .i64 _]) 1 (by rfl) (by rfl)) (by rfl)) ?_
    refine WS_gen hF (by rfl) (y_callL (by rfl) (by rfl) Tryd.call47 (fun w hw => rfar_any c a1 p1 a2 p2 w hn hm (h1.st w hw) (h2.st w hw))) ?_
    rintro _ G4 hh
    unfold FarV at hh
    subst hh
    refine WS_back ?_
    refine WS_det hF (by rfl) (y_move (c := .tuple _) (by rfl)) ?_
    refine WS_det hF (by rfl) (y_extract (c := .int .i64 _) (by rfl) (by rfl)) ?_
    refine WS_det hF (by rfl) (y_extract (c := .int .i64 _) (by rfl) (by rfl)) ?_
    refine WS_det hF (by rfl) (y_extract (c := .int .i64 _) (by rfl) (by rfl)) ?_
    refine WS_det hF (by rfl) (y_assign (c := .int .i64 _) (by rfl)) ?_
    refine WS_det hF (by rfl) (y_assign (c := .int .i64 _) (by rfl)) ?_
    refine WS_det hF (by rfl) (y_assign (c := .int .i64 _) (by rfl)) ?_
    refine WS_nil ?_
    refine Then_normal ?_
    refine W_seq ?_
    refine W_keep [(1, .pointer _), (2, .bool _), (3, .pointer _), (4, .int .i64 _), (5, .int .i64 _), (6, .int .i64 _), (7, .int .i64 _), (8, .slice _ _ _), (9, .int .i64 _), (10, .slice _ _ _), (11, .int .i64 _), (12, .int .i64 _), (13, .int .i64 _), (14, .int .i64 _), (15, .int .i64 _), (16, .int .i64 _), (17, .int .i64 _), (18, .int .i64 _), (19, .int .i64 _), (20, .int .i64 _), (21, .int .i64 _)] (by repeat (first | exact trivial | refine ⟨by rfl, ?_⟩)) (fun e => ?_)
    refine W_region_lit (fun ds => ?_)
    refine WS_det hF (by rfl) (y_move (c := .int .i64 _) (by rfl)) ?_
    refine WS_det hF (by rfl) (y_move (c := .int .i64 _) (by rfl)) ?_
    refine WS_det hF (by rfl) (y_eqlT (by rfl) (by rfl)) ?_
    refine WS_det hF (by rfl) (y_move (c := .bool _) (by rfl)) ?_
    refine WS_det hF (by rfl) (y_move (c := .int .i64 _) (by rfl)) ?_
    refine WS_det hF (by rfl) (y_move (c := .int .i64 _) (by rfl)) ?_
    refine WS_det hF (by rfl) (y_eqlT (by rfl) (by rfl)) ?_
    refine WS_det hF (by rfl) (by first | exact y_pick_t (c := .bool _) (by rfl) (by rfl) | exact y_pick_f (c := .bool _) (by rfl) (by rfl)) ?_
    refine WS_det hF (by rfl) (y_move (c := .bool _) (by rfl)) ?_
    refine WS_det hF (by rfl) (y_move (c := .slice _ _ _) (by rfl)) ?_
    refine WS_det hF (by rfl) (y_move (c := .slice _ _ _) (by rfl)) ?_
    refine WS_det hF (by rfl) (y_callL (by rfl) (by rfl) Tryd.call29 (fun w hw => Ct_eq (sameInts2_any m1 m2 c.mdL.length c.mdL.length n1 n2 c.mdL c.mdL w c.mdL_bd (NewRow.ints hm1 rfl sbA w hw) (NewRow.ints hm2 rfl sbA w hw)) (c' := .bool true) (by simp))) ?_
    refine WS_det hF (by rfl) (by first | exact y_pick_t (c := .bool _) (by rfl) (by rfl) | exact y_pick_f (c := .bool _) (by rfl) (by rfl)) ?_
    refine WS_det hF (by rfl) (y_move (c := .bool _) (by rfl)) ?_
    refine WS_det hF (by rfl) (y_move (c := .int .i64 _) (by rfl)) ?_
    refine WS_det hF (by rfl) (y_move (c := .int .i64 _) (by rfl)) ?_
    refine WS_det hF (by rfl) (y_eqlT (by rfl) (by rfl)) ?_
    refine WS_det hF (by rfl) (by first | exact y_pick_t (c := .bool _) (by rfl) (by rfl) | exact y_pick_f (c := .bool _) (by rfl) (by rfl)) ?_
    refine WS_det hF (by rfl) (y_move (c := .bool _) (by rfl)) ?_
    refine WS_det hF (by rfl) (y_move (c := .int .i64 _) (by rfl)) ?_
    refine WS_det hF (by rfl) (y_move (c := .int .i64 _) (by rfl)) ?_
    refine WS_det hF (by rfl) (y_eqlT (by rfl) (by rfl)) ?_
    refine WS_det hF (by rfl) (by first | exact y_pick_t (c := .bool _) (by rfl) (by rfl) | exact y_pick_f (c := .bool _) (by rfl) (by rfl)) ?_
    refine WS_det hF (by rfl) (y_move (c := .bool _) (by rfl)) ?_
    refine WS_det hF (by rfl) (y_move (c := .int .i64 _) (by rfl)) ?_
    refine WS_det hF (by rfl) (y_move (c := .int .i64 _) (by rfl)) ?_
    refine WS_det hF (by rfl) (y_eqlT (by rfl) (by rfl)) ?_
    refine WS_det hF (by rfl) (by first | exact y_pick_t (c := .bool _) (by rfl) (by rfl) | exact y_pick_f (c := .bool _) (by rfl) (by rfl)) ?_
    refine WS_det hF (by rfl) (y_move (c := .bool _) (by rfl)) ?_
    refine WS_det hF (by rfl) (y_move (c := .int .i64 _) (by rfl)) ?_
    refine WS_det hF (by rfl) (y_move (c := .int .i64 _) (by rfl)) ?_
    refine WS_det hF (by rfl) (y_eqlT (by rfl) (by rfl)) ?_
    refine WS_det hF (by rfl) (by first | exact y_pick_t (c := .bool _) (by rfl) (by rfl) | exact y_pick_f (c := .bool _) (by rfl) (by rfl)) ?_
    refine WS_det hF (by rfl) (y_move (c := .bool _) (by rfl)) ?_
    refine WS_det hF (by rfl) (y_move (c := .int .i64 _) (by rfl)) ?_
    refine WS_det hF (by rfl) (y_move (c := .int .i64 _) (by rfl)) ?_
    refine WS_det hF (by rfl) (y_eqlT (by rfl) (by rfl)) ?_
    refine WS_det hF (by rfl) (by first | exact y_pick_t (c := .bool _) (by rfl) (by rfl) | exact y_pick_f (c := .bool _) (by rfl) (by rfl)) ?_
    refine WS_det hF (by rfl) (y_move (c := .bool _) (by rfl)) ?_
    refine WS_det hF (by rfl) (y_move (c := .int .i64 _) (by rfl)) ?_
    refine WS_det hF (by rfl) (y_move (c := .int .i64 _) (by rfl)) ?_
    refine WS_det hF (by rfl) (y_eqlT (by rfl) (by rfl)) ?_
    refine WS_det hF (by rfl) (by first | exact y_pick_t (c := .bool _) (by rfl) (by rfl) | exact y_pick_f (c := .bool _) (by rfl) (by rfl)) ?_
    refine WS_det hF (by rfl) (y_move (c := .bool _) (by rfl)) ?_
    refine WS_det hF (by rfl) (y_loadN (by rfl) Tryd.isAgg24 Tryd.sizeOf24 (Mem.own (us := [.slice _ _ _, .slice _ _ _, .int .i64 _]) 0 (by rfl) (by rfl)) (by rfl)) ?_
    refine WS_det hF (by rfl) (y_loadN (by rfl) Tryd.isAgg24 Tryd.sizeOf24 (Mem.own (us := [.slice _ _ _, .slice _ _ _, .int .i64 _]) 1 (by rfl) (by rfl)) (by rfl)) ?_
    refine WS_det hF (by rfl) (y_callL (by rfl) (by rfl) Tryd.call15 (fun w hw => Ct_eq (rcsame_any c z1 q1 z2 q2 c a1 p1 a2 p2 w hn hm (NewRow.ints hr1 rfl sbA w hw) (NewRow.ints hr2 rfl sbA w hw) (h1.st w hw) (h2.st w hw)) (c' := .bool true) (by simp))) ?_
    refine WS_det hF (by rfl) (by first | exact y_pick_t (c := .bool _) (by rfl) (by rfl) | exact y_pick_f (c := .bool _) (by rfl) (by rfl)) ?_
    refine WS_det hF (by rfl) (y_assign (c := .bool _) (by rfl)) ?_
    refine WS_nil ?_
    refine Then_normal ?_
    refine W_ret ?_
    refine Fin_ret [.bool _] [] Tryd.results8 ⟨by rfl, trivial⟩ HSub.nil ?_
    rfl
end Go.Proofs.YtjekjehgmljbgaaDoor.T

/- The arguments of the laws, opened: what all layers use. -/
namespace Go.Proofs.YtjekjehgmljbgaaDoor.T
open Go.RowKit Go.Proofs Go.Eng Go.ChangeShapes Go.WideShapes Go.ChangeAt Go.Joins Go.Deep
set_option maxRecDepth 100000
set_option maxHeartbeats 1000000
set_option linter.unusedVariables false
section
variable {H : Type} {enc : TypeId × Value → H} {w : World} {base : Nat} {spare : Nat → Bool} {held : Bool}
theorem open_intsT {fuel : Nat} {v : Value} {y : DataW H × List MemPlace} (h : DataW.trod enc Tryd.prog w base spare held fuel 22 [v] = some y) (hs : ∀ b, spare b = true) : ∃ a n cap xs, v = .slice a n cap ∧ Ints w a n cap xs := by
  rcases open_ints Tryd.underlying22 Tryd.underlying3 (by kernel_rfl) h with ⟨hcs, _⟩ | ⟨x, l, c, zs, hcs, _, hl, hm, hz, _, hcell, hwz⟩
  · simp only [List.cons.injEq, and_true] at hcs
    subst hcs
    exact ⟨_, _, _, [], rfl, Ints.nil _ _ _⟩
  · simp only [List.cons.injEq, and_true] at hcs
    subst hcs
    rw [hs, if_pos rfl] at hz
    refine ⟨_, _, _, zs.take l, rfl, by simp; omega, hl, fun k hk => ?_⟩
    have hc := hcell k (by omega)
    obtain ⟨b, off, spot⟩ := x
    have hspot : spot = none := by
      have := World.cell?_spot (hcell 0 (by omega))
      simpa [Addr.add] using this
    subst hspot
    have ha : (⟨b, off, none⟩ : Addr).add k = ⟨b, off + k * 1, none⟩ := by unfold Addr.add; split <;> simp_all
    rw [ha] at hc
    refine ⟨b, off, rfl, ?_, trivial⟩
    rw [hc]
    simp [List.getD_eq_getElem?_getD, hk]
end
theorem own : ownKnob Tryd.prog.godebug = none := by kernel_rfl
theorem laidOut : laidOutB Tryd.prog = true := by kernel_rfl
end Go.Proofs.YtjekjehgmljbgaaDoor.T

/- The arguments of the laws of cans, opened; the table of checks, where it was laid. -/
namespace Go.Proofs.YtjekjehgmljbgaaDoor.T
open Go.RowKit Go.Proofs Go.Eng Go.ChangeShapes Go.WideShapes Go.ChangeAt Go.Joins Go.Deep
set_option maxRecDepth 100000
set_option maxHeartbeats 1000000
set_option linter.unusedVariables false
section
variable {H : Type} {enc : TypeId × Value → H} {w : World} {base : Nat} {spare : Nat → Bool} {held : Bool}
theorem open_cans {r : Reach} {b0 : Nat} {v : Value} {d : DataW H} {p : List MemPlace} (hv : Value.okWide Tryd.prog w r b0 24 v) (h : DataW.Trod enc Tryd.prog w base spare held 24 v d p) (hs : ∀ b, spare b = true) :
    ∃ (c : Cn) (a1 : Option Addr) (p1 : Nat) (a2 : Option Addr) (p2 : Nat), v = .agg #[.slice a1 c.n p1, .slice a2 c.inn.length p2, .int .i64 c.st] ∧ Ints w a1 c.n p1 c.sz ∧ Ints w a2 c.inn.length p2 c.inn := by
  obtain ⟨v0, v1, v2, y0, y1, y2, n, rfl, _, _, h0, h1, h2⟩ := open_agg3 Tryd.underlying24 (by kernel_rfl) (by kernel_rfl) hv h
  obtain ⟨a1, m1, p1, xs, rfl, hx⟩ := open_intsT h0 hs
  obtain ⟨a2, m2, p2, ys, rfl, hy⟩ := open_intsT h1 hs
  obtain ⟨l, hl, _, _⟩ := DataW.trod_int Tryd.underlying3 h2
  simp only [List.cons.injEq, and_true] at hl
  subst hl
  have := hx.len
  subst this
  have := hy.len
  subst this
  exact ⟨⟨xs, ys, l⟩, a1, p1, a2, p2, rfl, hx, hy⟩
end
/-! ### The table of checks -/
def laidC : List (String × DataW Unit) := [("oilcake/can.checks", Rows.laid_oilcake_can_checks)]
theorem gChecks : Tryd.prog.globalNamed "oilcake/can.checks" = some 0 := by kernel_rfl
theorem tChecks : (Tryd.prog.globals[0]?).map (·.type) = some 107 := by kernel_rfl
theorem door_met (os : Os) (args : Array Value) : laidMetH Tryd.prog laidC ((World.doorLaid Tryd.prog 400 os).forCall (fun _ _ => 0) ⟨#[], args, []⟩).memory :=
  laidMetH_of_parts3 (fuel := 8) (laidMet_of_run' 8 (by kernel_rfl) (by kernel_rfl)) (by kernel_rfl) (by kernel_rfl)
theorem cellsChk : Tryd.prog.cellsOf 106 = 1 := by kernel_rfl
theorem cellsChk3 : Tryd.prog.cellsOf 107 = 3 := by kernel_rfl
theorem cellsFn : Tryd.prog.cellsOf 28 = 1 := by kernel_rfl
theorem chk_fn {W : World} {sp : Nat → Bool} {fuel : Nat} {v : Value} {x : DataW (List UInt8) × List MemPlace} {b : UInt8} {r : List UInt8} {f0 : FuncId}
    (hone : ((List.range Tryd.prog.funcs.size).filter fun f => (Tryd.prog.funcs[f]?).any (·.name.toUTF8.data.toList == b :: r)) = [f0])
    (h : DataW.trod (funcToken Tryd.prog) Tryd.prog W 0 sp true fuel 106 [v] = some x) (hx : x.1 = .agg [.held (b :: r)]) : v = .func (.func f0) #[] #[] := by
  obtain ⟨y0, n, rfl, _, h0⟩ := trod_struct1 Tryd.underlying106 h
  obtain ⟨y, q⟩ := y0
  simp only [DataW.agg.injEq, List.cons.injEq, and_true] at hx
  subst hx
  simp only [cellsFn, List.drop_zero, List.take_succ_cons, List.take_zero] at h0
  exact func_of_trod Tryd.underlying28 hone h0
theorem of_laid {W : World} (h : laidMetH Tryd.prog laidC W) : Gv W := by
  obtain ⟨g, t, cs, fuel, p, hg, ht, hv, hd⟩ := h.funcs (List.mem_singleton.2 rfl)
  obtain rfl := Option.some.inj (gChecks.symm.trans hg)
  obtain rfl := Option.some.inj (tChecks.symm.trans ht)
  have hd' : DataW.trod (funcToken Tryd.prog) Tryd.prog W 0 (fun _ => true) true fuel 107 cs.toList = some (.agg [.agg [.held [111, 105, 108, 99, 97, 107, 101, 47, 99, 97, 110, 46, 99, 104, 101, 99, 107, 115, 36, 49]], .agg [.held [111, 105, 108, 99, 97, 107, 101, 47, 99, 97, 110, 46, 99, 104, 101, 99, 107, 115, 36, 50]], .agg [.held [111, 105, 108, 99, 97, 107, 101, 47, 99, 97, 110, 46, 99, 104, 101, 99, 107, 115, 36, 51]]], p) := hd
  obtain ⟨xs, m1, rfl, hx1, hlen, hn3, hel⟩ := DataW.trod_array Tryd.underlying107 hd'
  simp only [Prod.mk.injEq, DataW.agg.injEq] at hx1
  rw [cellsChk3] at hlen
  have hc := fun i => World.var?_cell hg hv i
  obtain ⟨cl⟩ := cs
  match xs, hn3, hx1, cl, hlen, hel, hc with
  | [x0, x1, x2], _, hx1, [c0, c1, c2], _, hel, hc =>
    simp only [List.map_cons, List.map_nil, List.cons.injEq, and_true] at hx1
    have e0 := hel 0 (by decide)
    have e1 := hel 1 (by decide)
    have e2 := hel 2 (by decide)
    simp only [cellsChk, Nat.zero_mul, Nat.one_mul, Nat.mul_one, List.drop_zero, List.drop_succ_cons, List.take_succ_cons, List.take_zero, List.getElem?_cons_zero, List.getElem?_cons_succ] at e0 e1 e2
    obtain rfl := chk_fn (f0 := 225) (by kernel_rfl) e0 hx1.1.1.symm
    obtain rfl := chk_fn (f0 := 226) (by kernel_rfl) e1 hx1.1.2.1.symm
    obtain rfl := chk_fn (f0 := 227) (by kernel_rfl) e2 hx1.1.2.2.symm
    exact ⟨hc 0, hc 1, hc 2, trivial⟩
end Go.Proofs.YtjekjehgmljbgaaDoor.T

/- The arguments of the laws, opened. -/
namespace Go.Proofs.YtjekjehgmljbgaaDoor.T
open Go.RowKit Go.Proofs Go.Eng Go.ChangeShapes Go.WideShapes Go.ChangeAt Go.Joins
set_option maxRecDepth 100000
set_option maxHeartbeats 1000000
set_option linter.unusedVariables false

section
variable {H : Type} {enc : TypeId × Value → H} {w : World} {base : Nat} {spare : Nat → Bool} {held : Bool}
end
end Go.Proofs.YtjekjehgmljbgaaDoor.T

/- The arguments of the laws of logs, opened. -/
namespace Go.Proofs.YtjekjehgmljbgaaDoor.T
open Go.RowKit Go.Proofs Go.Eng Go.ChangeShapes Go.WideShapes Go.ChangeAt Go.Joins Go.Deep
set_option maxRecDepth 100000
set_option maxHeartbeats 1000000
set_option linter.unusedVariables false

section
variable {H : Type} {enc : TypeId × Value → H} {w : World} {base : Nat} {spare : Nat → Bool} {held : Bool}
end
end Go.Proofs.YtjekjehgmljbgaaDoor.T

namespace Go.Proofs.YtjekjehgmljbgaaDoor
open Go.RowKit Go.Proofs Go.Eng Go.ChangeShapes Go.WideShapes Go.ChangeAt Go.Joins T
set_option maxRecDepth 100000
set_option maxHeartbeats 1000000
set_option linter.unusedVariables false

theorem walkCanReaches (v0 : Value) (W : World) (hG : Gv W) (h0 : ∃ (c0 : Cn) (a0 : Option Addr) (p0 : Nat) (b0 : Option Addr) (q0 : Nat), v0 = .agg #[.slice a0 c0.n p0, .slice b0 c0.inn.length q0, .int .i64 c0.st] ∧ Ints W a0 c0.n p0 c0.sz ∧ Ints W b0 c0.inn.length q0 c0.inn) :
    Calls Tryd.prog 8 #[v0] W fun e W' => e = .returned (.bool true) ∧ Below W.heap.size W W' := by
  obtain ⟨c0, a0, p0, b0, q0, rfl, hx0, hy0⟩ := h0
  refine Calls.mono (canReaches_any c0 a0 p0 b0 q0 W hG hx0 hy0) ?_
  rintro e W' ⟨v, rfl, Hn, hb, _, rfl⟩
  exact ⟨rfl, hb⟩

theorem liftCanReaches (os : Os) (started : os.Started) (H : Type) (enc : TypeId × Value → H) :
    ReturnsInHanded {} Tryd.checked os 8 .any (fun w args => (Rows.canReachesSpec.pre enc Tryd.prog Tryd.f8 [] false w args ∧ laidMetH Tryd.prog laidC w) ∧ sizedMet enc Tryd.prog Tryd.f8 (OpenSpec.ofChange Rows.canReachesSpec) false w args) (Rows.canReachesSpec.post enc Tryd.prog Tryd.f8 false true false false) := by
  refine returnsInHanded_of_change_and (C := Tryd.checked) (X := fun w _ => laidMetH Tryd.prog laidC w) (fun _ _ _ hh h => h.of_heap hh) own started (by kernel_rfl) Tryd.func8
    (ChangeSpec.witness_shaped (enc := enc) (C := Tryd.checked) (os := os) (X := fun w _ => laidMetH Tryd.prog laidC w) false (World.doorLaid Tryd.prog 400 os) #[.agg #[.slice none 0 0, .slice none 0 0, .int .i64 0]] 8 rfl (World.shaped_of_RefB (by kernel_rfl) (by kernel_rfl)) (by kernel_rfl) (by kernel_rfl) (by kernel_rfl) (door_met os _)) ?_
  intro W base args ds gs before hval0 hW _ _ hL _
  have hval : ∀ (j : Nat) t v, Tryd.f8.params[j]? = some t → args[j]? = some v → Value.okWide Tryd.prog W .any base t v := hval0
  have hW' := hW
  obtain ⟨p, q, hA0, hV, rfl, hfz, hnd⟩ := hW
  have hA : DataW.TrodAll enc Tryd.prog W 0 (fun _ => true) true Tryd.f8.params.toList args.toList ds p := hA0
  rw [Tryd.params8] at hA hval
  obtain ⟨v0, vs0, d0, ds0, p0, q0, hargs, rfl, rfl, h0, r0⟩ := trodAll_cons hA
  obtain ⟨rfl, rfl, rfl⟩ := trodAll_nil r0
  obtain rfl : args = #[v0] := by cases args; simp_all
  obtain ⟨rfl, rfl⟩ := trodVars_none hV
  have lt0 : ∀ x ∈ p0, x.block < W.heap.size := by obtain ⟨m, hm⟩ := h0; exact DataW.trod_lt m _ _ _ hm
  have o0 : ∃ (c0 : Cn) (a0 : Option Addr) (p0 : Nat) (b0 : Option Addr) (q0 : Nat), v0 = .agg #[.slice a0 c0.n p0, .slice b0 c0.inn.length q0, .int .i64 c0.st] ∧ Ints W a0 c0.n p0 c0.sz ∧ Ints W b0 c0.inn.length q0 c0.inn := open_cans (hval 0 _ v0 rfl rfl) h0 (fun _ => rfl)
  clear hA0 hval0
  refine (walkCanReaches v0 W (of_laid hL) o0).mono fun e W' ⟨he, bel⟩ => ?_
  subst he
  exact ⟨_, rfl, _, _, _, [], _, [], hW', trodAll_mk1 (shut_bool Tryd.underlying4 _),
    (trodAll_cons_mk (Below.trod laidOut (by kernel_rfl) (of_decide_eq_true (by kernel_rfl)) h0 bel lt0) trodAll_mk0), rfl, bel.frame _, fun h => by cases h⟩

theorem canReachesH : Rows.CanReachesSaid :=
  OpenClaim.holds_of_wide 8 Tryd.f8 rfl rfl rfl rfl rfl rfl rfl ⟨rfl, rfl, rfl, rfl, rfl⟩ rfl rfl rfl rfl rfl (by kernel_rfl) Tryd.func8 (by kernel_rfl)
    (of_decide_eq_true (by kernel_rfl)) (by unfold Func.isWrapper; first | (rw [if_pos (by decide +kernel)]; kernel_rfl) | (rw [if_neg (by decide +kernel)]; exact ⟨rfl, rfl⟩))
    (fun os started H enc _ => liftCanReaches os started H enc)
theorem canReaches : Rows.CanReachesCardSaid :=
  Claim7.holds_tied_plain_at .later [] [.funcs] true (true, "4f976da4b806c04e14c28f8bda1ba53d549989da811836dbb6df42d861d3a136") false
    canReachesH (fun _ h => by cases h) (by kernel_rfl) (fun _ h => by cases h) canReaches_row_tie rfl ⟨rfl, rfl⟩ (by kernel_rfl) rfl
    (fun f fn hf hfn => by
      obtain rfl : f = 8 := Option.some.inj ((show Tryd.prog.funcNamed "oilcake/oilcakelaw08.CanReaches" = some 8 by kernel_rfl).symm.trans hf) |>.symm
      obtain rfl : fn = Tryd.f8 := (Option.some.inj (Tryd.func8.symm.trans hfn)).symm
      exact ⟨by kernel_rfl, fun j t ht => by
        rw [Tryd.params8] at ht
        have hm : t ∈ [24] := by simpa using Array.mem_of_getElem? ht
        have hall : ([24].all fun u => !Tryd.prog.wantsStandIn u) = true := by kernel_rfl
        exact (show Tryd.prog.wantsStandIn t = false by simpa using List.all_eq_true.1 hall t hm)⟩)
    (by kernel_rfl)
end Go.Proofs.YtjekjehgmljbgaaDoor
