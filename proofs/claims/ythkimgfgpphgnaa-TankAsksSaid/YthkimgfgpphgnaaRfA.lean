/- The reference's logs: the walks, first part. -/
import Derived.Test.YthkimgfgpphgnaaTkZ
namespace Go.Proofs.Ythkimgfgpphgnaa.T
open Go.RowKit Go.Proofs Go.Eng
set_option maxRecDepth 100000
set_option linter.unusedVariables false
set_option linter.unusedSimpArgs false



theorem both_any (a b c d : Int) (w : World) :
    Ct Try.prog 107 #[.agg #[.int .i64 a, .int .i64 b], .agg #[.int .i64 c, .int .i64 d]] w fun v _ => v = .agg #[.int .i64 (max a c), .int .i64 (min b d)] := by
  have hF := wide_wide
  refine Ct_start (args := [_, _]) Try.func107 (by rfl) Try.ntmps107 (by rfl) ?_
  refine W_seq ?_
  refine W_region_lit (fun ds => ?_)
  refine WS_new hF (by rfl) (y_box (by rfl)) (fun b1 => ?_)
  refine WS_new hF (by rfl) (y_box (by rfl)) (fun b2 => ?_)
  refine WS_new hF (by rfl) (y_alloc Try.zeroValue26 (by rfl)) (fun b3 => ?_)
  refine WS_nil ?_
  refine Then_normal ?_
  refine W_seq ?_
  refine W_region_lit (fun ds => ?_)
  refine WS_det hF (by rfl) (y_fieldAddr (by rfl) fa26_0) ?_
  refine WS_det hF (by rfl) (y_load1 (by rfl) Try.isAgg3 (Mem.own1 2 (by rfl) (by rfl))) ?_
  refine WS_det hF (by rfl) (y_fieldAddr (by rfl) fa26_0) ?_
  refine WS_det hF (by rfl) (y_load1 (by rfl) Try.isAgg3 (Mem.own1 1 (by rfl) (by rfl))) ?_
  refine WS_det hF (by rfl) (y_max (by rfl) (by rfl)) ?_
  refine WS_det hF (by rfl) (y_fieldAddr (by rfl) fa26_1) ?_
  refine WS_det hF (by rfl) (y_load1 (by rfl) Try.isAgg3 (Mem.own1 2 (by rfl) (by rfl))) ?_
  refine WS_det hF (by rfl) (y_fieldAddr (by rfl) fa26_1) ?_
  refine WS_det hF (by rfl) (y_load1 (by rfl) Try.isAgg3 (Mem.own1 1 (by rfl) (by rfl))) ?_
  refine WS_det hF (by rfl) (y_min (by rfl) (by rfl)) ?_
  refine WS_det hF (by rfl) (y_buildL bd26_0_1 (by rfl)) ?_
  refine WS_store hF (i := 0) (by rfl) (by rfl) Try.sizeOf26 (by rfl) (by rfl) (by rfl) (by first | decide | exact Nat.le_of_ble_eq_true rfl | simp) ?_
  refine WS_nil ?_
  refine Then_normal ?_
  refine W_ret ?_
  refine Fin_ret [_] [] Try.results107 ⟨lvN (by rfl) Try.isAgg26 Try.sizeOf26 (Mem.own (us := [.int .i64 _, .int .i64 _]) 0 (by rfl) (by rfl)) (by rfl), trivial⟩ HSub.nil ?_
  rfl
theorem none_any (a b : Int) (w : World) :
    Ct Try.prog 117 #[.agg #[.int .i64 a, .int .i64 b]] w fun v _ => v = .bool (decide (b < a)) := by
  have hF := wide_wide
  refine Ct_start (args := [_]) Try.func117 (by rfl) Try.ntmps117 (by rfl) ?_
  refine W_seq ?_
  refine W_region_lit (fun ds => ?_)
  refine WS_new hF (by rfl) (y_box (by rfl)) (fun b1 => ?_)
  refine WS_det hF (by rfl) (y_assign (c := .bool _) (by rfl)) ?_
  refine WS_nil ?_
  refine Then_normal ?_
  refine W_seq ?_
  refine W_region_lit (fun ds => ?_)
  refine WS_det hF (by rfl) (y_fieldAddr (by rfl) fa26_0) ?_
  refine WS_det hF (by rfl) (y_load1 (by rfl) Try.isAgg3 (Mem.own1 0 (by rfl) (by rfl))) ?_
  refine WS_det hF (by rfl) (y_fieldAddr (by rfl) fa26_1) ?_
  refine WS_det hF (by rfl) (y_load1 (by rfl) Try.isAgg3 (Mem.own1 0 (by rfl) (by rfl))) ?_
  refine WS_det hF (by rfl) (y_gtr (by rfl) (by rfl)) ?_
  refine WS_det hF (by rfl) (y_assign (c := .bool _) (by rfl)) ?_
  refine WS_nil ?_
  refine Then_normal ?_
  refine W_ret ?_
  refine Fin_ret [.bool _] [] Try.results117 ⟨by rfl, trivial⟩ HSub.nil ?_
  rfl
theorem all_any (l : Lg) (a : Option Addr) (cap : Nat) (ae : Option Addr) (cape : Nat) (w : World) (hok : l.tk.Ok) (hn : l.tk.n ≤ 1000000) (hx : Ints w a l.tk.n cap l.tk.pints) (he : Ens w ae l.es.length cape l.es) :
    Ct Try.prog 130 #[.agg #[.slice a l.tk.n cap, .int .i64 l.tk.leak, .int .i64 l.tk.foot, .int .i64 l.start.lo, .int .i64 l.start.hi, .slice ae l.es.length cape]] w fun v _ => v = .agg l.tk.all.cells.toArray := by
  have := hok.n2
  have hF := wide_wide
  refine Ct_start (args := [_]) Try.func130 (by rfl) Try.ntmps130 (by rfl) ?_
  refine W_seq ?_
  refine W_region_lit (fun ds => ?_)
  refine WS_new hF (by rfl) (y_box (by rfl)) (fun b1 => ?_)
  refine WS_new hF (by rfl) (y_alloc Try.zeroValue26 (by rfl)) (fun b2 => ?_)
  refine WS_nil ?_
  refine Then_normal ?_
  refine W_seq ?_
  refine W_region_lit (fun ds => ?_)
  refine WS_det hF (by rfl) (y_fieldAddr (by rfl) fa46_0) ?_
  refine WS_det hF (by rfl) (y_loadN (by rfl) Try.isAgg24 Try.sizeOf24 (Mem.own (us := [.slice _ _ _, .int .i64 _, .int .i64 _]) 1 (by rfl) (by rfl)) (by rfl)) ?_
  refine WS_det hF (by rfl) (y_callL (by rfl) (by rfl) Try.call56 (fun w hw => full_any l.tk a cap w hn (by omega) (hx.st w hw))) ?_
  refine WS_det hF (by rfl) (y_buildL bd26_0_1 (by rfl)) ?_
  refine WS_store hF (i := 0) (by rfl) (by rfl) Try.sizeOf26 (by rfl) (by rfl) (by rfl) (by first | decide | exact Nat.le_of_ble_eq_true rfl | simp) ?_
  refine WS_nil ?_
  refine Then_normal ?_
  refine W_ret ?_
  refine Fin_ret [_] [] Try.results130 ⟨lvN (by rfl) Try.isAgg26 Try.sizeOf26 (Mem.own (us := [.int .i64 _, .int .i64 _]) 0 (by rfl) (by rfl)) (by rfl), trivial⟩ HSub.nil ?_
  rfl
theorem leak_any (l : Lg) (a : Option Addr) (cap : Nat) (ae : Option Addr) (cape : Nat) (i : Nat) (m : Int) (w : World) (hok : l.Ok) (hn : l.tk.n ≤ 1000000) (hx : Ints w a l.tk.n cap l.tk.pints) (he : Ens w ae l.es.length cape l.es) (hi : i < l.es.length) (hi0 : 0 < i) (hm : m = (i : Int)) :
    Ct Try.prog 113 #[.agg #[.slice a l.tk.n cap, .int .i64 l.tk.leak, .int .i64 l.tk.foot, .int .i64 l.start.lo, .int .i64 l.start.hi, .slice ae l.es.length cape], .int .i64 m] w fun v _ => v = .int .i64 (l.drip i) := by
  subst hm
  have hd := hok.drip_bd hi
  have h12 := hok.n12
  obtain ⟨b, o, rfl⟩ := he.adr (by omega)
  have e1 : At w b (o + i * 4) (l.e i).cells := he.at hi
  have e0 : At w b (o + (i - 1) * 4) (l.e (i - 1)).cells := he.at (k := i - 1) (by omega)
  have d1 := hok.day i hi
  have d0 := hok.day (i - 1) (by omega)
  rw [Lg.drip, if_neg (by omega)] at hd ⊢
  have hF := wide_wide
  refine Ct_start (args := [_, _]) Try.func113 (by rfl) Try.ntmps113 (by rfl) ?_
  refine W_seq ?_
  refine W_region_lit (fun ds => ?_)
  refine WS_new hF (by rfl) (y_box (by rfl)) (fun b1 => ?_)
  refine WS_det hF (by rfl) (y_assign (c := .int .i64 _) (by rfl)) ?_
  refine WS_nil ?_
  refine Then_normal ?_
  refine W_seq ?_
  refine W_draw0 hF Trymixed [] (by decide +kernel) (fun ds => ?_)
  refine P_det (by rfl) (Over_nil (y_fieldAddr (by rfl) fa46_0)) ?_
  refine P_det (by rfl) (Over_nil (y_fieldAddr (by rfl) fa24_1)) ?_
  refine P_det (by rfl) (Over_nil (y_load1 (by rfl) Try.isAgg3 (Mem.own1 0 (by rfl) (by rfl)))) ?_
  refine P_det (by rfl) (Over_nil (y_fieldAddr (by rfl) fa46_2)) ?_
  refine P_det (by rfl) (Over_nil (y_load1 (by rfl) Try.isAgg44 (Mem.own1 0 (by rfl) (by rfl)))) ?_
  refine P_det (by rfl) (Over_nil (y_move (c := .int .i64 _) (by rfl))) ?_
  refine P_det (by rfl) (Over_nil (y_index (k := i) (by rfl) (by rfl) (by first | rfl | omega) (by first | decide | omega) Try.runUnderlying44 Try.sizeOf48)) ?_
  refine P_det (by rfl) (Over_nil (y_fieldAddr (by rfl) fa48_0)) ?_
  refine P_det (by rfl) (Over_nil (y_load1 (by rfl) Try.isAgg3 (by first | exact Mem.old1 (by assumption) | exact Mem.oldAt1 (by assumption) (by rfl) | exact Mem.old (by assumption) | exact Mem.oldAtL1 (by assumption) (by rfl) (by rfl)))) ?_
  refine P_det (by rfl) (Over_nil (y_fieldAddr (by rfl) fa46_2)) ?_
  refine P_det (by rfl) (Over_nil (y_load1 (by rfl) Try.isAgg44 (Mem.own1 0 (by rfl) (by rfl)))) ?_
  refine P_det (by rfl) (Over_nil (y_move (c := .int .i64 _) (by rfl))) ?_
  refine P_det (by rfl) (Over_nil (y_sub (by rfl) (by rfl) (by unfold I64; omega))) ?_
  refine P_det (by rfl) (Over_nil (y_index (k := i - 1) (by rfl) (by rfl) (by first | rfl | omega) (by first | decide | omega) Try.runUnderlying44 Try.sizeOf48)) ?_
  refine P_det (by rfl) (Over_nil (y_fieldAddr (by rfl) fa48_0)) ?_
  refine P_det (by rfl) (Over_nil (y_load1 (by rfl) Try.isAgg3 (by first | exact Mem.old1 (by assumption) | exact Mem.oldAt1 (by assumption) (by rfl) | exact Mem.old (by assumption) | exact Mem.oldAtL1 (by assumption) (by rfl) (by rfl)))) ?_
  refine P_det (by rfl) (Over_nil (y_sub (by rfl) (by rfl) (by unfold I64; omega))) ?_
  refine P_det (by rfl) (Over_nil (y_mul (by rfl) (by rfl) (by unfold I64; omega))) ?_
  refine P_det (by rfl) (Over_nil (y_assign (c := .int .i64 _) (by rfl))) ?_
  refine PW_end (by rfl) ?_
  refine OverAll_nil ?_
  rintro -
  refine Then_normal ?_
  refine W_ret ?_
  refine Fin_ret [.int .i64 _] [] Try.results113 ⟨by rfl, trivial⟩ HSub.nil ?_
  rfl
theorem entry_any (l : Lg) (a : Option Addr) (cap : Nat) (ae : Option Addr) (cape : Nat) (x : En) (day : Int) (w : World) (hok : l.tk.Ok) (hn : l.tk.n ≤ 1000000) (hx : Ints w a l.tk.n cap l.tk.pints) (he : Ens w ae l.es.length cape l.es) :
    Ct Try.prog 127 #[.agg #[.slice a l.tk.n cap, .int .i64 l.tk.leak, .int .i64 l.tk.foot], .agg x.cells.toArray, .int .i64 day] w fun v _ => v = .bool (l.tk.entB day x) := by
  have := hok.n2
  have hh : l.tk.entB day x = (inB day 3652 [x.day] && inB 1 3 [x.kind] && (inB 0 (l.tk.most x.kind) [x.size.lo, x.size.hi] && decide (x.size.lo ≤ x.size.hi))) := rfl
  rw [hh]
  have hF := wide_wide
  refine Ct_start (args := [_, _, _]) Try.func127 (by rfl) Try.ntmps127 (by rfl) ?_
  refine W_seq ?_
  refine W_region_lit (fun ds => ?_)
  refine WS_new hF (by rfl) (y_box (by rfl)) (fun b1 => ?_)
  refine WS_new hF (by rfl) (y_box (by rfl)) (fun b2 => ?_)
  refine WS_det hF (by rfl) (y_assign (c := .bool _) (by rfl)) ?_
  refine WS_nil ?_
  refine Then_normal ?_
  refine W_seq ?_
  refine W_seq ?_
  refine W_region_lit (fun ds => ?_)
  refine WS_det hF (by rfl) (y_fieldAddr (by rfl) fa48_0) ?_
  refine WS_det hF (by rfl) (y_load1 (by rfl) Try.isAgg3 (Mem.own1 0 (by rfl) (by rfl))) ?_
  refine WS_det hF (by rfl) (y_move (c := .int .i64 _) (by rfl)) ?_
  refine WS_det hF (by rfl) (y_callL (by rfl) (by rfl) Try.call68 (fun w hw => within_any _ _ _ w)) ?_
  refine WS_det hF (by rfl) (y_not (by rfl)) ?_
  refine WS_nil ?_
  refine Then_normal ?_
  refine W_cond (by rfl) (fun c1 => ?_) (fun c1 => ?_)
  ·
    try simp only [Bool.not_eq_true', Bool.not_eq_false', decide_eq_true_eq, decide_eq_false_iff_not, ne_eq, Classical.not_not, Int.not_lt, Int.not_le] at c1
    refine W_seq ?_
    refine W_region_lit (fun ds => ?_)
    refine WS_det hF (by rfl) (y_assign (c := .bool _) (by rfl)) ?_
    refine WS_nil ?_
    refine Then_normal ?_
    refine W_ret ?_
    refine Then_ret ?_
    refine Fin_ret [.bool _] [] Try.results127 ⟨by rfl, trivial⟩ HSub.nil ?_
    show Value.bool _ = _
    first
      | (rw [c1]; rfl)
      | (rw [c1, show inB 1 3 [x.kind] = true from inB1.2 (by omega)]; unfold Tk.most; rw [if_neg (by omega)]; rfl)
      | (rw [c1, show inB 1 3 [x.kind] = true from inB1.2 (by omega)]; unfold Tk.most; rw [if_pos (by omega)]; rfl)
      | (rw [show inB 1 3 [x.kind] = false from inB1f.2 (by omega), Bool.and_false]; rfl)
  ·
    try simp only [Bool.not_eq_true', Bool.not_eq_false', decide_eq_true_eq, decide_eq_false_iff_not, ne_eq, Classical.not_not, Int.not_lt, Int.not_le] at c1
    refine W_skip ?_
    refine Then_normal ?_
    refine W_seq ?_
    refine W_seq ?_
    refine W_region_lit (fun ds => ?_)
    refine WS_det hF (by rfl) (y_fieldAddr (by rfl) fa48_1) ?_
    refine WS_det hF (by rfl) (y_load1 (by rfl) Try.isAgg3 (Mem.own1 0 (by rfl) (by rfl))) ?_
    refine WS_nil ?_
    refine Then_normal ?_
    refine W_block ?_
    refine W_seq ?_
    refine W_seq ?_
    refine W_region_lit (fun ds => ?_)
    refine WS_det hF (by rfl) (y_eql (by rfl) (by rfl)) ?_
    refine WS_det hF (by rfl) (y_assign (c := .bool _) (by rfl)) ?_
    refine WS_nil ?_
    refine Then_normal ?_
    refine W_cond (by rfl) (fun c4 => ?_) (fun c4 => ?_)
    ·
      try simp only [Bool.not_eq_true', Bool.not_eq_false', decide_eq_true_eq, decide_eq_false_iff_not, ne_eq, Classical.not_not, Int.not_lt, Int.not_le] at c4
      refine W_skip ?_
      refine Then_normal ?_
      refine W_cond (by rfl) (fun c4 => ?_) (fun c4 => ?_)
      ·
        try simp only [Bool.not_eq_true', Bool.not_eq_false', decide_eq_true_eq, decide_eq_false_iff_not, ne_eq, Classical.not_not, Int.not_lt, Int.not_le] at c4
        refine W_seq ?_
        refine W_draw0 hF Trymixed [] (by decide +kernel) (fun ds => ?_)
        refine P_det (by rfl) (Over_nil (y_fieldAddr (by rfl) fa48_2)) ?_
        refine P_det (by rfl) (Over_nil (y_loadN (by rfl) Try.isAgg26 Try.sizeOf26 (Mem.own (us := [.int .i64 _, .int .i64 _]) 0 (by rfl) (by rfl)) (by rfl))) ?_
        refine P_det (by rfl) (Over_nil (y_loadN (by rfl) Try.isAgg24 Try.sizeOf24 (Mem.own (us := [.slice _ _ _, .int .i64 _, .int .i64 _]) 1 (by rfl) (by rfl)) (by rfl))) ?_
        refine P_det (by rfl) (Over_nil (y_callL (by rfl) (by rfl) Try.call56 (fun w hw => full_any l.tk a cap w hn (by omega) (hx.st w hw)))) ?_
        refine P_det (by rfl) (Over_nil (y_callL (by rfl) (by rfl) Try.call75 (fun w hw => spanned_any _ _ _ w))) ?_
        refine P_det (by rfl) (Over_nil (y_assign (c := .bool _) (by rfl))) ?_
        refine PW_end (by rfl) ?_
        refine OverAll_nil ?_
        rintro -
        refine Then_normal ?_
        refine W_ret ?_
        refine InB_ret ?_
        refine Then_ret ?_
        refine Fin_ret [.bool _] [] Try.results127 ⟨by rfl, trivial⟩ HSub.nil ?_
        show Value.bool _ = _
        first
          | (rw [c1]; rfl)
          | (rw [c1, show inB 1 3 [x.kind] = true from inB1.2 (by omega)]; unfold Tk.most; rw [if_neg (by omega)]; rfl)
          | (rw [c1, show inB 1 3 [x.kind] = true from inB1.2 (by omega)]; unfold Tk.most; rw [if_pos (by omega)]; rfl)
          | (rw [show inB 1 3 [x.kind] = false from inB1f.2 (by omega), Bool.and_false]; rfl)
      ·
        try simp only [Bool.not_eq_true', Bool.not_eq_false', decide_eq_true_eq, decide_eq_false_iff_not, ne_eq, Classical.not_not, Int.not_lt, Int.not_le] at c4
        refine W_seq ?_
        refine W_region_lit (fun ds => ?_)
        refine WS_det hF (by rfl) (y_eql (by rfl) (by rfl)) ?_
        refine WS_det hF (by rfl) (y_assign (c := .bool _) (by rfl)) ?_
        refine WS_nil ?_
        refine Then_normal ?_
        refine W_cond (by rfl) (fun c7 => ?_) (fun c7 => ?_)
        ·
          try simp only [Bool.not_eq_true', Bool.not_eq_false', decide_eq_true_eq, decide_eq_false_iff_not, ne_eq, Classical.not_not, Int.not_lt, Int.not_le] at c7
          refine W_seq ?_
          refine W_draw0 hF Trymixed [] (by decide +kernel) (fun ds => ?_)
          refine P_det (by rfl) (Over_nil (y_fieldAddr (by rfl) fa48_2)) ?_
          refine P_det (by rfl) (Over_nil (y_loadN (by rfl) Try.isAgg26 Try.sizeOf26 (Mem.own (us := [.int .i64 _, .int .i64 _]) 0 (by rfl) (by rfl)) (by rfl))) ?_
          refine P_det (by rfl) (Over_nil (y_loadN (by rfl) Try.isAgg24 Try.sizeOf24 (Mem.own (us := [.slice _ _ _, .int .i64 _, .int .i64 _]) 1 (by rfl) (by rfl)) (by rfl))) ?_
          refine P_det (by rfl) (Over_nil (y_callL (by rfl) (by rfl) Try.call55 (fun w hw => height_any l.tk a cap w hn))) ?_
          refine P_det (by rfl) (Over_nil (y_callL (by rfl) (by rfl) Try.call75 (fun w hw => spanned_any _ _ _ w))) ?_
          refine P_det (by rfl) (Over_nil (y_assign (c := .bool _) (by rfl))) ?_
          refine PW_end (by rfl) ?_
          refine OverAll_nil ?_
          rintro -
          refine Then_normal ?_
          refine W_ret ?_
          refine InB_ret ?_
          refine Then_ret ?_
          refine Fin_ret [.bool _] [] Try.results127 ⟨by rfl, trivial⟩ HSub.nil ?_
          show Value.bool _ = _
          first
            | (rw [c1]; rfl)
            | (rw [c1, show inB 1 3 [x.kind] = true from inB1.2 (by omega)]; unfold Tk.most; rw [if_neg (by omega)]; rfl)
            | (rw [c1, show inB 1 3 [x.kind] = true from inB1.2 (by omega)]; unfold Tk.most; rw [if_pos (by omega)]; rfl)
            | (rw [show inB 1 3 [x.kind] = false from inB1f.2 (by omega), Bool.and_false]; rfl)
        ·
          try simp only [Bool.not_eq_true', Bool.not_eq_false', decide_eq_true_eq, decide_eq_false_iff_not, ne_eq, Classical.not_not, Int.not_lt, Int.not_le] at c7
          refine W_skip ?_
          refine InB_normal ?_
          refine Then_normal ?_
          refine W_seq ?_
          refine W_region_lit (fun ds => ?_)
          refine WS_det hF (by rfl) (y_assign (c := .bool _) (by rfl)) ?_
          refine WS_nil ?_
          refine Then_normal ?_
          refine W_ret ?_
          refine Fin_ret [.bool _] [] Try.results127 ⟨by rfl, trivial⟩ HSub.nil ?_
          show Value.bool _ = _
          first
            | (rw [c1]; rfl)
            | (rw [c1, show inB 1 3 [x.kind] = true from inB1.2 (by omega)]; unfold Tk.most; rw [if_neg (by omega)]; rfl)
            | (rw [c1, show inB 1 3 [x.kind] = true from inB1.2 (by omega)]; unfold Tk.most; rw [if_pos (by omega)]; rfl)
            | (rw [show inB 1 3 [x.kind] = false from inB1f.2 (by omega), Bool.and_false]; rfl)
    ·
      try simp only [Bool.not_eq_true', Bool.not_eq_false', decide_eq_true_eq, decide_eq_false_iff_not, ne_eq, Classical.not_not, Int.not_lt, Int.not_le] at c4
      refine W_region_lit (fun ds => ?_)
      refine WS_det hF (by rfl) (y_eql (by rfl) (by rfl)) ?_
      refine WS_det hF (by rfl) (y_assign (c := .bool _) (by rfl)) ?_
      refine WS_nil ?_
      refine Then_normal ?_
      refine W_cond (by rfl) (fun c5 => ?_) (fun c5 => ?_)
      ·
        try simp only [Bool.not_eq_true', Bool.not_eq_false', decide_eq_true_eq, decide_eq_false_iff_not, ne_eq, Classical.not_not, Int.not_lt, Int.not_le] at c5
        refine W_seq ?_
        refine W_draw0 hF Trymixed [] (by decide +kernel) (fun ds => ?_)
        refine P_det (by rfl) (Over_nil (y_fieldAddr (by rfl) fa48_2)) ?_
        refine P_det (by rfl) (Over_nil (y_loadN (by rfl) Try.isAgg26 Try.sizeOf26 (Mem.own (us := [.int .i64 _, .int .i64 _]) 0 (by rfl) (by rfl)) (by rfl))) ?_
        refine P_det (by rfl) (Over_nil (y_loadN (by rfl) Try.isAgg24 Try.sizeOf24 (Mem.own (us := [.slice _ _ _, .int .i64 _, .int .i64 _]) 1 (by rfl) (by rfl)) (by rfl))) ?_
        refine P_det (by rfl) (Over_nil (y_callL (by rfl) (by rfl) Try.call56 (fun w hw => full_any l.tk a cap w hn (by omega) (hx.st w hw)))) ?_
        refine P_det (by rfl) (Over_nil (y_callL (by rfl) (by rfl) Try.call75 (fun w hw => spanned_any _ _ _ w))) ?_
        refine P_det (by rfl) (Over_nil (y_assign (c := .bool _) (by rfl))) ?_
        refine PW_end (by rfl) ?_
        refine OverAll_nil ?_
        rintro -
        refine Then_normal ?_
        refine W_ret ?_
        refine InB_ret ?_
        refine Then_ret ?_
        refine Fin_ret [.bool _] [] Try.results127 ⟨by rfl, trivial⟩ HSub.nil ?_
        show Value.bool _ = _
        first
          | (rw [c1]; rfl)
          | (rw [c1, show inB 1 3 [x.kind] = true from inB1.2 (by omega)]; unfold Tk.most; rw [if_neg (by omega)]; rfl)
          | (rw [c1, show inB 1 3 [x.kind] = true from inB1.2 (by omega)]; unfold Tk.most; rw [if_pos (by omega)]; rfl)
          | (rw [show inB 1 3 [x.kind] = false from inB1f.2 (by omega), Bool.and_false]; rfl)
      ·
        try simp only [Bool.not_eq_true', Bool.not_eq_false', decide_eq_true_eq, decide_eq_false_iff_not, ne_eq, Classical.not_not, Int.not_lt, Int.not_le] at c5
        refine W_seq ?_
        refine W_region_lit (fun ds => ?_)
        refine WS_det hF (by rfl) (y_eql (by rfl) (by rfl)) ?_
        refine WS_det hF (by rfl) (y_assign (c := .bool _) (by rfl)) ?_
        refine WS_nil ?_
        refine Then_normal ?_
        refine W_cond (by rfl) (fun c7 => ?_) (fun c7 => ?_)
        ·
          try simp only [Bool.not_eq_true', Bool.not_eq_false', decide_eq_true_eq, decide_eq_false_iff_not, ne_eq, Classical.not_not, Int.not_lt, Int.not_le] at c7
          refine W_seq ?_
          refine W_draw0 hF Trymixed [] (by decide +kernel) (fun ds => ?_)
          refine P_det (by rfl) (Over_nil (y_fieldAddr (by rfl) fa48_2)) ?_
          refine P_det (by rfl) (Over_nil (y_loadN (by rfl) Try.isAgg26 Try.sizeOf26 (Mem.own (us := [.int .i64 _, .int .i64 _]) 0 (by rfl) (by rfl)) (by rfl))) ?_
          refine P_det (by rfl) (Over_nil (y_loadN (by rfl) Try.isAgg24 Try.sizeOf24 (Mem.own (us := [.slice _ _ _, .int .i64 _, .int .i64 _]) 1 (by rfl) (by rfl)) (by rfl))) ?_
          refine P_det (by rfl) (Over_nil (y_callL (by rfl) (by rfl) Try.call55 (fun w hw => height_any l.tk a cap w hn))) ?_
          refine P_det (by rfl) (Over_nil (y_callL (by rfl) (by rfl) Try.call75 (fun w hw => spanned_any _ _ _ w))) ?_
          refine P_det (by rfl) (Over_nil (y_assign (c := .bool _) (by rfl))) ?_
          refine PW_end (by rfl) ?_
          refine OverAll_nil ?_
          rintro -
          refine Then_normal ?_
          refine W_ret ?_
          refine InB_ret ?_
          refine Then_ret ?_
          refine Fin_ret [.bool _] [] Try.results127 ⟨by rfl, trivial⟩ HSub.nil ?_
          show Value.bool _ = _
          first
            | (rw [c1]; rfl)
            | (rw [c1, show inB 1 3 [x.kind] = true from inB1.2 (by omega)]; unfold Tk.most; rw [if_neg (by omega)]; rfl)
            | (rw [c1, show inB 1 3 [x.kind] = true from inB1.2 (by omega)]; unfold Tk.most; rw [if_pos (by omega)]; rfl)
            | (rw [show inB 1 3 [x.kind] = false from inB1f.2 (by omega), Bool.and_false]; rfl)
        ·
          try simp only [Bool.not_eq_true', Bool.not_eq_false', decide_eq_true_eq, decide_eq_false_iff_not, ne_eq, Classical.not_not, Int.not_lt, Int.not_le] at c7
          refine W_skip ?_
          refine InB_normal ?_
          refine Then_normal ?_
          refine W_seq ?_
          refine W_region_lit (fun ds => ?_)
          refine WS_det hF (by rfl) (y_assign (c := .bool _) (by rfl)) ?_
          refine WS_nil ?_
          refine Then_normal ?_
          refine W_ret ?_
          refine Fin_ret [.bool _] [] Try.results127 ⟨by rfl, trivial⟩ HSub.nil ?_
          show Value.bool _ = _
          first
            | (rw [c1]; rfl)
            | (rw [c1, show inB 1 3 [x.kind] = true from inB1.2 (by omega)]; unfold Tk.most; rw [if_neg (by omega)]; rfl)
            | (rw [c1, show inB 1 3 [x.kind] = true from inB1.2 (by omega)]; unfold Tk.most; rw [if_pos (by omega)]; rfl)
            | (rw [show inB 1 3 [x.kind] = false from inB1f.2 (by omega), Bool.and_false]; rfl)
theorem done_any (l : Lg) (a : Option Addr) (cap : Nat) (ae : Option Addr) (cape : Nat) (i : Nat) (s : Sn) (w : World) (hok : l.Ok) (hn : l.tk.n ≤ 1000000) (hx : Ints w a l.tk.n cap l.tk.pints) (he : Ens w ae l.es.length cape l.es) (hi : i < l.es.length) (hs : s.Sm) :
    Ct Try.prog 105 #[.agg #[.slice a l.tk.n cap, .int .i64 l.tk.leak, .int .i64 l.tk.foot, .int .i64 l.start.lo, .int .i64 l.start.hi, .slice ae l.es.length cape], .agg (l.e i).cells.toArray, .agg s.cells.toArray] w fun v _ => v = .agg (l.tk.forth (l.e i) s).cells.toArray := by
  have hz := hok.sm hi
  have hq := hok.size i hi
  have hkd := hok.kind i hi
  unfold Sn.Sm at hs hz
  generalize l.e i = x at *
  have hF := wide_wide
  refine Ct_start (args := [_, _, _]) Try.func105 (by rfl) Try.ntmps105 (by rfl) ?_
  refine W_seq ?_
  refine W_region_lit (fun ds => ?_)
  refine WS_new hF (by rfl) (y_box (by rfl)) (fun b1 => ?_)
  refine WS_new hF (by rfl) (y_box (by rfl)) (fun b2 => ?_)
  refine WS_new hF (by rfl) (y_box (by rfl)) (fun b3 => ?_)
  refine WS_new hF (by rfl) (y_alloc Try.zeroValue26 (by rfl)) (fun b4 => ?_)
  refine WS_nil ?_
  refine Then_normal ?_
  refine W_seq ?_
  refine W_seq ?_
  refine W_region_lit (fun ds => ?_)
  refine WS_det hF (by rfl) (y_fieldAddr (by rfl) fa48_1) ?_
  refine WS_det hF (by rfl) (y_load1 (by rfl) Try.isAgg3 (Mem.own1 2 (by rfl) (by rfl))) ?_
  refine WS_nil ?_
  refine Then_normal ?_
  refine W_block ?_
  refine W_seq ?_
  refine W_region_lit (fun ds => ?_)
  refine WS_det hF (by rfl) (y_eql (by rfl) (by rfl)) ?_
  refine WS_det hF (by rfl) (y_assign (c := .bool _) (by rfl)) ?_
  refine WS_nil ?_
  refine Then_normal ?_
  refine W_cond (by rfl) (fun c2 => ?_) (fun c2 => ?_)
  ·
    try simp only [Bool.not_eq_true', Bool.not_eq_false', decide_eq_true_eq, decide_eq_false_iff_not, ne_eq, Classical.not_not, Int.not_lt, Int.not_le] at c2
    refine W_seq ?_
    apply W_draw1 hF Trymixed [1000000] (i := 0) (by rfl) (by decide +kernel)
    intro ds
    refine P_det (by rfl) (Over_out (by rfl) (Over_nil (y_fieldAddr (by rfl) fa26_0))) ?_
    refine P_det (by rfl) (Over_out (by rfl) (Over_nil (y_load1 (by rfl) Try.isAgg3 (Mem.own1 0 (by rfl) (by rfl))))) ?_
    refine P_det (by rfl) (Over_out (by rfl) (Over_nil (y_fieldAddr (by rfl) fa48_2))) ?_
    refine P_det (by rfl) (Over_out (by rfl) (Over_nil (y_fieldAddr (by rfl) fa26_0))) ?_
    refine P_det (by rfl) (Over_out (by rfl) (Over_nil (y_load1 (by rfl) Try.isAgg3 (Mem.own1 1 (by rfl) (by rfl))))) ?_
    refine P_det (by rfl) (Over_out (by rfl) (Over_nil (y_add (by rfl) (by rfl) (by unfold I64; omega)))) ?_
    refine P_det (by rfl) (Over_out (by rfl) (Over_nil (y_fieldAddr (by rfl) fa26_1))) ?_
    refine P_det (by rfl) (Over_out (by rfl) (Over_nil (y_load1 (by rfl) Try.isAgg3 (Mem.own1 0 (by rfl) (by rfl))))) ?_
    refine P_det (by rfl) (Over_out (by rfl) (Over_nil (y_fieldAddr (by rfl) fa48_2))) ?_
    refine P_det (by rfl) (Over_out (by rfl) (Over_nil (y_fieldAddr (by rfl) fa26_1))) ?_
    refine P_det (by rfl) (Over_out (by rfl) (Over_nil (y_load1 (by rfl) Try.isAgg3 (Mem.own1 1 (by rfl) (by rfl))))) ?_
    refine P_det (by rfl) (Over_out (by rfl) (Over_nil (y_add (by rfl) (by rfl) (by unfold I64; omega)))) ?_
    refine P_det (by rfl) (Over_out (by rfl) (Over_nil (y_buildL bd26_0_1 (by rfl)))) ?_
    refine P_det (by rfl) (Over_out (by rfl) (Over_nil (y_loadN (by rfl) Try.isAgg46 Try.sizeOf46 (Mem.own (us := [.slice _ _ _, .int .i64 _, .int .i64 _, .int .i64 _, .int .i64 _, .slice _ _ _]) 2 (by rfl) (by rfl)) (by rfl)))) ?_
    refine P_det (by rfl) (Over_out (by rfl) (Over_nil (y_callL (by rfl) (by rfl) Try.call130 (fun w hw => all_any l a cap ae cape w hok.tk hn (hx.st w hw) (he.st w hw))))) ?_
    refine P_det (by rfl) (Over_out (by rfl) (Over_nil (y_callL (by rfl) (by rfl) Try.call107 (fun w hw => both_any _ _ _ _ w)))) ?_
    refine P_st 1000000 0 (by rfl) (by rfl) (by rfl) (by rfl) (by rfl) (Over_nil (st_pre (fun _ => by rfl) (fun _ => by rfl) Try.sizeOf26 (by rfl) (by rfl) (by first | decide | exact Nat.le_of_ble_eq_true rfl | simp))) ?_
    refine PW_end (by rfl) ?_
    refine OverAll_cons (fun w1000000 l1000000 => ?_)
    refine OverAll_nil ?_
    rintro ⟨-, h1000000⟩
    obtain rfl := h1000000
    refine Then_normal ?_
    refine W_ret ?_
    refine InB_ret ?_
    refine Then_ret ?_
    refine Fin_ret [_] [] Try.results105 ⟨lvN (by rfl) Try.isAgg26 Try.sizeOf26 (Mem.own (us := [.int .i64 _, .int .i64 _]) 0 (by rfl) (by rfl)) (by rfl), trivial⟩ HSub.nil ?_
    show Value.agg _ = _
    unfold Tk.forth
    first
      | (rw [if_pos (by omega)]; rfl)
      | (rw [if_neg (by omega), if_pos (by omega)]; rfl)
      | (rw [if_neg (by omega), if_neg (by omega)]; rfl)
  ·
    try simp only [Bool.not_eq_true', Bool.not_eq_false', decide_eq_true_eq, decide_eq_false_iff_not, ne_eq, Classical.not_not, Int.not_lt, Int.not_le] at c2
    refine W_seq ?_
    refine W_region_lit (fun ds => ?_)
    refine WS_det hF (by rfl) (y_eql (by rfl) (by rfl)) ?_
    refine WS_det hF (by rfl) (y_assign (c := .bool _) (by rfl)) ?_
    refine WS_nil ?_
    refine Then_normal ?_
    refine W_cond (by rfl) (fun c4 => ?_) (fun c4 => ?_)
    ·
      try simp only [Bool.not_eq_true', Bool.not_eq_false', decide_eq_true_eq, decide_eq_false_iff_not, ne_eq, Classical.not_not, Int.not_lt, Int.not_le] at c4
      refine W_seq ?_
      apply W_draw1 hF Trymixed [1000000] (i := 0) (by rfl) (by decide +kernel)
      intro ds
      refine P_det (by rfl) (Over_out (by rfl) (Over_nil (y_fieldAddr (by rfl) fa26_0))) ?_
      refine P_det (by rfl) (Over_out (by rfl) (Over_nil (y_load1 (by rfl) Try.isAgg3 (Mem.own1 0 (by rfl) (by rfl))))) ?_
      refine P_det (by rfl) (Over_out (by rfl) (Over_nil (y_fieldAddr (by rfl) fa48_2))) ?_
      refine P_det (by rfl) (Over_out (by rfl) (Over_nil (y_fieldAddr (by rfl) fa26_1))) ?_
      refine P_det (by rfl) (Over_out (by rfl) (Over_nil (y_load1 (by rfl) Try.isAgg3 (Mem.own1 1 (by rfl) (by rfl))))) ?_
      refine P_det (by rfl) (Over_out (by rfl) (Over_nil (y_sub (by rfl) (by rfl) (by unfold I64; omega)))) ?_
      refine P_det (by rfl) (Over_out (by rfl) (Over_nil (y_fieldAddr (by rfl) fa26_1))) ?_
      refine P_det (by rfl) (Over_out (by rfl) (Over_nil (y_load1 (by rfl) Try.isAgg3 (Mem.own1 0 (by rfl) (by rfl))))) ?_
      refine P_det (by rfl) (Over_out (by rfl) (Over_nil (y_fieldAddr (by rfl) fa48_2))) ?_
      refine P_det (by rfl) (Over_out (by rfl) (Over_nil (y_fieldAddr (by rfl) fa26_0))) ?_
      refine P_det (by rfl) (Over_out (by rfl) (Over_nil (y_load1 (by rfl) Try.isAgg3 (Mem.own1 1 (by rfl) (by rfl))))) ?_
      refine P_det (by rfl) (Over_out (by rfl) (Over_nil (y_sub (by rfl) (by rfl) (by unfold I64; omega)))) ?_
      refine P_det (by rfl) (Over_out (by rfl) (Over_nil (y_buildL bd26_0_1 (by rfl)))) ?_
      refine P_det (by rfl) (Over_out (by rfl) (Over_nil (y_loadN (by rfl) Try.isAgg46 Try.sizeOf46 (Mem.own (us := [.slice _ _ _, .int .i64 _, .int .i64 _, .int .i64 _, .int .i64 _, .slice _ _ _]) 2 (by rfl) (by rfl)) (by rfl)))) ?_
      refine P_det (by rfl) (Over_out (by rfl) (Over_nil (y_callL (by rfl) (by rfl) Try.call130 (fun w hw => all_any l a cap ae cape w hok.tk hn (hx.st w hw) (he.st w hw))))) ?_
      refine P_det (by rfl) (Over_out (by rfl) (Over_nil (y_callL (by rfl) (by rfl) Try.call107 (fun w hw => both_any _ _ _ _ w)))) ?_
      refine P_st 1000000 0 (by rfl) (by rfl) (by rfl) (by rfl) (by rfl) (Over_nil (st_pre (fun _ => by rfl) (fun _ => by rfl) Try.sizeOf26 (by rfl) (by rfl) (by first | decide | exact Nat.le_of_ble_eq_true rfl | simp))) ?_
      refine PW_end (by rfl) ?_
      refine OverAll_cons (fun w1000000 l1000000 => ?_)
      refine OverAll_nil ?_
      rintro ⟨-, h1000000⟩
      obtain rfl := h1000000
      refine Then_normal ?_
      refine W_ret ?_
      refine InB_ret ?_
      refine Then_ret ?_
      refine Fin_ret [_] [] Try.results105 ⟨lvN (by rfl) Try.isAgg26 Try.sizeOf26 (Mem.own (us := [.int .i64 _, .int .i64 _]) 0 (by rfl) (by rfl)) (by rfl), trivial⟩ HSub.nil ?_
      show Value.agg _ = _
      unfold Tk.forth
      first
        | (rw [if_pos (by omega)]; rfl)
        | (rw [if_neg (by omega), if_pos (by omega)]; rfl)
        | (rw [if_neg (by omega), if_neg (by omega)]; rfl)
    ·
      try simp only [Bool.not_eq_true', Bool.not_eq_false', decide_eq_true_eq, decide_eq_false_iff_not, ne_eq, Classical.not_not, Int.not_lt, Int.not_le] at c4
      have hk3 : x.kind = 3 := by omega
      have hq2 := Sn.inB_iff.1 hq
      unfold Tk.most at hq2
      rw [if_pos hk3] at hq2
      refine W_skip ?_
      refine InB_normal ?_
      refine Then_normal ?_
      refine W_seq ?_
      apply W_draw1 hF Trymixed [1000000] (i := 0) (by rfl) (by decide +kernel)
      intro ds
      refine P_det (by rfl) (Over_out (by rfl) (Over_nil (y_loadN (by rfl) Try.isAgg26 Try.sizeOf26 (Mem.own (us := [.int .i64 _, .int .i64 _]) 0 (by rfl) (by rfl)) (by rfl)))) ?_
      refine P_det (by rfl) (Over_out (by rfl) (Over_nil (y_fieldAddr (by rfl) fa46_0))) ?_
      refine P_det (by rfl) (Over_out (by rfl) (Over_nil (y_loadN (by rfl) Try.isAgg24 Try.sizeOf24 (Mem.own (us := [.slice _ _ _, .int .i64 _, .int .i64 _]) 2 (by rfl) (by rfl)) (by rfl)))) ?_
      refine P_det (by rfl) (Over_out (by rfl) (Over_nil (y_fieldAddr (by rfl) fa48_2))) ?_
      refine P_det (by rfl) (Over_out (by rfl) (Over_nil (y_loadN (by rfl) Try.isAgg26 Try.sizeOf26 (Mem.own (us := [.int .i64 _, .int .i64 _]) 1 (by rfl) (by rfl)) (by rfl)))) ?_
      refine P_det (by rfl) (Over_out (by rfl) (Over_nil (y_callL (by rfl) (by rfl) Try.call76 (fun w hw => dipped_any l.tk a cap x.size.lo x.size.hi w hn (hx.st w hw) hok.tk hq2.1 (by omega) (by omega) hq2.2.2)))) ?_
      refine P_det (by rfl) (Over_out (by rfl) (Over_nil (y_callL (by rfl) (by rfl) Try.call107 (fun w hw => both_any _ _ _ _ w)))) ?_
      refine P_st 1000000 0 (by rfl) (by rfl) (by rfl) (by rfl) (by rfl) (Over_nil (st_pre (fun _ => by rfl) (fun _ => by rfl) Try.sizeOf26 (by rfl) (by rfl) (by first | decide | exact Nat.le_of_ble_eq_true rfl | simp))) ?_
      refine PW_end (by rfl) ?_
      refine OverAll_cons (fun w1000000 l1000000 => ?_)
      refine OverAll_nil ?_
      rintro ⟨-, h1000000⟩
      obtain rfl := h1000000
      refine Then_normal ?_
      refine W_ret ?_
      refine Fin_ret [_] [] Try.results105 ⟨lvN (by rfl) Try.isAgg26 Try.sizeOf26 (Mem.own (us := [.int .i64 _, .int .i64 _]) 0 (by rfl) (by rfl)) (by rfl), trivial⟩ HSub.nil ?_
      show Value.agg _ = _
      unfold Tk.forth
      first
        | (rw [if_pos (by omega)]; rfl)
        | (rw [if_neg (by omega), if_pos (by omega)]; rfl)
        | (rw [if_neg (by omega), if_neg (by omega)]; rfl)
theorem undone_any (l : Lg) (a : Option Addr) (cap : Nat) (ae : Option Addr) (cape : Nat) (i : Nat) (s : Sn) (w : World) (hok : l.Ok) (hn : l.tk.n ≤ 1000000) (hx : Ints w a l.tk.n cap l.tk.pints) (he : Ens w ae l.es.length cape l.es) (hi : i < l.es.length) (hs : s.Sm) :
    Ct Try.prog 112 #[.agg #[.slice a l.tk.n cap, .int .i64 l.tk.leak, .int .i64 l.tk.foot, .int .i64 l.start.lo, .int .i64 l.start.hi, .slice ae l.es.length cape], .agg (l.e i).cells.toArray, .agg s.cells.toArray] w fun v _ => v = .agg (l.tk.back (l.e i) s).cells.toArray := by
  have hz := hok.sm hi
  have hq := hok.size i hi
  have hkd := hok.kind i hi
  unfold Sn.Sm at hs hz
  generalize l.e i = x at *
  have hF := wide_wide
  refine Ct_start (args := [_, _, _]) Try.func112 (by rfl) Try.ntmps112 (by rfl) ?_
  refine W_seq ?_
  refine W_region_lit (fun ds => ?_)
  refine WS_new hF (by rfl) (y_box (by rfl)) (fun b1 => ?_)
  refine WS_new hF (by rfl) (y_box (by rfl)) (fun b2 => ?_)
  refine WS_new hF (by rfl) (y_box (by rfl)) (fun b3 => ?_)
  refine WS_new hF (by rfl) (y_alloc Try.zeroValue26 (by rfl)) (fun b4 => ?_)
  refine WS_nil ?_
  refine Then_normal ?_
  refine W_seq ?_
  refine W_seq ?_
  refine W_region_lit (fun ds => ?_)
  refine WS_det hF (by rfl) (y_fieldAddr (by rfl) fa48_1) ?_
  refine WS_det hF (by rfl) (y_load1 (by rfl) Try.isAgg3 (Mem.own1 2 (by rfl) (by rfl))) ?_
  refine WS_nil ?_
  refine Then_normal ?_
  refine W_block ?_
  refine W_seq ?_
  refine W_region_lit (fun ds => ?_)
  refine WS_det hF (by rfl) (y_eql (by rfl) (by rfl)) ?_
  refine WS_det hF (by rfl) (y_assign (c := .bool _) (by rfl)) ?_
  refine WS_nil ?_
  refine Then_normal ?_
  refine W_cond (by rfl) (fun c2 => ?_) (fun c2 => ?_)
  ·
    try simp only [Bool.not_eq_true', Bool.not_eq_false', decide_eq_true_eq, decide_eq_false_iff_not, ne_eq, Classical.not_not, Int.not_lt, Int.not_le] at c2
    refine W_seq ?_
    apply W_draw1 hF Trymixed [1000000] (i := 0) (by rfl) (by decide +kernel)
    intro ds
    refine P_det (by rfl) (Over_out (by rfl) (Over_nil (y_fieldAddr (by rfl) fa26_0))) ?_
    refine P_det (by rfl) (Over_out (by rfl) (Over_nil (y_load1 (by rfl) Try.isAgg3 (Mem.own1 0 (by rfl) (by rfl))))) ?_
    refine P_det (by rfl) (Over_out (by rfl) (Over_nil (y_fieldAddr (by rfl) fa48_2))) ?_
    refine P_det (by rfl) (Over_out (by rfl) (Over_nil (y_fieldAddr (by rfl) fa26_1))) ?_
    refine P_det (by rfl) (Over_out (by rfl) (Over_nil (y_load1 (by rfl) Try.isAgg3 (Mem.own1 1 (by rfl) (by rfl))))) ?_
    refine P_det (by rfl) (Over_out (by rfl) (Over_nil (y_sub (by rfl) (by rfl) (by unfold I64; omega)))) ?_
    refine P_det (by rfl) (Over_out (by rfl) (Over_nil (y_fieldAddr (by rfl) fa26_1))) ?_
    refine P_det (by rfl) (Over_out (by rfl) (Over_nil (y_load1 (by rfl) Try.isAgg3 (Mem.own1 0 (by rfl) (by rfl))))) ?_
    refine P_det (by rfl) (Over_out (by rfl) (Over_nil (y_fieldAddr (by rfl) fa48_2))) ?_
    refine P_det (by rfl) (Over_out (by rfl) (Over_nil (y_fieldAddr (by rfl) fa26_0))) ?_
    refine P_det (by rfl) (Over_out (by rfl) (Over_nil (y_load1 (by rfl) Try.isAgg3 (Mem.own1 1 (by rfl) (by rfl))))) ?_
    refine P_det (by rfl) (Over_out (by rfl) (Over_nil (y_sub (by rfl) (by rfl) (by unfold I64; omega)))) ?_
    refine P_det (by rfl) (Over_out (by rfl) (Over_nil (y_buildL bd26_0_1 (by rfl)))) ?_
    refine P_det (by rfl) (Over_out (by rfl) (Over_nil (y_loadN (by rfl) Try.isAgg46 Try.sizeOf46 (Mem.own (us := [.slice _ _ _, .int .i64 _, .int .i64 _, .int .i64 _, .int .i64 _, .slice _ _ _]) 2 (by rfl) (by rfl)) (by rfl)))) ?_
    refine P_det (by rfl) (Over_out (by rfl) (Over_nil (y_callL (by rfl) (by rfl) Try.call130 (fun w hw => all_any l a cap ae cape w hok.tk hn (hx.st w hw) (he.st w hw))))) ?_
    refine P_det (by rfl) (Over_out (by rfl) (Over_nil (y_callL (by rfl) (by rfl) Try.call107 (fun w hw => both_any _ _ _ _ w)))) ?_
    refine P_st 1000000 0 (by rfl) (by rfl) (by rfl) (by rfl) (by rfl) (Over_nil (st_pre (fun _ => by rfl) (fun _ => by rfl) Try.sizeOf26 (by rfl) (by rfl) (by first | decide | exact Nat.le_of_ble_eq_true rfl | simp))) ?_
    refine PW_end (by rfl) ?_
    refine OverAll_cons (fun w1000000 l1000000 => ?_)
    refine OverAll_nil ?_
    rintro ⟨-, h1000000⟩
    obtain rfl := h1000000
    refine Then_normal ?_
    refine W_ret ?_
    refine InB_ret ?_
    refine Then_ret ?_
    refine Fin_ret [_] [] Try.results112 ⟨lvN (by rfl) Try.isAgg26 Try.sizeOf26 (Mem.own (us := [.int .i64 _, .int .i64 _]) 0 (by rfl) (by rfl)) (by rfl), trivial⟩ HSub.nil ?_
    show Value.agg _ = _
    unfold Tk.back
    first
      | (rw [if_pos (by omega)]; rfl)
      | (rw [if_neg (by omega), if_pos (by omega)]; rfl)
      | (rw [if_neg (by omega), if_neg (by omega)]; rfl)
  ·
    try simp only [Bool.not_eq_true', Bool.not_eq_false', decide_eq_true_eq, decide_eq_false_iff_not, ne_eq, Classical.not_not, Int.not_lt, Int.not_le] at c2
    refine W_seq ?_
    refine W_region_lit (fun ds => ?_)
    refine WS_det hF (by rfl) (y_eql (by rfl) (by rfl)) ?_
    refine WS_det hF (by rfl) (y_assign (c := .bool _) (by rfl)) ?_
    refine WS_nil ?_
    refine Then_normal ?_
    refine W_cond (by rfl) (fun c4 => ?_) (fun c4 => ?_)
    ·
      try simp only [Bool.not_eq_true', Bool.not_eq_false', decide_eq_true_eq, decide_eq_false_iff_not, ne_eq, Classical.not_not, Int.not_lt, Int.not_le] at c4
      refine W_seq ?_
      apply W_draw1 hF Trymixed [1000000] (i := 0) (by rfl) (by decide +kernel)
      intro ds
      refine P_det (by rfl) (Over_out (by rfl) (Over_nil (y_fieldAddr (by rfl) fa26_0))) ?_
      refine P_det (by rfl) (Over_out (by rfl) (Over_nil (y_load1 (by rfl) Try.isAgg3 (Mem.own1 0 (by rfl) (by rfl))))) ?_
      refine P_det (by rfl) (Over_out (by rfl) (Over_nil (y_fieldAddr (by rfl) fa48_2))) ?_
      refine P_det (by rfl) (Over_out (by rfl) (Over_nil (y_fieldAddr (by rfl) fa26_0))) ?_
      refine P_det (by rfl) (Over_out (by rfl) (Over_nil (y_load1 (by rfl) Try.isAgg3 (Mem.own1 1 (by rfl) (by rfl))))) ?_
      refine P_det (by rfl) (Over_out (by rfl) (Over_nil (y_add (by rfl) (by rfl) (by unfold I64; omega)))) ?_
      refine P_det (by rfl) (Over_out (by rfl) (Over_nil (y_fieldAddr (by rfl) fa26_1))) ?_
      refine P_det (by rfl) (Over_out (by rfl) (Over_nil (y_load1 (by rfl) Try.isAgg3 (Mem.own1 0 (by rfl) (by rfl))))) ?_
      refine P_det (by rfl) (Over_out (by rfl) (Over_nil (y_fieldAddr (by rfl) fa48_2))) ?_
      refine P_det (by rfl) (Over_out (by rfl) (Over_nil (y_fieldAddr (by rfl) fa26_1))) ?_
      refine P_det (by rfl) (Over_out (by rfl) (Over_nil (y_load1 (by rfl) Try.isAgg3 (Mem.own1 1 (by rfl) (by rfl))))) ?_
      refine P_det (by rfl) (Over_out (by rfl) (Over_nil (y_add (by rfl) (by rfl) (by unfold I64; omega)))) ?_
      refine P_det (by rfl) (Over_out (by rfl) (Over_nil (y_buildL bd26_0_1 (by rfl)))) ?_
      refine P_det (by rfl) (Over_out (by rfl) (Over_nil (y_loadN (by rfl) Try.isAgg46 Try.sizeOf46 (Mem.own (us := [.slice _ _ _, .int .i64 _, .int .i64 _, .int .i64 _, .int .i64 _, .slice _ _ _]) 2 (by rfl) (by rfl)) (by rfl)))) ?_
      refine P_det (by rfl) (Over_out (by rfl) (Over_nil (y_callL (by rfl) (by rfl) Try.call130 (fun w hw => all_any l a cap ae cape w hok.tk hn (hx.st w hw) (he.st w hw))))) ?_
      refine P_det (by rfl) (Over_out (by rfl) (Over_nil (y_callL (by rfl) (by rfl) Try.call107 (fun w hw => both_any _ _ _ _ w)))) ?_
      refine P_st 1000000 0 (by rfl) (by rfl) (by rfl) (by rfl) (by rfl) (Over_nil (st_pre (fun _ => by rfl) (fun _ => by rfl) Try.sizeOf26 (by rfl) (by rfl) (by first | decide | exact Nat.le_of_ble_eq_true rfl | simp))) ?_
      refine PW_end (by rfl) ?_
      refine OverAll_cons (fun w1000000 l1000000 => ?_)
      refine OverAll_nil ?_
      rintro ⟨-, h1000000⟩
      obtain rfl := h1000000
      refine Then_normal ?_
      refine W_ret ?_
      refine InB_ret ?_
      refine Then_ret ?_
      refine Fin_ret [_] [] Try.results112 ⟨lvN (by rfl) Try.isAgg26 Try.sizeOf26 (Mem.own (us := [.int .i64 _, .int .i64 _]) 0 (by rfl) (by rfl)) (by rfl), trivial⟩ HSub.nil ?_
      show Value.agg _ = _
      unfold Tk.back
      first
        | (rw [if_pos (by omega)]; rfl)
        | (rw [if_neg (by omega), if_pos (by omega)]; rfl)
        | (rw [if_neg (by omega), if_neg (by omega)]; rfl)
    ·
      try simp only [Bool.not_eq_true', Bool.not_eq_false', decide_eq_true_eq, decide_eq_false_iff_not, ne_eq, Classical.not_not, Int.not_lt, Int.not_le] at c4
      have hk3 : x.kind = 3 := by omega
      have hq2 := Sn.inB_iff.1 hq
      unfold Tk.most at hq2
      rw [if_pos hk3] at hq2
      refine W_skip ?_
      refine InB_normal ?_
      refine Then_normal ?_
      refine W_seq ?_
      apply W_draw1 hF Trymixed [1000000] (i := 0) (by rfl) (by decide +kernel)
      intro ds
      refine P_det (by rfl) (Over_out (by rfl) (Over_nil (y_loadN (by rfl) Try.isAgg26 Try.sizeOf26 (Mem.own (us := [.int .i64 _, .int .i64 _]) 0 (by rfl) (by rfl)) (by rfl)))) ?_
      refine P_det (by rfl) (Over_out (by rfl) (Over_nil (y_fieldAddr (by rfl) fa46_0))) ?_
      refine P_det (by rfl) (Over_out (by rfl) (Over_nil (y_loadN (by rfl) Try.isAgg24 Try.sizeOf24 (Mem.own (us := [.slice _ _ _, .int .i64 _, .int .i64 _]) 2 (by rfl) (by rfl)) (by rfl)))) ?_
      refine P_det (by rfl) (Over_out (by rfl) (Over_nil (y_fieldAddr (by rfl) fa48_2))) ?_
      refine P_det (by rfl) (Over_out (by rfl) (Over_nil (y_loadN (by rfl) Try.isAgg26 Try.sizeOf26 (Mem.own (us := [.int .i64 _, .int .i64 _]) 1 (by rfl) (by rfl)) (by rfl)))) ?_
      refine P_det (by rfl) (Over_out (by rfl) (Over_nil (y_callL (by rfl) (by rfl) Try.call76 (fun w hw => dipped_any l.tk a cap x.size.lo x.size.hi w hn (hx.st w hw) hok.tk hq2.1 (by omega) (by omega) hq2.2.2)))) ?_
      refine P_det (by rfl) (Over_out (by rfl) (Over_nil (y_callL (by rfl) (by rfl) Try.call107 (fun w hw => both_any _ _ _ _ w)))) ?_
      refine P_st 1000000 0 (by rfl) (by rfl) (by rfl) (by rfl) (by rfl) (Over_nil (st_pre (fun _ => by rfl) (fun _ => by rfl) Try.sizeOf26 (by rfl) (by rfl) (by first | decide | exact Nat.le_of_ble_eq_true rfl | simp))) ?_
      refine PW_end (by rfl) ?_
      refine OverAll_cons (fun w1000000 l1000000 => ?_)
      refine OverAll_nil ?_
      rintro ⟨-, h1000000⟩
      obtain rfl := h1000000
      refine Then_normal ?_
      refine W_ret ?_
      refine Fin_ret [_] [] Try.results112 ⟨lvN (by rfl) Try.isAgg26 Try.sizeOf26 (Mem.own (us := [.int .i64 _, .int .i64 _]) 0 (by rfl) (by rfl)) (by rfl), trivial⟩ HSub.nil ?_
      show Value.agg _ = _
      unfold Tk.back
      first
        | (rw [if_pos (by omega)]; rfl)
        | (rw [if_neg (by omega), if_pos (by omega)]; rfl)
        | (rw [if_neg (by omega), if_neg (by omega)]; rfl)
theorem ahead_any (l : Lg) (a : Option Addr) (cap : Nat) (ae : Option Addr) (cape : Nat) (i : Nat) (s : Sn) (w : World) (hok : l.Ok) (hn : l.tk.n ≤ 1000000) (hx : Ints w a l.tk.n cap l.tk.pints) (he : Ens w ae l.es.length cape l.es) (hi : i < l.es.length) (hs : s.Sm) (h0 : 0 ≤ s.lo) :
    Ct Try.prog 106 #[.agg #[.slice a l.tk.n cap, .int .i64 l.tk.leak, .int .i64 l.tk.foot, .int .i64 l.start.lo, .int .i64 l.start.hi, .slice ae l.es.length cape], .int .i64 ((i : Int) + 1), .agg s.cells.toArray] w fun v _ => v = .agg (l.before i s).cells.toArray := by
  have hd := hok.drip_bd hi
  have h12 := hok.n12
  unfold Sn.Sm at hs
  have hF := wide_wide
  refine Ct_start (args := [_, _, _]) Try.func106 (by rfl) Try.ntmps106 (by rfl) ?_
  refine W_seq ?_
  refine W_region_lit (fun ds => ?_)
  refine WS_new hF (by rfl) (y_box (by rfl)) (fun b1 => ?_)
  refine WS_new hF (by rfl) (y_box (by rfl)) (fun b2 => ?_)
  refine WS_new hF (by rfl) (y_alloc Try.zeroValue26 (by rfl)) (fun b3 => ?_)
  refine WS_nil ?_
  refine Then_normal ?_
  refine W_seq ?_
  refine W_seq ?_
  refine W_region_lit (fun ds => ?_)
  refine WS_det hF (by rfl) (y_move (c := .int .i64 _) (by rfl)) ?_
  refine WS_det hF (by rfl) (y_eql (by rfl) (by rfl)) ?_
  refine WS_nil ?_
  refine Then_normal ?_
  refine W_cond (by rfl) (fun c1 => ?_) (fun c1 => ?_)
  ·
    try simp only [Bool.not_eq_true', Bool.not_eq_false', decide_eq_true_eq, decide_eq_false_iff_not, ne_eq, Classical.not_not, Int.not_lt, Int.not_le] at c1
    refine W_seq ?_
    refine W_region_lit (fun ds => ?_)
    refine WS_det hF (by rfl) (y_loadN (by rfl) Try.isAgg26 Try.sizeOf26 (Mem.own (us := [.int .i64 _, .int .i64 _]) 1 (by rfl) (by rfl)) (by rfl)) ?_
    refine WS_store hF (i := 0) (by rfl) (by rfl) Try.sizeOf26 (by rfl) (by rfl) (by rfl) (by first | decide | exact Nat.le_of_ble_eq_true rfl | simp) ?_
    refine WS_nil ?_
    refine Then_normal ?_
    refine W_ret ?_
    refine Then_ret ?_
    refine Fin_ret [_] [] Try.results106 ⟨lvN (by rfl) Try.isAgg26 Try.sizeOf26 (Mem.own (us := [.int .i64 _, .int .i64 _]) 0 (by rfl) (by rfl)) (by rfl), trivial⟩ HSub.nil ?_
    show Value.agg _ = _
    obtain rfl : i = 0 := by omega
    unfold Lg.before
    rw [show l.drip 0 = 0 from rfl, Int.sub_zero, Int.max_eq_right h0]; rfl
  ·
    try simp only [Bool.not_eq_true', Bool.not_eq_false', decide_eq_true_eq, decide_eq_false_iff_not, ne_eq, Classical.not_not, Int.not_lt, Int.not_le] at c1
    refine W_skip ?_
    refine Then_normal ?_
    refine W_seq ?_
    apply W_draw1 hF Trymixed [1000000] (i := 0) (by rfl) (by decide +kernel)
    intro ds
    refine P_det (by rfl) (Over_out (by rfl) (Over_nil (y_fieldAddr (by rfl) fa26_0))) ?_
    refine P_det (by rfl) (Over_out (by rfl) (Over_nil (y_load1 (by rfl) Try.isAgg3 (Mem.own1 0 (by rfl) (by rfl))))) ?_
    refine P_det (by rfl) (Over_out (by rfl) (Over_nil (y_loadN (by rfl) Try.isAgg46 Try.sizeOf46 (Mem.own (us := [.slice _ _ _, .int .i64 _, .int .i64 _, .int .i64 _, .int .i64 _, .slice _ _ _]) 1 (by rfl) (by rfl)) (by rfl)))) ?_
    refine P_det (by rfl) (Over_out (by rfl) (Over_nil (y_move (c := .int .i64 _) (by rfl)))) ?_
    refine P_det (by rfl) (Over_out (by rfl) (Over_nil (y_sub (by rfl) (by rfl) (by unfold I64; omega)))) ?_
    refine P_det (by rfl) (Over_out (by rfl) (Over_nil (y_callL (by rfl) (by rfl) Try.call113 (fun w hw => leak_any l a cap ae cape i _ w hok hn (hx.st w hw) (he.st w hw) hi (by omega) (by omega))))) ?_
    refine P_det (by rfl) (Over_out (by rfl) (Over_nil (y_sub (by rfl) (by rfl) (by unfold I64; omega)))) ?_
    refine P_det (by rfl) (Over_out (by rfl) (Over_nil (y_max (by rfl) (by rfl)))) ?_
    refine P_det (by rfl) (Over_out (by rfl) (Over_nil (y_fieldAddr (by rfl) fa26_1))) ?_
    refine P_det (by rfl) (Over_out (by rfl) (Over_nil (y_load1 (by rfl) Try.isAgg3 (Mem.own1 0 (by rfl) (by rfl))))) ?_
    refine P_det (by rfl) (Over_out (by rfl) (Over_nil (y_buildL bd26_0_1 (by rfl)))) ?_
    refine P_st 1000000 0 (by rfl) (by rfl) (by rfl) (by rfl) (by rfl) (Over_nil (st_pre (fun _ => by rfl) (fun _ => by rfl) Try.sizeOf26 (by rfl) (by rfl) (by first | decide | exact Nat.le_of_ble_eq_true rfl | simp))) ?_
    refine PW_end (by rfl) ?_
    refine OverAll_cons (fun w1000000 l1000000 => ?_)
    refine OverAll_nil ?_
    rintro ⟨-, h1000000⟩
    obtain rfl := h1000000
    refine Then_normal ?_
    refine W_ret ?_
    refine Fin_ret [_] [] Try.results106 ⟨lvN (by rfl) Try.isAgg26 Try.sizeOf26 (Mem.own (us := [.int .i64 _, .int .i64 _]) 0 (by rfl) (by rfl)) (by rfl), trivial⟩ HSub.nil ?_
    rfl
theorem rlog_any (l : Lg) (a : Option Addr) (cap : Nat) (ae : Option Addr) (cape : Nat) (w : World) (hn : l.tk.n ≤ 1000000) (hx : Ints w a l.tk.n cap l.tk.pints) (he : Ens w ae l.es.length cape l.es) : Ct Try.prog 87 #[.agg #[.slice a l.tk.n cap, .int .i64 l.tk.leak, .int .i64 l.tk.foot, .int .i64 l.start.lo, .int .i64 l.start.hi, .slice ae l.es.length cape]] w fun v _ => v = .bool (l.tk.okB && l.okB) := by
  have hF := wide_wide
  refine Ct_start (args := [_]) Try.func87 (by rfl) Try.ntmps87 (by rfl) ?_
  refine W_seq ?_
  refine W_region_lit (fun ds => ?_)
  refine WS_new hF (by rfl) (y_box (by rfl)) (fun b1 => ?_)
  refine WS_det hF (by rfl) (y_assign (c := .bool _) (by rfl)) ?_
  refine WS_nil ?_
  refine Then_normal ?_
  refine W_seq ?_
  refine W_seq ?_
  refine W_draw0 hF Trymixed [] (by decide +kernel) (fun ds => ?_)
  refine P_det (by rfl) (Over_nil (y_fieldAddr (by rfl) fa46_0)) ?_
  refine P_det (by rfl) (Over_nil (y_loadN (by rfl) Try.isAgg24 Try.sizeOf24 (Mem.own (us := [.slice _ _ _, .int .i64 _, .int .i64 _]) 0 (by rfl) (by rfl)) (by rfl))) ?_
  refine P_det (by rfl) (Over_nil (y_callL (by rfl) (by rfl) Try.call54 (fun w hw => tank_any l.tk a cap w hn (hx.st w hw)))) ?_
  refine P_det (by rfl) (Over_nil (y_not (by rfl))) ?_
  refine P_det (by rfl) (Over_nil (y_move (c := .bool _) (by rfl))) ?_
  refine P_split 9 (by rfl) (fun g1_4 => ?_) (fun g1_4 => ?_)
  ·
    try simp only [Bool.not_eq_true', Bool.not_eq_false', decide_eq_true_eq, decide_eq_false_iff_not, ne_eq, Classical.not_not, Int.not_lt, Int.not_le] at g1_4
    refine P_no (by rfl) ?_
    refine P_no (by rfl) ?_
    refine P_no (by rfl) ?_
    refine P_no (by rfl) ?_
    refine P_no (by rfl) ?_
    refine P_no (by rfl) ?_
    refine P_no (by rfl) ?_
    refine P_det (by rfl) (Over_nil (by first | exact y_pick_t (c := .bool _) (by rfl) (by rfl) | exact y_pick_f (c := .bool _) (by rfl) (by rfl))) ?_
    refine P_det (by rfl) (Over_nil (y_move (c := .bool _) (by rfl))) ?_
    refine P_no (by rfl) ?_
    refine P_no (by rfl) ?_
    refine P_no (by rfl) ?_
    refine P_no (by rfl) ?_
    refine P_det (by rfl) (Over_nil (by first | exact y_pick_t (c := .bool _) (by rfl) (by rfl) | exact y_pick_f (c := .bool _) (by rfl) (by rfl))) ?_
    refine PW_end (by rfl) ?_
    refine OverAll_nil ?_
    rintro -
    refine Then_normal ?_
    refine W_cond (by rfl) (fun c1 => ?_) (fun c1 => ?_)
    ·
      try simp only [Bool.not_eq_true', Bool.not_eq_false', decide_eq_true_eq, decide_eq_false_iff_not, ne_eq, Classical.not_not, Int.not_lt, Int.not_le] at c1
      refine W_seq ?_
      refine W_region_lit (fun ds => ?_)
      refine WS_det hF (by rfl) (y_assign (c := .bool _) (by rfl)) ?_
      refine WS_nil ?_
      refine Then_normal ?_
      refine W_ret ?_
      refine Then_ret ?_
      refine Fin_ret [.bool _] [] Try.results87 ⟨by rfl, trivial⟩ HSub.nil ?_
      show Value.bool _ = _
      rw [g1_4]; rfl
    · cases c1
  ·
    try simp only [Bool.not_eq_true', Bool.not_eq_false', decide_eq_true_eq, decide_eq_false_iff_not, ne_eq, Classical.not_not, Int.not_lt, Int.not_le] at g1_4
    have hok := Tk.ok_iff.1 g1_4
    have hn2 := hok.n2
    refine P_det (by rfl) (Over_nil (y_fieldAddr (by rfl) fa46_1)) ?_
    refine P_det (by rfl) (Over_nil (y_loadN (by rfl) Try.isAgg26 Try.sizeOf26 (Mem.own (us := [.int .i64 _, .int .i64 _]) 0 (by rfl) (by rfl)) (by rfl))) ?_
    refine P_det (by rfl) (Over_nil (y_fieldAddr (by rfl) fa46_0)) ?_
    refine P_det (by rfl) (Over_nil (y_loadN (by rfl) Try.isAgg24 Try.sizeOf24 (Mem.own (us := [.slice _ _ _, .int .i64 _, .int .i64 _]) 0 (by rfl) (by rfl)) (by rfl))) ?_
    refine P_det (by rfl) (Over_nil (y_callL (by rfl) (by rfl) Try.call56 (fun w hw => full_any l.tk a cap w hn (by omega) (hx.st w hw)))) ?_
    refine P_det (by rfl) (Over_nil (y_callL (by rfl) (by rfl) Try.call75 (fun w hw => spanned_any _ _ _ w))) ?_
    refine P_det (by rfl) (Over_nil (y_not (by rfl))) ?_
    refine P_det (by rfl) (Over_nil (by first | exact y_pick_t (c := .bool _) (by rfl) (by rfl) | exact y_pick_f (c := .bool _) (by rfl) (by rfl))) ?_
    refine P_det (by rfl) (Over_nil (y_move (c := .bool _) (by rfl))) ?_
    refine P_split 18 (by rfl) (fun g1_13 => ?_) (fun g1_13 => ?_)
    ·
      try simp only [Bool.not_eq_true', Bool.not_eq_false', decide_eq_true_eq, decide_eq_false_iff_not, ne_eq, Classical.not_not, Int.not_lt, Int.not_le] at g1_13
      refine P_no (by rfl) ?_
      refine P_no (by rfl) ?_
      refine P_no (by rfl) ?_
      refine P_no (by rfl) ?_
      refine P_det (by rfl) (Over_nil (by first | exact y_pick_t (c := .bool _) (by rfl) (by rfl) | exact y_pick_f (c := .bool _) (by rfl) (by rfl))) ?_
      refine PW_end (by rfl) ?_
      refine OverAll_nil ?_
      rintro -
      refine Then_normal ?_
      refine W_cond (by rfl) (fun c1 => ?_) (fun c1 => ?_)
      ·
        try simp only [Bool.not_eq_true', Bool.not_eq_false', decide_eq_true_eq, decide_eq_false_iff_not, ne_eq, Classical.not_not, Int.not_lt, Int.not_le] at c1
        refine W_seq ?_
        refine W_region_lit (fun ds => ?_)
        refine WS_det hF (by rfl) (y_assign (c := .bool _) (by rfl)) ?_
        refine WS_nil ?_
        refine Then_normal ?_
        refine W_ret ?_
        refine Then_ret ?_
        refine Fin_ret [.bool _] [] Try.results87 ⟨by rfl, trivial⟩ HSub.nil ?_
        show Value.bool _ = _
        have hs : l.start.inB l.tk.full = false := g1_13
        simp [Lg.okB, hs]
      · cases c1
    ·
      try simp only [Bool.not_eq_true', Bool.not_eq_false', decide_eq_true_eq, decide_eq_false_iff_not, ne_eq, Classical.not_not, Int.not_lt, Int.not_le] at g1_13
      refine P_det (by rfl) (Over_nil (y_fieldAddr (by rfl) fa46_2)) ?_
      refine P_det (by rfl) (Over_nil (y_load1 (by rfl) Try.isAgg44 (Mem.own1 0 (by rfl) (by rfl)))) ?_
      refine P_det (by rfl) (Over_nil (y_len (by rfl) Try.runUnderlying44)) ?_
      refine P_det (by rfl) (Over_nil (y_gtr (by rfl) (by rfl))) ?_
      refine P_det (by rfl) (Over_nil (by first | exact y_pick_t (c := .bool _) (by rfl) (by rfl) | exact y_pick_f (c := .bool _) (by rfl) (by rfl))) ?_
      refine PW_end (by rfl) ?_
      refine OverAll_nil ?_
      rintro -
      refine Then_normal ?_
      refine W_cond (by rfl) (fun c1 => ?_) (fun c1 => ?_)
      ·
        try simp only [Bool.not_eq_true', Bool.not_eq_false', decide_eq_true_eq, decide_eq_false_iff_not, ne_eq, Classical.not_not, Int.not_lt, Int.not_le] at c1
        refine W_seq ?_
        refine W_region_lit (fun ds => ?_)
        refine WS_det hF (by rfl) (y_assign (c := .bool _) (by rfl)) ?_
        refine WS_nil ?_
        refine Then_normal ?_
        refine W_ret ?_
        refine Then_ret ?_
        refine Fin_ret [.bool _] [] Try.results87 ⟨by rfl, trivial⟩ HSub.nil ?_
        show Value.bool _ = _
        have : decide (l.es.length ≤ 12) = false := by simp; omega
        simp [Lg.okB, this]
      ·
        try simp only [Bool.not_eq_true', Bool.not_eq_false', decide_eq_true_eq, decide_eq_false_iff_not, ne_eq, Classical.not_not, Int.not_lt, Int.not_le] at c1
        refine W_skip ?_
        refine Then_normal ?_
        refine W_seq ?_
        refine W_region_lit (fun ds => ?_)
        refine WS_det hF (by rfl) (y_assign (c := .int .i64 _) (by rfl)) ?_
        refine WS_nil ?_
        refine Then_normal ?_
        refine W_seq ?_
        refine W_seq ?_
        refine W_region_lit (fun ds => ?_)
        refine WS_det hF (by rfl) (y_assign (c := .int .i64 _) (by rfl)) ?_
        refine WS_nil ?_
        refine Then_normal ?_
        refine W_block ?_
        refine W_loop (γ := Nat) (fun k => k ≤ l.es.length ∧ l.tk.entsB 0 (l.es.take k) = true) (fun k => [(1, .pointer (some ⟨b1, 0, none⟩)), (3, .int .i64 (l.dayAt k)), (4, .int .i64 (k : Int))]) (fun _ => _) (fun k => l.es.length - k) (0) ⟨Nat.zero_le _, rfl⟩ (by repeat (first | exact trivial | refine ⟨by rfl, ?_⟩)) (List.Sublist.refl _) ?_
        rintro k e ⟨hk, hent⟩
        refine W_seq ?_
        refine W_seq ?_
        refine W_region_lit (fun ds => ?_)
        refine WS_det hF (by rfl) (y_move (c := .int .i64 _) (by rfl)) ?_
        refine WS_det hF (by rfl) (y_fieldAddr (by rfl) fa46_2) ?_
        refine WS_det hF (by rfl) (y_load1 (by rfl) Try.isAgg44 (Mem.own1 0 (by rfl) (by rfl))) ?_
        refine WS_det hF (by rfl) (y_len (by rfl) Try.runUnderlying44) ?_
        refine WS_det hF (by rfl) (y_lss (by rfl) (by rfl)) ?_
        refine WS_nil ?_
        refine Then_normal ?_
        refine W_cond (by rfl) (fun c5 => ?_) (fun c5 => ?_)
        ·
          try simp only [Bool.not_eq_true', Bool.not_eq_false', decide_eq_true_eq, decide_eq_false_iff_not, ne_eq, Classical.not_not, Int.not_lt, Int.not_le] at c5
          obtain ⟨b, o, rfl, hc⟩ := he.cell k (by omega)
          change At w b _ (l.e k).cells at hc
          refine W_skip ?_
          refine Then_normal ?_
          refine W_seq ?_
          refine W_block ?_
          refine W_seq ?_
          refine W_seq ?_
          refine W_draw0 hF Trymixed [] (by decide +kernel) (fun ds => ?_)
          refine P_det (by rfl) (Over_nil (y_fieldAddr (by rfl) fa46_0)) ?_
          refine P_det (by rfl) (Over_nil (y_loadN (by rfl) Try.isAgg24 Try.sizeOf24 (Mem.own (us := [.slice _ _ _, .int .i64 _, .int .i64 _]) 0 (by rfl) (by rfl)) (by rfl))) ?_
          refine P_det (by rfl) (Over_nil (y_fieldAddr (by rfl) fa46_2)) ?_
          refine P_det (by rfl) (Over_nil (y_load1 (by rfl) Try.isAgg44 (Mem.own1 0 (by rfl) (by rfl)))) ?_
          refine P_det (by rfl) (Over_nil (y_move (c := .int .i64 _) (by rfl))) ?_
          refine P_det (by rfl) (Over_nil (y_index (k := k) (by rfl) (by rfl) (by first | rfl | omega) (by first | decide | omega) Try.runUnderlying44 Try.sizeOf48)) ?_
          refine P_det (by rfl) (Over_nil (y_loadN (by rfl) Try.isAgg48 Try.sizeOf48 (by first | exact Mem.old (by assumption) | exact Mem.oldAt (us := [.int .i64 _, .int .i64 _, .int .i64 _, .int .i64 _]) (by assumption) (by rfl) | exact Mem.oldAtL (us := [.int .i64 _, .int .i64 _, .int .i64 _, .int .i64 _]) (by assumption) (by rfl) (by rfl)) (by rfl))) ?_
          refine P_det (by rfl) (Over_nil (y_move (c := .int .i64 _) (by rfl))) ?_
          refine P_det (by rfl) (Over_nil (y_callL (by rfl) (by rfl) Try.call127 (fun w hw => entry_any l a cap _ cape (l.e k) (l.dayAt k) w hok hn (hx.st w hw) (he.st w hw)))) ?_
          refine P_det (by rfl) (Over_nil (y_not (by rfl))) ?_
          refine PW_end (by rfl) ?_
          refine OverAll_nil ?_
          rintro -
          refine Then_normal ?_
          refine W_cond (by rfl) (fun c7 => ?_) (fun c7 => ?_)
          ·
            try simp only [Bool.not_eq_true', Bool.not_eq_false', decide_eq_true_eq, decide_eq_false_iff_not, ne_eq, Classical.not_not, Int.not_lt, Int.not_le] at c7
            refine W_seq ?_
            refine W_region_lit (fun ds => ?_)
            refine WS_det hF (by rfl) (y_assign (c := .bool _) (by rfl)) ?_
            refine WS_nil ?_
            refine Then_normal ?_
            refine W_ret ?_
            refine Then_ret ?_
            refine InB_ret ?_
            refine Then_ret ?_
            refine Loop_ret ?_
            refine InB_ret ?_
            refine Then_ret ?_
            refine Fin_ret [.bool _] [] Try.results87 ⟨by rfl, trivial⟩ HSub.nil ?_
            show Value.bool _ = _
            simp [Lg.okB, l.tk.entsB_bad (by omega) c7]
          ·
            try simp only [Bool.not_eq_true', Bool.not_eq_false', decide_eq_true_eq, decide_eq_false_iff_not, ne_eq, Classical.not_not, Int.not_lt, Int.not_le] at c7
            have hgood : (true && l.tk.entB (if k = 0 then 0 else (l.es.getD (k - 1) En.z).day) (l.es.getD k En.z)) = true := by
              rw [Bool.true_and]; exact c7
            refine W_skip ?_
            refine Then_normal ?_
            refine W_region_lit (fun ds => ?_)
            refine WS_det hF (by rfl) (y_fieldAddr (by rfl) fa46_2) ?_
            refine WS_det hF (by rfl) (y_load1 (by rfl) Try.isAgg44 (Mem.own1 0 (by rfl) (by rfl))) ?_
            refine WS_det hF (by rfl) (y_move (c := .int .i64 _) (by rfl)) ?_
            refine WS_det hF (by rfl) (y_index (k := k) (by rfl) (by rfl) (by first | rfl | omega) (by first | decide | omega) Try.runUnderlying44 Try.sizeOf48) ?_
            refine WS_det hF (by rfl) (y_fieldAddr (by rfl) fa48_0) ?_
            refine WS_det hF (by rfl) (y_load1 (by rfl) Try.isAgg3 (by first | exact Mem.old1 (by assumption) | exact Mem.oldAt1 (by assumption) (by rfl) | exact Mem.old (by assumption) | exact Mem.oldAtL1 (by assumption) (by rfl) (by rfl))) ?_
            refine WS_det hF (by rfl) (y_assign (c := .int .i64 _) (by rfl)) ?_
            refine WS_nil ?_
            refine InB_normal ?_
            refine Then_normal ?_
            refine W_region_lit (fun ds => ?_)
            refine WS_det hF (by rfl) (y_move (c := .int .i64 _) (by rfl)) ?_
            refine WS_det hF (by rfl) (y_add (by rfl) (by rfl) (by unfold I64; omega)) ?_
            refine WS_det hF (by rfl) (y_assign (c := .int .i64 _) (by rfl)) ?_
            refine WS_nil ?_
            exact Loop_next (k + 1) ⟨by omega, by rw [l.tk.entsB_succ l.es 0 k (by omega), hent]; exact hgood⟩ (by repeat (first | exact trivial | refine ⟨by rfl, ?_⟩)) (by repeat (first | exact List.Sublist.refl _ | exact List.nil_sublist _ | apply List.Sublist.cons_cons | apply List.Sublist.cons)) (by omega)
        ·
          try simp only [Bool.not_eq_true', Bool.not_eq_false', decide_eq_true_eq, decide_eq_false_iff_not, ne_eq, Classical.not_not, Int.not_lt, Int.not_le] at c5
          refine W_exit ?_
          refine Then_exit ?_
          refine Loop_exit ?_
          refine InB_same ?_
          refine Then_normal ?_
          refine W_seq ?_
          refine W_region_lit (fun ds => ?_)
          refine WS_det hF (by rfl) (y_assign (c := .bool _) (by rfl)) ?_
          refine WS_nil ?_
          refine Then_normal ?_
          refine W_ret ?_
          refine Fin_ret [.bool _] [] Try.results87 ⟨by rfl, trivial⟩ HSub.nil ?_
          show Value.bool _ = _
          have hkn : k = l.es.length := by omega
          rw [hkn, List.take_length] at hent
          have hs : l.start.inB l.tk.full = true := g1_13
          have h12 : decide (l.es.length ≤ 12) = true := by simp; omega
          simp [Lg.okB, hs, hent, h12, g1_4]
theorem rvalid_any (l : Lg) (a : Option Addr) (cap : Nat) (ae : Option Addr) (cape : Nat) (w : World) (hn : l.tk.n ≤ 1000000) (hx : Ints w a l.tk.n cap l.tk.pints) (he : Ens w ae l.es.length cape l.es) : Ct Try.prog 46 #[.agg #[.slice a l.tk.n cap, .int .i64 l.tk.leak, .int .i64 l.tk.foot, .int .i64 l.start.lo, .int .i64 l.start.hi, .slice ae l.es.length cape]] w fun v _ => v = .int .i64 l.err := by
  have hF := wide_wide
  refine Ct_start (args := [_]) Try.func46 (by rfl) Try.ntmps46 (by rfl) ?_
  refine W_seq ?_
  refine W_region_lit (fun ds => ?_)
  refine WS_new hF (by rfl) (y_box (by rfl)) (fun b1 => ?_)
  refine WS_det hF (by rfl) (y_assign (c := .int .i64 _) (by rfl)) ?_
  refine WS_nil ?_
  refine Then_normal ?_
  refine W_seq ?_
  refine W_seq ?_
  refine W_region_lit (fun ds => ?_)
  refine WS_det hF (by rfl) (y_fieldAddr (by rfl) fa46_0) ?_
  refine WS_det hF (by rfl) (y_loadN (by rfl) Try.isAgg24 Try.sizeOf24 (Mem.own (us := [.slice _ _ _, .int .i64 _, .int .i64 _]) 0 (by rfl) (by rfl)) (by rfl)) ?_
  refine WS_det hF (by rfl) (y_callL (by rfl) (by rfl) Try.call54 (fun w hw => tank_any l.tk a cap w hn (hx.st w hw))) ?_
  refine WS_det hF (by rfl) (y_not (by rfl)) ?_
  refine WS_nil ?_
  refine Then_normal ?_
  refine W_cond (by rfl) (fun c1 => ?_) (fun c1 => ?_)
  ·
    try simp only [Bool.not_eq_true', Bool.not_eq_false', decide_eq_true_eq, decide_eq_false_iff_not, ne_eq, Classical.not_not, Int.not_lt, Int.not_le] at c1
    refine W_seq ?_
    refine W_region_lit (fun ds => ?_)
    refine WS_det hF (by rfl) (y_assign (c := .int .i64 _) (by rfl)) ?_
    refine WS_nil ?_
    refine Then_normal ?_
    refine W_ret ?_
    refine Then_ret ?_
    refine Fin_ret [.int .i64 _] [] Try.results46 ⟨by rfl, trivial⟩ HSub.nil ?_
    show Value.int _ _ = _
    simp [Lg.err, c1]
  ·
    try simp only [Bool.not_eq_true', Bool.not_eq_false', decide_eq_true_eq, decide_eq_false_iff_not, ne_eq, Classical.not_not, Int.not_lt, Int.not_le] at c1
    refine W_skip ?_
    refine Then_normal ?_
    refine W_seq ?_
    refine W_seq ?_
    refine W_region_lit (fun ds => ?_)
    refine WS_det hF (by rfl) (y_loadN (by rfl) Try.isAgg46 Try.sizeOf46 (Mem.own (us := [.slice _ _ _, .int .i64 _, .int .i64 _, .int .i64 _, .int .i64 _, .slice _ _ _]) 0 (by rfl) (by rfl)) (by rfl)) ?_
    refine WS_det hF (by rfl) (y_callL (by rfl) (by rfl) Try.call87 (fun w hw => rlog_any l a cap ae cape w hn (hx.st w hw) (he.st w hw))) ?_
    refine WS_det hF (by rfl) (y_not (by rfl)) ?_
    refine WS_nil ?_
    refine Then_normal ?_
    refine W_cond (by rfl) (fun c3 => ?_) (fun c3 => ?_)
    ·
      try simp only [Bool.not_eq_true', Bool.not_eq_false', decide_eq_true_eq, decide_eq_false_iff_not, ne_eq, Classical.not_not, Int.not_lt, Int.not_le] at c3
      refine W_seq ?_
      refine W_region_lit (fun ds => ?_)
      refine WS_det hF (by rfl) (y_assign (c := .int .i64 _) (by rfl)) ?_
      refine WS_nil ?_
      refine Then_normal ?_
      refine W_ret ?_
      refine Then_ret ?_
      refine Fin_ret [.int .i64 _] [] Try.results46 ⟨by rfl, trivial⟩ HSub.nil ?_
      show Value.int _ _ = _
      rw [c1, Bool.true_and] at c3
      simp [Lg.err, c1, c3]
    ·
      try simp only [Bool.not_eq_true', Bool.not_eq_false', decide_eq_true_eq, decide_eq_false_iff_not, ne_eq, Classical.not_not, Int.not_lt, Int.not_le] at c3
      refine W_skip ?_
      refine Then_normal ?_
      refine W_seq ?_
      refine W_region_lit (fun ds => ?_)
      refine WS_det hF (by rfl) (y_assign (c := .int .i64 _) (by rfl)) ?_
      refine WS_nil ?_
      refine Then_normal ?_
      refine W_ret ?_
      refine Fin_ret [.int .i64 _] [] Try.results46 ⟨by rfl, trivial⟩ HSub.nil ?_
      show Value.int _ _ = _
      rw [c1, Bool.true_and] at c3
      simp [Lg.err, c1, c3]
end Go.Proofs.Ythkimgfgpphgnaa.T
