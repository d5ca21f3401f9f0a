/- The dip that tells most: the walk. -/
import Derived.Test.YthkimgfgpphgnaaTkX
namespace Go.Proofs.Ythkimgfgpphgnaa.T
open Go.RowKit Go.Proofs Go.Eng
set_option maxRecDepth 100000
set_option linter.unusedVariables false
set_option linter.unusedSimpArgs false



def cmpI (x y : Int) : Int := if x < y then -1 else if y < x then 1 else 0
theorem compare_any (x y : Int) (w : World) : Ct Try.prog 101 #[.int .i64 x, .int .i64 y] w fun v _ => v = .int .i64 (cmpI x y) := by
  have hF := wide_wide
  refine Ct_start (args := [_, _]) Try.func101 (by rfl) Try.ntmps101 (by rfl) ?_
  refine W_seq ?_
  refine W_region_lit (fun ds => ?_)
  refine WS_det hF (by rfl) (y_assign (c := .int .i64 _) (by rfl)) ?_
  refine WS_nil ?_
  refine Then_normal ?_
  refine W_seq ?_
  refine W_region_lit (fun ds => ?_)
  refine WS_det hF (by rfl) (y_move (c := .int .i64 _) (by rfl)) ?_
  refine WS_det hF (by rfl) (y_callL (by rfl) (by rfl) Try.call129 (fun w hw => cnan_any _ w)) ?_
  refine WS_det hF (by rfl) (y_assign (c := .bool _) (by rfl)) ?_
  refine WS_nil ?_
  refine Then_normal ?_
  refine W_seq ?_
  refine W_region_lit (fun ds => ?_)
  refine WS_det hF (by rfl) (y_move (c := .int .i64 _) (by rfl)) ?_
  refine WS_det hF (by rfl) (y_callL (by rfl) (by rfl) Try.call129 (fun w hw => cnan_any _ w)) ?_
  refine WS_det hF (by rfl) (y_assign (c := .bool _) (by rfl)) ?_
  refine WS_nil ?_
  refine Then_normal ?_
  refine W_seq ?_
  refine W_seq ?_
  refine W_region_lit (fun ds => ?_)
  refine WS_det hF (by rfl) (y_move (c := .bool _) (by rfl)) ?_
  refine WS_nil ?_
  refine Then_normal ?_
  refine W_cond (by rfl) (fun c3 => ?_) (fun c3 => ?_)
  · cases c3
  ·
    try simp only [Bool.not_eq_true', Bool.not_eq_false', decide_eq_true_eq, decide_eq_false_iff_not, ne_eq, Classical.not_not, Int.not_lt, Int.not_le] at c3
    refine W_skip ?_
    refine Then_normal ?_
    refine W_seq ?_
    refine W_seq ?_
    refine W_region_lit (fun ds => ?_)
    refine WS_det hF (by rfl) (y_move (c := .bool _) (by rfl)) ?_
    refine WS_nil ?_
    refine Then_normal ?_
    refine W_cond (by rfl) (fun c7 => ?_) (fun c7 => ?_)
    · cases c7
    ·
      try simp only [Bool.not_eq_true', Bool.not_eq_false', decide_eq_true_eq, decide_eq_false_iff_not, ne_eq, Classical.not_not, Int.not_lt, Int.not_le] at c7
      refine W_skip ?_
      refine Then_normal ?_
      refine W_seq ?_
      refine W_seq ?_
      refine W_region_lit (fun ds => ?_)
      refine WS_det hF (by rfl) (y_move (c := .int .i64 _) (by rfl)) ?_
      refine WS_det hF (by rfl) (y_move (c := .int .i64 _) (by rfl)) ?_
      refine WS_det hF (by rfl) (y_lss (by rfl) (by rfl)) ?_
      refine WS_nil ?_
      refine Then_normal ?_
      refine W_cond (by rfl) (fun c9 => ?_) (fun c9 => ?_)
      ·
        try simp only [Bool.not_eq_true', Bool.not_eq_false', decide_eq_true_eq, decide_eq_false_iff_not, ne_eq, Classical.not_not, Int.not_lt, Int.not_le] at c9
        refine W_seq ?_
        refine W_region_lit (fun ds => ?_)
        refine WS_det hF (by rfl) (y_assign (c := .int .i64 _) (by rfl)) ?_
        refine WS_nil ?_
        refine Then_normal ?_
        refine W_ret ?_
        refine Then_ret ?_
        refine Fin_ret [.int .i64 _] [] Try.results101 ⟨by rfl, trivial⟩ HSub.nil ?_
        show Value.int _ _ = _
        unfold cmpI
        rw [if_pos (by omega)]
      ·
        try simp only [Bool.not_eq_true', Bool.not_eq_false', decide_eq_true_eq, decide_eq_false_iff_not, ne_eq, Classical.not_not, Int.not_lt, Int.not_le] at c9
        refine W_skip ?_
        refine Then_normal ?_
        refine W_seq ?_
        refine W_seq ?_
        refine W_region_lit (fun ds => ?_)
        refine WS_det hF (by rfl) (y_move (c := .int .i64 _) (by rfl)) ?_
        refine WS_det hF (by rfl) (y_move (c := .int .i64 _) (by rfl)) ?_
        refine WS_det hF (by rfl) (y_gtr (by rfl) (by rfl)) ?_
        refine WS_nil ?_
        refine Then_normal ?_
        refine W_cond (by rfl) (fun c11 => ?_) (fun c11 => ?_)
        ·
          try simp only [Bool.not_eq_true', Bool.not_eq_false', decide_eq_true_eq, decide_eq_false_iff_not, ne_eq, Classical.not_not, Int.not_lt, Int.not_le] at c11
          refine W_seq ?_
          refine W_region_lit (fun ds => ?_)
          refine WS_det hF (by rfl) (y_assign (c := .int .i64 _) (by rfl)) ?_
          refine WS_nil ?_
          refine Then_normal ?_
          refine W_ret ?_
          refine Then_ret ?_
          refine Fin_ret [.int .i64 _] [] Try.results101 ⟨by rfl, trivial⟩ HSub.nil ?_
          show Value.int _ _ = _
          unfold cmpI
          rw [if_neg (by omega), if_pos (by omega)]
        ·
          try simp only [Bool.not_eq_true', Bool.not_eq_false', decide_eq_true_eq, decide_eq_false_iff_not, ne_eq, Classical.not_not, Int.not_lt, Int.not_le] at c11
          refine W_skip ?_
          refine Then_normal ?_
          refine W_seq ?_
          refine W_region_lit (fun ds => ?_)
          refine WS_det hF (by rfl) (y_assign (c := .int .i64 _) (by rfl)) ?_
          refine WS_nil ?_
          refine Then_normal ?_
          refine W_ret ?_
          refine Fin_ret [.int .i64 _] [] Try.results101 ⟨by rfl, trivial⟩ HSub.nil ?_
          show Value.int _ _ = _
          unfold cmpI
          rw [if_neg (by omega), if_neg (by omega)]
def worstS (t : Tk) (s : Sn) (i : Int) : Int := max (min (max 0 (t.up i - s.lo)) (s.hi - s.lo + 1)) (s.hi - s.lo + 1 - min (max 0 (t.up i - s.lo)) (s.hi - s.lo + 1))
def Lg.worst (l : Lg) (i : Int) : Int := worstS l.tk l.last i
/-- The first index of the least value. -/
def bestN (f : Nat → Int) : Nat → Nat
  | 0 => 0
  | k + 1 => if f k < f (bestN f k) then k else bestN f k
theorem bestN_le (f : Nat → Int) : ∀ k, bestN f k ≤ k
  | 0 => Nat.le_refl _
  | k + 1 => by
    have := bestN_le f k
    unfold bestN
    split <;> omega
theorem bestN_lt (f : Nat → Int) : ∀ k, 0 < k → bestN f k < k
  | 0, h => by omega
  | k + 1, h => by
    have := bestN_le f k
    unfold bestN
    split <;> omega
/-- What the closures of Ask see. -/
structure Wo (w : World) (b5 b6 b7 kb : Nat) (l : Lg) : Prop where
  k : At w b5 0 [.pointer (some ⟨kb, 0, none⟩)]
  s : At w b6 0 l.last.cells
  f : At w b7 0 [.func (.func 97) #[] #[.pointer (some ⟨b5, 0, none⟩), .pointer (some ⟨b6, 0, none⟩)]]
  kn : Kn w kb l
theorem Wo.st {C : Ctx} {H : List Blk} {b5 b6 b7 kb : Nat} {l : Lg} (h : Wo C.w0 b5 b6 b7 kb l) (w : World) (hw : St C H w) : Wo w b5 b6 b7 kb l := ⟨At.old hw.1 h.k, At.old hw.1 h.s, At.old hw.1 h.f, h.kn.st w hw⟩

theorem ask1_any (b5 b6 b7 kb : Nat) (l : Lg) (i : Int) (w : World) (hW : Wo w b5 b6 b7 kb l) (h0 : 0 ≤ i) (h1 : i ≤ l.tk.height) :
    Ct Try.prog 97 #[.int .i64 i, .pointer (some ⟨b5, 0, none⟩), .pointer (some ⟨b6, 0, none⟩)] w fun v _ => v = .int .i64 (l.worst i) := by
  obtain ⟨k1, k2, _, hok, hne, bk, fb, capf, ab, bb, k3, _, _, _, _, g, a, cap, ae, cape, k4, hG, _⟩ := hW
  have hlb := hok.last_bd hne
  have hfull := hok.tk.full_bd
  have he := hok.tk.eight_bd h0 h1
  have hue : 0 ≤ l.tk.up i ∧ l.tk.up i ≤ 100000 := by unfold Tk.up; omega
  have hF := wide_wide
  refine Ct_start (args := [_, _, _]) Try.func97 (by rfl) Try.ntmps97 (by rfl) ?_
  refine W_seq ?_
  refine W_region_lit (fun ds => ?_)
  refine WS_det hF (by rfl) (y_assign (c := .int .i64 _) (by rfl)) ?_
  refine WS_nil ?_
  refine Then_normal ?_
  refine W_seq ?_
  refine W_draw0 hF Trymixed [] (by decide +kernel) (fun ds => ?_)
  refine P_det (by rfl) (Over_nil (y_load1 (by rfl) Try.isAgg123 (by first | exact Mem.old1 (by assumption) | exact Mem.oldAt1 (by assumption) (by rfl) | exact Mem.old (by assumption) | exact Mem.oldAtL1 (by assumption) (by rfl) (by rfl)))) ?_
  refine P_det (by rfl) (Over_nil (by first | exact y_nilCheck (by rfl) | exact y_nilCheckF (by rfl))) ?_
  refine P_det (by rfl) (Over_nil (y_fieldAddr (by rfl) fa127_0)) ?_
  refine P_det (by rfl) (Over_nil (y_load1 (by rfl) Try.isAgg108 (by first | exact Mem.old1 (by assumption) | exact Mem.oldAt1 (by assumption) (by rfl) | exact Mem.old (by assumption) | exact Mem.oldAtL1 (by assumption) (by rfl) (by rfl)))) ?_
  refine P_det (by rfl) (Over_nil (by first | exact y_nilCheck (by rfl) | exact y_nilCheckF (by rfl))) ?_
  refine P_det (by rfl) (Over_nil (y_fieldAddr (by rfl) fa119_0)) ?_
  refine P_det (by rfl) (Over_nil (y_load1 (by rfl) Try.isAgg93 (by first | exact Mem.old1 (by assumption) | exact Mem.oldAt1 (by assumption) (by rfl) | exact Mem.old (by assumption) | exact Mem.oldAtL1 (by assumption) (by rfl) (by rfl)))) ?_
  refine P_det (by rfl) (Over_nil (y_move (c := .int .i64 _) (by rfl))) ?_
  refine P_det (by rfl) (Over_nil (y_callL (by rfl) (by rfl) Try.call94 (fun w hw => up_any g 0 l.tk i w (hG.st w hw) h0 h1))) ?_
  refine P_det (by rfl) (Over_nil (y_fieldAddr (by rfl) fa26_0)) ?_
  refine P_det (by rfl) (Over_nil (y_load1 (by rfl) Try.isAgg3 (by first | exact Mem.old1 (by assumption) | exact Mem.oldAt1 (by assumption) (by rfl) | exact Mem.old (by assumption) | exact Mem.oldAtL1 (by assumption) (by rfl) (by rfl)))) ?_
  refine P_det (by rfl) (Over_nil (y_sub (by rfl) (by rfl) (by unfold I64; omega))) ?_
  refine P_det (by rfl) (Over_nil (y_max (by rfl) (by rfl))) ?_
  refine P_det (by rfl) (Over_nil (y_fieldAddr (by rfl) fa26_1)) ?_
  refine P_det (by rfl) (Over_nil (y_load1 (by rfl) Try.isAgg3 (by first | exact Mem.old1 (by assumption) | exact Mem.oldAt1 (by assumption) (by rfl) | exact Mem.old (by assumption) | exact Mem.oldAtL1 (by assumption) (by rfl) (by rfl)))) ?_
  refine P_det (by rfl) (Over_nil (y_fieldAddr (by rfl) fa26_0)) ?_
  refine P_det (by rfl) (Over_nil (y_load1 (by rfl) Try.isAgg3 (by first | exact Mem.old1 (by assumption) | exact Mem.oldAt1 (by assumption) (by rfl) | exact Mem.old (by assumption) | exact Mem.oldAtL1 (by assumption) (by rfl) (by rfl)))) ?_
  refine P_det (by rfl) (Over_nil (y_sub (by rfl) (by rfl) (by unfold I64; omega))) ?_
  refine P_det (by rfl) (Over_nil (y_add (by rfl) (by rfl) (by unfold I64; omega))) ?_
  refine P_det (by rfl) (Over_nil (y_min (by rfl) (by rfl))) ?_
  refine P_det (by rfl) (Over_nil (y_assign (c := .int .i64 _) (by rfl))) ?_
  refine PW_end (by rfl) ?_
  refine OverAll_nil ?_
  rintro -
  refine Then_normal ?_
  refine W_seq ?_
  refine W_region_lit (fun ds => ?_)
  refine WS_det hF (by rfl) (y_move (c := .int .i64 _) (by rfl)) ?_
  refine WS_det hF (by rfl) (y_fieldAddr (by rfl) fa26_1) ?_
  refine WS_det hF (by rfl) (y_load1 (by rfl) Try.isAgg3 (by first | exact Mem.old1 (by assumption) | exact Mem.oldAt1 (by assumption) (by rfl) | exact Mem.old (by assumption) | exact Mem.oldAtL1 (by assumption) (by rfl) (by rfl))) ?_
  refine WS_det hF (by rfl) (y_fieldAddr (by rfl) fa26_0) ?_
  refine WS_det hF (by rfl) (y_load1 (by rfl) Try.isAgg3 (by first | exact Mem.old1 (by assumption) | exact Mem.oldAt1 (by assumption) (by rfl) | exact Mem.old (by assumption) | exact Mem.oldAtL1 (by assumption) (by rfl) (by rfl))) ?_
  refine WS_det hF (by rfl) (y_sub (by rfl) (by rfl) (by unfold I64; omega)) ?_
  refine WS_det hF (by rfl) (y_add (by rfl) (by rfl) (by unfold I64; omega)) ?_
  refine WS_det hF (by rfl) (y_move (c := .int .i64 _) (by rfl)) ?_
  refine WS_det hF (by rfl) (y_sub (by rfl) (by rfl) (by unfold I64; omega)) ?_
  refine WS_det hF (by rfl) (y_max (by rfl) (by rfl)) ?_
  refine WS_det hF (by rfl) (y_assign (c := .int .i64 _) (by rfl)) ?_
  refine WS_nil ?_
  refine Then_normal ?_
  refine W_ret ?_
  refine Fin_ret [.int .i64 _] [] Try.results97 ⟨by rfl, trivial⟩ HSub.nil ?_
  rfl
theorem ask3_any (b5 b6 b7 kb : Nat) (l : Lg) (x y : Int) (w : World) (hW : Wo w b5 b6 b7 kb l) (h0 : 0 ≤ x) (h1 : x ≤ l.tk.height) (h2 : 0 ≤ y) (h3 : y ≤ l.tk.height) :
    Ct Try.prog 100 #[.int .i64 x, .int .i64 y, .pointer (some ⟨b7, 0, none⟩)] w fun v _ => v = .int .i64 (cmpI (l.worst x) (l.worst y)) := by
  have hW0 := hW
  obtain ⟨_, _, k3, _⟩ := hW
  have hF := wide_wide
  refine Ct_start (args := [_, _, _]) Try.func100 (by rfl) Try.ntmps100 (by rfl) ?_
  refine W_seq ?_
  refine W_region_lit (fun ds => ?_)
  refine WS_det hF (by rfl) (y_assign (c := .int .i64 _) (by rfl)) ?_
  refine WS_nil ?_
  refine Then_normal ?_
  refine W_seq ?_
  refine W_draw0 hF Trymixed [] (by decide +kernel) (fun ds => ?_)
  refine P_det (by rfl) (Over_nil (y_load1 (by rfl) Try.isAgg99 (by first | exact Mem.old1 (by assumption) | exact Mem.oldAt1 (by assumption) (by rfl) | exact Mem.old (by assumption) | exact Mem.oldAtL1 (by assumption) (by rfl) (by rfl)))) ?_
  refine P_det (by rfl) (Over_nil (y_move (c := .int .i64 _) (by rfl))) ?_
  refine P_det (by rfl) (Over_nil (y_callL (by rfl) (by rfl) Try.call97 (fun w hw => ask1_any b5 b6 b7 kb l x w (hW0.st w hw) h0 h1))) ?_
  refine P_det (by rfl) (Over_nil (y_load1 (by rfl) Try.isAgg99 (by first | exact Mem.old1 (by assumption) | exact Mem.oldAt1 (by assumption) (by rfl) | exact Mem.old (by assumption) | exact Mem.oldAtL1 (by assumption) (by rfl) (by rfl)))) ?_
  refine P_det (by rfl) (Over_nil (y_move (c := .int .i64 _) (by rfl))) ?_
  refine P_det (by rfl) (Over_nil (y_callL (by rfl) (by rfl) Try.call97 (fun w hw => ask1_any b5 b6 b7 kb l y w (hW0.st w hw) h2 h3))) ?_
  refine P_det (by rfl) (Over_nil (y_callL (by rfl) (by rfl) Try.call101 (fun w hw => compare_any _ _ w))) ?_
  refine P_det (by rfl) (Over_nil (y_assign (c := .int .i64 _) (by rfl))) ?_
  refine PW_end (by rfl) ?_
  refine OverAll_nil ?_
  rintro -
  refine Then_normal ?_
  refine W_ret ?_
  refine Fin_ret [.int .i64 _] [] Try.results100 ⟨by rfl, trivial⟩ HSub.nil ?_
  rfl
theorem ask2_it (w0 : World) (ds0 out0 : List Deferred) (b5 b6 b7 kb : Nat) (l : Lg) (hW : Wo w0 b5 b6 b7 kb l) :
    It ⟨Try.prog, w0, ds0, out0⟩ 99 [.pointer (some ⟨b5, 0, none⟩)] (fun k => [.int .i64 (k : Int)]) (8 * (l.tk.n - 1) + 1) [] := by
  intro lp J Jx hY G hJ
  obtain ⟨k1, _, _, hok, hne, bk, fb, capf, ab, bb, k3, _, _, _, _, g, a, cap, ae, cape, k4, ⟨_, a2, cap2, hg, _⟩, _⟩ := hW
  have hn2 := hok.tk.n2
  have hn21 := hok.tk.n21
  have hh : l.tk.height = 8 * ((l.tk.n : Int) - 1) := rfl
  have hF := wide_wide
  refine Cs_start (args := [_, _]) Try.func99 (by rfl) Try.ntmps99 (by rfl) ?_
  refine W_seq ?_
  refine W_region_lit (fun ds => ?_)
  refine WS_det hF (by rfl) (y_load1 (by rfl) Try.isAgg123 (by first | exact Mem.old1 (by assumption) | exact Mem.oldAt1 (by assumption) (by rfl) | exact Mem.old (by assumption) | exact Mem.oldAtL1 (by assumption) (by rfl) (by rfl))) ?_
  refine WS_det hF (by rfl) (by first | exact y_nilCheck (by rfl) | exact y_nilCheckF (by rfl)) ?_
  refine WS_det hF (by rfl) (y_fieldAddr (by rfl) fa127_0) ?_
  refine WS_det hF (by rfl) (y_load1 (by rfl) Try.isAgg108 (by first | exact Mem.old1 (by assumption) | exact Mem.oldAt1 (by assumption) (by rfl) | exact Mem.old (by assumption) | exact Mem.oldAtL1 (by assumption) (by rfl) (by rfl))) ?_
  refine WS_det hF (by rfl) (by first | exact y_nilCheck (by rfl) | exact y_nilCheckF (by rfl)) ?_
  refine WS_det hF (by rfl) (y_fieldAddr (by rfl) fa119_0) ?_
  refine WS_det hF (by rfl) (y_load1 (by rfl) Try.isAgg93 (by first | exact Mem.old1 (by assumption) | exact Mem.oldAt1 (by assumption) (by rfl) | exact Mem.old (by assumption) | exact Mem.oldAtL1 (by assumption) (by rfl) (by rfl))) ?_
  refine WS_det hF (by rfl) (by first | exact y_nilCheck (by rfl) | exact y_nilCheckF (by rfl)) ?_
  refine WS_det hF (by rfl) (y_fieldAddr (by rfl) fa98_2) ?_
  refine WS_det hF (by rfl) (y_load1 (by rfl) Try.isAgg3 (by first | exact Mem.old1 (by assumption) | exact Mem.oldAt1 (by assumption) (by rfl) | exact Mem.old (by assumption) | exact Mem.oldAtL1 (by assumption) (by rfl) (by rfl))) ?_
  refine WS_det hF (by rfl) (y_add (by rfl) (by rfl) (by unfold I64; omega)) ?_
  refine WS_det hF (by rfl) (y_move (c := .int .i64 _) (by rfl)) ?_
  refine WS_nil ?_
  refine Then_normal ?_
  refine W_block ?_
  refine W_loop (γ := Nat × List Blk) (fun p => p.1 ≤ 8 * (l.tk.n - 1) + 1 ∧ J p.1 p.2) (fun p => [(0, .func (.yield lp) #[] #[]), (14, .int .i64 (l.tk.height + 1)), (15, .int .i64 (p.1 : Int))]) (fun p => p.2) (fun p => 8 * (l.tk.n - 1) + 1 - p.1) ((0, G)) ⟨Nat.zero_le _, hJ⟩ (by repeat (first | exact trivial | refine ⟨by rfl, ?_⟩)) (List.Sublist.refl _) ?_
  rintro ⟨k, G2⟩ e ⟨hk, hj2⟩
  refine W_seq ?_
  refine W_region_lit (fun ds => ?_)
  refine WS_det hF (by rfl) (y_lss (by rfl) (by rfl)) ?_
  refine WS_nil ?_
  refine Then_normal ?_
  refine W_seq ?_
  refine W_cond (by rfl) (fun c1 => ?_) (fun c1 => ?_)
  ·
    try simp only [Bool.not_eq_true', Bool.not_eq_false', decide_eq_true_eq, decide_eq_false_iff_not, ne_eq, Classical.not_not, Int.not_lt, Int.not_le] at c1
    refine W_skip ?_
    refine Then_normal ?_
    refine W_seq ?_
    refine W_block ?_
    refine W_seq ?_
    refine W_region_lit (fun ds => ?_)
    refine WS_det hF (by rfl) (y_move (c := .int .i64 _) (by rfl)) ?_
    refine WS_det hF (by rfl) (y_assign (c := .int .i64 _) (by rfl)) ?_
    refine WS_nil ?_
    refine Then_normal ?_
    refine W_seq ?_
    refine W_region_lit (fun ds => ?_)
    refine WS_det hF (by rfl) (y_move (c := _) (by rfl)) ?_
    refine WS_det hF (by rfl) (y_move (c := .int .i64 _) (by rfl)) ?_
    refine WS_yield (by rfl) (by rfl) (by rfl) (hY k (by omega) ds [] G2 hj2) ?_
    rintro yb G3 ⟨G4, hGe, hb⟩
    replace hGe : G3 = G4 := hGe
    subst hGe
    refine WS_det hF (by rfl) (y_not (by rfl)) ?_
    refine WS_nil ?_
    refine Then_normal ?_
    refine W_cond (by rfl) (fun c3 => ?_) (fun c3 => ?_)
    ·
      try simp only [Bool.not_eq_true', Bool.not_eq_false', decide_eq_true_eq, decide_eq_false_iff_not, ne_eq, Classical.not_not, Int.not_lt, Int.not_le] at c3
      obtain ⟨rfl, hj3⟩ | ⟨_, hj3⟩ := hb
      · cases c3
      refine W_ret ?_
      refine InB_ret ?_
      refine Then_ret ?_
      refine Loop_ret ?_
      refine InB_ret ?_
      refine Fin_ret [] G3 Try.results99 trivial HSub.refl ?_
      exact ⟨G3, rfl, .inr ⟨k, by omega, hj3⟩⟩
    ·
      try simp only [Bool.not_eq_true', Bool.not_eq_false', decide_eq_true_eq, decide_eq_false_iff_not, ne_eq, Classical.not_not, Int.not_lt, Int.not_le] at c3
      obtain ⟨_, hj3⟩ | ⟨rfl, hj3⟩ := hb
      case inr => cases c3
      refine W_skip ?_
      refine InB_normal ?_
      refine Then_normal ?_
      refine W_region_lit (fun ds => ?_)
      refine WS_det hF (by rfl) (y_add (by rfl) (by rfl) (by unfold I64; omega)) ?_
      refine WS_det hF (by rfl) (y_move (c := .int .i64 _) (by rfl)) ?_
      refine WS_nil ?_
      exact Loop_next (k + 1, G3) ⟨by omega, hj3⟩ (by repeat (first | exact trivial | refine ⟨by rfl, ?_⟩)) (by repeat (first | exact List.Sublist.refl _ | exact List.nil_sublist _ | apply List.Sublist.cons_cons | apply List.Sublist.cons)) (by simp only; omega)
  ·
    try simp only [Bool.not_eq_true', Bool.not_eq_false', decide_eq_true_eq, decide_eq_false_iff_not, ne_eq, Classical.not_not, Int.not_lt, Int.not_le] at c1
    refine W_exit ?_
    refine Then_exit ?_
    refine Loop_exit ?_
    refine InB_same ?_
    refine Fin_norm [] G2 Try.results99 trivial HSub.refl ?_
    obtain rfl : k = 8 * (l.tk.n - 1) + 1 := by omega
    exact ⟨G2, rfl, .inl hj2⟩
end Go.Proofs.Ythkimgfgpphgnaa.T
