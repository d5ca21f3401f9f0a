/- The reference of Eighth. -/
import Derived.Test.YthkimgfgpphgnaaTkD
namespace Go.Proofs.Ythkimgfgpphgnaa.T
open Go.RowKit Go.Proofs Go.Eng
set_option maxRecDepth 100000
set_option linter.unusedVariables false
set_option linter.unusedSimpArgs false



theorem lowI_mul {k d : Int} (hk : 0 ≤ k) (hd : 0 < d) : lowI (k * d) d = lowI k 1 := by
  obtain ⟨k, rfl⟩ := Int.eq_ofNat_of_zero_le hk
  obtain ⟨d, rfl⟩ := Int.eq_ofNat_of_zero_le (Int.le_of_lt hd)
  have hd' : 0 < d := by omega
  have h1 : ((k : Int) * (d : Int)).toNat = k * d := by rw [← Int.natCast_mul]; rfl
  unfold lowI lowest
  rw [h1]
  simp only [Int.toNat_natCast, Nat.gcd_mul_left_left, Nat.mul_div_cancel _ hd', Nat.div_self hd']
  rw [show (1 : Int).toNat = 1 from rfl, Nat.gcd_one_right, Nat.div_one, Nat.div_self (by decide)]
theorem Tk.eighth_ref {t : Tk} (hok : t.Ok) {x : Int} {i j : Nat} (hlb : t.Lb x i) (hx0 : 0 ≤ x) (hx1 : x ≤ t.full) (hj : j + 2 ≤ t.n) (hlo : t.p j ≤ x) (hend : j + 2 = t.n ∨ x < t.p (j + 1)) :
    lowI (8 * (j : Int) * (t.p (j + 1) - t.p j) + 8 * (x - t.p j)) (t.p (j + 1) - t.p j) =
      if i < t.n ∧ t.p i = x then lowI (8 * i) 1 else lowI (8 * (((i : Int) - 1) * (t.p i - t.p (i - 1)) + x - t.p (i - 1))) (t.p i - t.p (i - 1)) := by
  have hinc := hok.inc j (by omega)
  have hend' : x ≤ t.p (j + 1) := by
    rcases hend with h | h
    · have : t.full = t.p (t.n - 1) := rfl
      rw [show t.n - 1 = j + 1 by omega] at this
      omega
    · omega
  by_cases h1 : t.p j = x
  · have hij : i = j := by
      refine Nat.le_antisymm (Nat.le_of_not_lt fun h => ?_) (Nat.le_of_not_lt fun h => ?_)
      · have := hlb.lo j h; omega
      · have := hlb.hi i (Nat.le_refl _) (by omega)
        have := hok.mono h (by omega)
        omega
    subst hij
    rw [if_pos ⟨by omega, h1⟩, h1, Int.sub_self, Int.mul_zero, Int.add_zero, lowI_mul (by omega) (by omega)]
  · have hij : i = j + 1 := by
      refine Nat.le_antisymm (Nat.le_of_not_lt fun h => ?_) (Nat.le_of_not_lt fun h => ?_)
      · have := hlb.lo (j + 1) h; omega
      · have := hlb.hi j (by omega) (by omega); omega
    subst hij
    by_cases h2 : t.p (j + 1) = x
    · rw [if_pos ⟨by omega, h2⟩]
      subst h2
      rw [← Int.add_mul, lowI_mul (by omega) (by omega), show 8 * ((j + 1 : Nat) : Int) = 8 * (j : Int) + 8 by omega]
    · rw [if_neg fun h => h2 h.2, Nat.add_sub_cancel, show ((j + 1 : Nat) : Int) - 1 = (j : Int) by omega, Int.mul_assoc]
      generalize (j : Int) * (t.p (j + 1) - t.p j) = z
      rw [show 8 * z + 8 * (x - t.p j) = 8 * (z + x - t.p j) by omega]

theorem reighth_any (t : Tk) (a : Option Addr) (cap : Nat) (x : Int) (i : Nat) (w : World) (hn : t.n ≤ 1000000) (hx : Ints w a t.n cap t.pints) (hi : t.okB = true → t.Lb x i) :
    Ct Try.prog 16 #[.agg #[.slice a t.n cap, .int .i64 t.leak, .int .i64 t.foot], .int .i64 x] w fun v _ => v = t.eighthV x i := by
  have hF := wide_wide
  refine Ct_start (args := [_, _]) Try.func16 (by rfl) Try.ntmps16 (by rfl) ?_
  refine W_seq ?_
  refine W_region_lit (fun ds => ?_)
  refine WS_new hF (by rfl) (y_box (by rfl)) (fun b1 => ?_)
  refine WS_new hF (by rfl) (y_alloc Try.zeroValue30 (by rfl)) (fun b2 => ?_)
  refine WS_det hF (by rfl) (y_assign (c := .int .i64 _) (by rfl)) ?_
  refine WS_nil ?_
  refine Then_normal ?_
  refine W_seq ?_
  refine W_seq ?_
  refine W_region_lit (fun ds => ?_)
  refine WS_det hF (by rfl) (y_loadN (by rfl) Try.isAgg24 Try.sizeOf24 (Mem.own (us := [.slice _ _ _, .int .i64 _, .int .i64 _]) 1 (by rfl) (by rfl)) (by rfl)) ?_
  refine WS_det hF (by rfl) (y_callL (by rfl) (by rfl) Try.call54 (fun w hw => tank_any t _ _ w hn (hx.st w hw))) ?_
  refine WS_det hF (by rfl) (y_not (by rfl)) ?_
  refine WS_nil ?_
  refine Then_normal ?_
  refine W_cond (by rfl) (fun c1 => ?_) (fun c1 => ?_)
  ·
    try simp only [Bool.not_eq_true', Bool.not_eq_false', decide_eq_true_eq, decide_eq_false_iff_not, ne_eq, Classical.not_not, Int.not_lt, Int.not_le] at c1
    refine W_seq ?_
    refine W_region_lit (fun ds => ?_)
    refine WS_det hF (by rfl) (y_buildL bd30 (by rfl)) ?_
    refine WS_store hF (i := 0) (by rfl) (by rfl) Try.sizeOf30 (by rfl) (by rfl) (by rfl) (by first | decide | exact Nat.le_of_ble_eq_true rfl | simp) ?_
    refine WS_det hF (by rfl) (y_assign (c := .int .i64 _) (by rfl)) ?_
    refine WS_nil ?_
    refine Then_normal ?_
    refine W_ret ?_
    refine Then_ret ?_
    refine Fin_ret [_, .int .i64 _] [] Try.results16 ⟨lvN (by rfl) Try.isAgg30 Try.sizeOf30 (Mem.own (us := [.int .i64 _, .int .i64 _]) 0 (by rfl) (by rfl)) (by rfl), by rfl, trivial⟩ HSub.nil ?_
    show Value.tuple _ = _
    first
    | (simp only [Tk.eighthV, c1, if_true, Bool.false_eq_true, if_false]; done)
    | (simp only [Tk.eighthV, c1, if_true, Bool.false_eq_true, if_false]; rfl)
    | (simp only [Tk.eighthV, c1, c3, if_true, Bool.false_eq_true, if_false]; rfl)
    | (simp only [Tk.eighthV, c1, c3, if_true, Bool.false_eq_true, if_false]; rw [← Tk.eighth_ref hok (hi c1) hxr.1 hxr.2 hk hpk hend]; rfl)
  ·
    try simp only [Bool.not_eq_true', Bool.not_eq_false', decide_eq_true_eq, decide_eq_false_iff_not, ne_eq, Classical.not_not, Int.not_lt, Int.not_le] at c1
    have hok := Tk.ok_iff.1 c1
    have hf := hok.full_bd
    have h2 := hok.n2
    have h21 := hok.n21
    have hp0 := hok.p0
    refine W_skip ?_
    refine Then_normal ?_
    refine W_seq ?_
    refine W_seq ?_
    refine W_region_lit (fun ds => ?_)
    refine WS_det hF (by rfl) (y_move (c := .int .i64 _) (by rfl)) ?_
    refine WS_det hF (by rfl) (y_loadN (by rfl) Try.isAgg24 Try.sizeOf24 (Mem.own (us := [.slice _ _ _, .int .i64 _, .int .i64 _]) 1 (by rfl) (by rfl)) (by rfl)) ?_
    refine WS_det hF (by rfl) (y_callL (by rfl) (by rfl) Try.call56 (fun w hw => full_any t _ _ w hn (by omega) (hx.st w hw))) ?_
    refine WS_det hF (by rfl) (y_callL (by rfl) (by rfl) Try.call68 (fun w hw => within_any _ _ _ w)) ?_
    refine WS_det hF (by rfl) (y_not (by rfl)) ?_
    refine WS_nil ?_
    refine Then_normal ?_
    refine W_cond (by rfl) (fun c3 => ?_) (fun c3 => ?_)
    ·
      try simp only [Bool.not_eq_true', Bool.not_eq_false', decide_eq_true_eq, decide_eq_false_iff_not, ne_eq, Classical.not_not, Int.not_lt, Int.not_le] at c3
      refine W_seq ?_
      refine W_region_lit (fun ds => ?_)
      refine WS_det hF (by rfl) (y_buildL bd30 (by rfl)) ?_
      refine WS_store hF (i := 0) (by rfl) (by rfl) Try.sizeOf30 (by rfl) (by rfl) (by rfl) (by first | decide | exact Nat.le_of_ble_eq_true rfl | simp) ?_
      refine WS_det hF (by rfl) (y_assign (c := .int .i64 _) (by rfl)) ?_
      refine WS_nil ?_
      refine Then_normal ?_
      refine W_ret ?_
      refine Then_ret ?_
      refine Fin_ret [_, .int .i64 _] [] Try.results16 ⟨lvN (by rfl) Try.isAgg30 Try.sizeOf30 (Mem.own (us := [.int .i64 _, .int .i64 _]) 0 (by rfl) (by rfl)) (by rfl), by rfl, trivial⟩ HSub.nil ?_
      show Value.tuple _ = _
      first
      | (simp only [Tk.eighthV, c1, if_true, Bool.false_eq_true, if_false]; done)
      | (simp only [Tk.eighthV, c1, if_true, Bool.false_eq_true, if_false]; rfl)
      | (simp only [Tk.eighthV, c1, c3, if_true, Bool.false_eq_true, if_false]; rfl)
      | (simp only [Tk.eighthV, c1, c3, if_true, Bool.false_eq_true, if_false]; rw [← Tk.eighth_ref hok (hi c1) hxr.1 hxr.2 hk hpk hend]; rfl)
    ·
      try simp only [Bool.not_eq_true', Bool.not_eq_false', decide_eq_true_eq, decide_eq_false_iff_not, ne_eq, Classical.not_not, Int.not_lt, Int.not_le] at c3
      have hxr := inB1.1 c3
      obtain ⟨b, o, rfl⟩ := hx.adr (by omega)
      refine W_skip ?_
      refine Then_normal ?_
      refine W_seq ?_
      refine W_region_lit (fun ds => ?_)
      refine WS_det hF (by rfl) (y_assign (c := .int .i64 _) (by rfl)) ?_
      refine WS_nil ?_
      refine Then_normal ?_
      refine W_seq ?_
      refine W_block ?_
      refine W_loop (γ := Nat) (fun k => k + 2 ≤ t.n ∧ t.p k ≤ x) (fun k => [(6, .int .i64 (k : Int)), (1, .int .i64 x), (2, .pointer (some ⟨b1, 0, none⟩)), (4, .pointer (some ⟨b2, 0, none⟩))]) (fun _ => _) (fun k => t.n - k) (0) ⟨by omega, by omega⟩ (by repeat (first | exact trivial | refine ⟨by rfl, ?_⟩)) (List.Sublist.refl _) ?_
      rintro k e ⟨hk, hpk⟩
      refine W_seq ?_
      refine W_seq ?_
      refine W_region_lit (fun ds => ?_)
      refine WS_det hF (by rfl) (y_move (c := .int .i64 _) (by rfl)) ?_
      refine WS_det hF (by rfl) (y_add (by rfl) (by rfl) (by unfold I64; omega)) ?_
      refine WS_det hF (by rfl) (y_fieldAddr (by rfl) fa24_0) ?_
      refine WS_det hF (by rfl) (y_load1 (by rfl) Try.isAgg22 (Mem.own1 1 (by rfl) (by rfl))) ?_
      refine WS_det hF (by rfl) (y_len (by rfl) Try.runUnderlying22) ?_
      refine WS_det hF (by rfl) (y_lss (by rfl) (by rfl)) ?_
      refine WS_det hF (by rfl) (y_move (c := .bool _) (by rfl)) ?_
      refine WS_split 24 (by rfl) (fun g6_6 => ?_) (fun g6_6 => ?_)
      ·
        try simp only [Bool.not_eq_true', Bool.not_eq_false', decide_eq_true_eq, decide_eq_false_iff_not, ne_eq, Classical.not_not, Int.not_lt, Int.not_le] at g6_6
        have e1 : At w b (o + (k + 1) * 1) [.int .i64 (t.p (k + 1))] := hx.at (k := k + 1) (by omega)
        refine WS_det hF (by rfl) (y_fieldAddr (by rfl) fa24_0) ?_
        refine WS_det hF (by rfl) (y_load1 (by rfl) Try.isAgg22 (Mem.own1 1 (by rfl) (by rfl))) ?_
        refine WS_det hF (by rfl) (y_move (c := .int .i64 _) (by rfl)) ?_
        refine WS_det hF (by rfl) (y_add (by rfl) (by rfl) (by unfold I64; omega)) ?_
        refine WS_det hF (by rfl) (y_index (k := k + 1) (by rfl) (by rfl) (by first | rfl | omega) (by first | decide | omega) Try.runUnderlying22 Try.sizeOf3) ?_
        refine WS_det hF (by rfl) (y_load1 (by rfl) Try.isAgg3 (by first | exact Mem.old1 (by assumption) | exact Mem.oldAt1 (by assumption) (by rfl) | exact Mem.old (by assumption) | exact Mem.oldAtL1 (by assumption) (by rfl) (by rfl))) ?_
        refine WS_det hF (by rfl) (y_move (c := .int .i64 _) (by rfl)) ?_
        refine WS_det hF (by rfl) (y_leq (by rfl) (by rfl)) ?_
        refine WS_det hF (by rfl) (by first | exact y_pick_t (c := .bool _) (by rfl) (by rfl) | exact y_pick_f (c := .bool _) (by rfl) (by rfl)) ?_
        refine WS_nil ?_
        refine Then_normal ?_
        refine W_cond (by rfl) (fun c6 => ?_) (fun c6 => ?_)
        ·
          try simp only [Bool.not_eq_true', Bool.not_eq_false', decide_eq_true_eq, decide_eq_false_iff_not, ne_eq, Classical.not_not, Int.not_lt, Int.not_le] at c6
          refine W_skip ?_
          refine Then_normal ?_
          refine W_block ?_
          refine W_region_lit (fun ds => ?_)
          refine WS_det hF (by rfl) (y_move (c := .int .i64 _) (by rfl)) ?_
          refine WS_det hF (by rfl) (y_add (by rfl) (by rfl) (by unfold I64; omega)) ?_
          refine WS_det hF (by rfl) (y_assign (c := .int .i64 _) (by rfl)) ?_
          refine WS_nil ?_
          refine InB_normal ?_
          exact Loop_next (k + 1) ⟨by omega, by omega⟩ (by repeat (first | exact trivial | refine ⟨by rfl, ?_⟩)) (by repeat (first | exact List.Sublist.refl _ | exact List.nil_sublist _ | apply List.Sublist.cons_cons | apply List.Sublist.cons)) (by omega)
        ·
          try simp only [Bool.not_eq_true', Bool.not_eq_false', decide_eq_true_eq, decide_eq_false_iff_not, ne_eq, Classical.not_not, Int.not_lt, Int.not_le] at c6
          have hend : k + 2 = t.n ∨ x < t.p (k + 1) := by first | exact .inl (by omega) | exact .inr (by omega)
          have e2 : At w b (o + (k + 1) * 1) [.int .i64 (t.p (k + 1))] := hx.at (k := k + 1) (by omega)
          have e0 : At w b (o + k * 1) [.int .i64 (t.p k)] := hx.at (k := k) (by omega)
          have hinc := hok.inc k (by omega)
          have hb := hok.bd k (by omega)
          have hm := mul_bd (a := 8 * (k : Int)) (b := t.p (k + 1) - t.p k) (A := 160) (B := 600) (by omega) (by omega) (by omega) (by omega)
          refine W_exit ?_
          refine Then_exit ?_
          refine Loop_exit ?_
          refine InB_same ?_
          refine Then_normal ?_
          refine W_seq ?_
          refine W_draw0 hF Trymixed [] (by decide +kernel) (fun ds => ?_)
          refine P_det (by rfl) (Over_nil (y_fieldAddr (by rfl) fa24_0)) ?_
          refine P_det (by rfl) (Over_nil (y_load1 (by rfl) Try.isAgg22 (Mem.own1 1 (by rfl) (by rfl)))) ?_
          refine P_det (by rfl) (Over_nil (y_move (c := .int .i64 _) (by rfl))) ?_
          refine P_det (by rfl) (Over_nil (y_add (by rfl) (by rfl) (by unfold I64; omega))) ?_
          refine P_det (by rfl) (Over_nil (y_index (k := k + 1) (by rfl) (by rfl) (by first | rfl | omega) (by first | decide | omega) Try.runUnderlying22 Try.sizeOf3)) ?_
          refine P_det (by rfl) (Over_nil (y_load1 (by rfl) Try.isAgg3 (by first | exact Mem.old1 (by assumption) | exact Mem.oldAt1 (by assumption) (by rfl) | exact Mem.old (by assumption) | exact Mem.oldAtL1 (by assumption) (by rfl) (by rfl)))) ?_
          refine P_det (by rfl) (Over_nil (y_fieldAddr (by rfl) fa24_0)) ?_
          refine P_det (by rfl) (Over_nil (y_load1 (by rfl) Try.isAgg22 (Mem.own1 1 (by rfl) (by rfl)))) ?_
          refine P_det (by rfl) (Over_nil (y_move (c := .int .i64 _) (by rfl))) ?_
          refine P_det (by rfl) (Over_nil (y_index (k := k) (by rfl) (by rfl) (by first | rfl | omega) (by first | decide | omega) Try.runUnderlying22 Try.sizeOf3)) ?_
          refine P_det (by rfl) (Over_nil (y_load1 (by rfl) Try.isAgg3 (by first | exact Mem.old1 (by assumption) | exact Mem.oldAt1 (by assumption) (by rfl) | exact Mem.old (by assumption) | exact Mem.oldAtL1 (by assumption) (by rfl) (by rfl)))) ?_
          refine P_det (by rfl) (Over_nil (y_sub (by rfl) (by rfl) (by unfold I64; omega))) ?_
          refine P_det (by rfl) (Over_nil (y_assign (c := .int .i64 _) (by rfl))) ?_
          refine PW_end (by rfl) ?_
          refine OverAll_nil ?_
          rintro -
          refine Then_normal ?_
          refine W_seq ?_
          refine W_region_lit (fun ds => ?_)
          refine WS_det hF (by rfl) (y_move (c := .int .i64 _) (by rfl)) ?_
          refine WS_det hF (by rfl) (y_mul (by rfl) (by rfl) (by unfold I64; omega)) ?_
          refine WS_det hF (by rfl) (y_move (c := .int .i64 _) (by rfl)) ?_
          refine WS_det hF (by rfl) (y_mul (by rfl) (by rfl) (by unfold I64; omega)) ?_
          refine WS_det hF (by rfl) (y_move (c := .int .i64 _) (by rfl)) ?_
          refine WS_det hF (by rfl) (y_fieldAddr (by rfl) fa24_0) ?_
          refine WS_det hF (by rfl) (y_load1 (by rfl) Try.isAgg22 (Mem.own1 1 (by rfl) (by rfl))) ?_
          refine WS_det hF (by rfl) (y_move (c := .int .i64 _) (by rfl)) ?_
          refine WS_det hF (by rfl) (y_index (k := k) (by rfl) (by rfl) (by first | rfl | omega) (by first | decide | omega) Try.runUnderlying22 Try.sizeOf3) ?_
          refine WS_det hF (by rfl) (y_load1 (by rfl) Try.isAgg3 (by first | exact Mem.old1 (by assumption) | exact Mem.oldAt1 (by assumption) (by rfl) | exact Mem.old (by assumption) | exact Mem.oldAtL1 (by assumption) (by rfl) (by rfl))) ?_
          refine WS_det hF (by rfl) (y_sub (by rfl) (by rfl) (by unfold I64; omega)) ?_
          refine WS_det hF (by rfl) (y_mul (by rfl) (by rfl) (by unfold I64; omega)) ?_
          refine WS_det hF (by rfl) (y_add (by rfl) (by rfl) (by unfold I64; omega)) ?_
          refine WS_det hF (by rfl) (y_move (c := .int .i64 _) (by rfl)) ?_
          refine WS_det hF (by rfl) (y_callL (by rfl) (by rfl) Try.call69 (fun w hw => least_int _ _ w (by omega) (by omega) (by omega) (by omega))) ?_
          refine WS_store hF (i := 0) (by rfl) (by rfl) Try.sizeOf30 (by rfl) (by rfl) (by rfl) (by first | decide | exact Nat.le_of_ble_eq_true rfl | simp) ?_
          refine WS_det hF (by rfl) (y_assign (c := .int .i64 _) (by rfl)) ?_
          refine WS_nil ?_
          refine Then_normal ?_
          refine W_ret ?_
          refine Fin_ret [_, .int .i64 _] [] Try.results16 ⟨lvN (by rfl) Try.isAgg30 Try.sizeOf30 (Mem.own (us := [.int .i64 _, .int .i64 _]) 0 (by rfl) (by rfl)) (by rfl), by rfl, trivial⟩ HSub.nil ?_
          show Value.tuple _ = _
          first
          | (simp only [Tk.eighthV, c1, if_true, Bool.false_eq_true, if_false]; done)
          | (simp only [Tk.eighthV, c1, if_true, Bool.false_eq_true, if_false]; rfl)
          | (simp only [Tk.eighthV, c1, c3, if_true, Bool.false_eq_true, if_false]; rfl)
          | (simp only [Tk.eighthV, c1, c3, if_true, Bool.false_eq_true, if_false]; rw [← Tk.eighth_ref hok (hi c1) hxr.1 hxr.2 hk hpk hend]; rfl)
      ·
        try simp only [Bool.not_eq_true', Bool.not_eq_false', decide_eq_true_eq, decide_eq_false_iff_not, ne_eq, Classical.not_not, Int.not_lt, Int.not_le] at g6_6
        refine WS_no hF (by rfl) ?_
        refine WS_no hF (by rfl) ?_
        refine WS_no hF (by rfl) ?_
        refine WS_no hF (by rfl) ?_
        refine WS_no hF (by rfl) ?_
        refine WS_no hF (by rfl) ?_
        refine WS_no hF (by rfl) ?_
        refine WS_no hF (by rfl) ?_
        refine WS_det hF (by rfl) (by first | exact y_pick_t (c := .bool _) (by rfl) (by rfl) | exact y_pick_f (c := .bool _) (by rfl) (by rfl)) ?_
        refine WS_nil ?_
        refine Then_normal ?_
        refine W_cond (by rfl) (fun c6 => ?_) (fun c6 => ?_)
        · cases c6
        ·
          try simp only [Bool.not_eq_true', Bool.not_eq_false', decide_eq_true_eq, decide_eq_false_iff_not, ne_eq, Classical.not_not, Int.not_lt, Int.not_le] at c6
          have hend : k + 2 = t.n ∨ x < t.p (k + 1) := by first | exact .inl (by omega) | exact .inr (by omega)
          have e2 : At w b (o + (k + 1) * 1) [.int .i64 (t.p (k + 1))] := hx.at (k := k + 1) (by omega)
          have e0 : At w b (o + k * 1) [.int .i64 (t.p k)] := hx.at (k := k) (by omega)
          have hinc := hok.inc k (by omega)
          have hb := hok.bd k (by omega)
          have hm := mul_bd (a := 8 * (k : Int)) (b := t.p (k + 1) - t.p k) (A := 160) (B := 600) (by omega) (by omega) (by omega) (by omega)
          refine W_exit ?_
          refine Then_exit ?_
          refine Loop_exit ?_
          refine InB_same ?_
          refine Then_normal ?_
          refine W_seq ?_
          refine W_draw0 hF Trymixed [] (by decide +kernel) (fun ds => ?_)
          refine P_det (by rfl) (Over_nil (y_fieldAddr (by rfl) fa24_0)) ?_
          refine P_det (by rfl) (Over_nil (y_load1 (by rfl) Try.isAgg22 (Mem.own1 1 (by rfl) (by rfl)))) ?_
          refine P_det (by rfl) (Over_nil (y_move (c := .int .i64 _) (by rfl))) ?_
          refine P_det (by rfl) (Over_nil (y_add (by rfl) (by rfl) (by unfold I64; omega))) ?_
          refine P_det (by rfl) (Over_nil (y_index (k := k + 1) (by rfl) (by rfl) (by first | rfl | omega) (by first | decide | omega) Try.runUnderlying22 Try.sizeOf3)) ?_
          refine P_det (by rfl) (Over_nil (y_load1 (by rfl) Try.isAgg3 (by first | exact Mem.old1 (by assumption) | exact Mem.oldAt1 (by assumption) (by rfl) | exact Mem.old (by assumption) | exact Mem.oldAtL1 (by assumption) (by rfl) (by rfl)))) ?_
          refine P_det (by rfl) (Over_nil (y_fieldAddr (by rfl) fa24_0)) ?_
          refine P_det (by rfl) (Over_nil (y_load1 (by rfl) Try.isAgg22 (Mem.own1 1 (by rfl) (by rfl)))) ?_
          refine P_det (by rfl) (Over_nil (y_move (c := .int .i64 _) (by rfl))) ?_
          refine P_det (by rfl) (Over_nil (y_index (k := k) (by rfl) (by rfl) (by first | rfl | omega) (by first | decide | omega) Try.runUnderlying22 Try.sizeOf3)) ?_
          refine P_det (by rfl) (Over_nil (y_load1 (by rfl) Try.isAgg3 (by first | exact Mem.old1 (by assumption) | exact Mem.oldAt1 (by assumption) (by rfl) | exact Mem.old (by assumption) | exact Mem.oldAtL1 (by assumption) (by rfl) (by rfl)))) ?_
          refine P_det (by rfl) (Over_nil (y_sub (by rfl) (by rfl) (by unfold I64; omega))) ?_
          refine P_det (by rfl) (Over_nil (y_assign (c := .int .i64 _) (by rfl))) ?_
          refine PW_end (by rfl) ?_
          refine OverAll_nil ?_
          rintro -
          refine Then_normal ?_
          refine W_seq ?_
          refine W_region_lit (fun ds => ?_)
          refine WS_det hF (by rfl) (y_move (c := .int .i64 _) (by rfl)) ?_
          refine WS_det hF (by rfl) (y_mul (by rfl) (by rfl) (by unfold I64; omega)) ?_
          refine WS_det hF (by rfl) (y_move (c := .int .i64 _) (by rfl)) ?_
          refine WS_det hF (by rfl) (y_mul (by rfl) (by rfl) (by unfold I64; omega)) ?_
          refine WS_det hF (by rfl) (y_move (c := .int .i64 _) (by rfl)) ?_
          refine WS_det hF (by rfl) (y_fieldAddr (by rfl) fa24_0) ?_
          refine WS_det hF (by rfl) (y_load1 (by rfl) Try.isAgg22 (Mem.own1 1 (by rfl) (by rfl))) ?_
          refine WS_det hF (by rfl) (y_move (c := .int .i64 _) (by rfl)) ?_
          refine WS_det hF (by rfl) (y_index (k := k) (by rfl) (by rfl) (by first | rfl | omega) (by first | decide | omega) Try.runUnderlying22 Try.sizeOf3) ?_
          refine WS_det hF (by rfl) (y_load1 (by rfl) Try.isAgg3 (by first | exact Mem.old1 (by assumption) | exact Mem.oldAt1 (by assumption) (by rfl) | exact Mem.old (by assumption) | exact Mem.oldAtL1 (by assumption) (by rfl) (by rfl))) ?_
          refine WS_det hF (by rfl) (y_sub (by rfl) (by rfl) (by unfold I64; omega)) ?_
          refine WS_det hF (by rfl) (y_mul (by rfl) (by rfl) (by unfold I64; omega)) ?_
          refine WS_det hF (by rfl) (y_add (by rfl) (by rfl) (by unfold I64; omega)) ?_
          refine WS_det hF (by rfl) (y_move (c := .int .i64 _) (by rfl)) ?_
          refine WS_det hF (by rfl) (y_callL (by rfl) (by rfl) Try.call69 (fun w hw => least_int _ _ w (by omega) (by omega) (by omega) (by omega))) ?_
          refine WS_store hF (i := 0) (by rfl) (by rfl) Try.sizeOf30 (by rfl) (by rfl) (by rfl) (by first | decide | exact Nat.le_of_ble_eq_true rfl | simp) ?_
          refine WS_det hF (by rfl) (y_assign (c := .int .i64 _) (by rfl)) ?_
          refine WS_nil ?_
          refine Then_normal ?_
          refine W_ret ?_
          refine Fin_ret [_, .int .i64 _] [] Try.results16 ⟨lvN (by rfl) Try.isAgg30 Try.sizeOf30 (Mem.own (us := [.int .i64 _, .int .i64 _]) 0 (by rfl) (by rfl)) (by rfl), by rfl, trivial⟩ HSub.nil ?_
          show Value.tuple _ = _
          first
          | (simp only [Tk.eighthV, c1, if_true, Bool.false_eq_true, if_false]; done)
          | (simp only [Tk.eighthV, c1, if_true, Bool.false_eq_true, if_false]; rfl)
          | (simp only [Tk.eighthV, c1, c3, if_true, Bool.false_eq_true, if_false]; rfl)
          | (simp only [Tk.eighthV, c1, c3, if_true, Bool.false_eq_true, if_false]; rw [← Tk.eighth_ref hok (hi c1) hxr.1 hxr.2 hk hpk hend]; rfl)
end Go.Proofs.Ythkimgfgpphgnaa.T
