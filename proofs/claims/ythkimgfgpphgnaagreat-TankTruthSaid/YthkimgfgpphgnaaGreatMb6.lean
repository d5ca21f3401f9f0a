/- Proved: for every input, with no condition, the law TankTruth returns true and the input reads as it did (Rows.TankTruthSaid). -/
import Derived.Test.YthkimgfgpphgnaaGreatMb5
import Derived.Test.YthkimgfgpphgnaaGreatMb2
set_option linter.unusedVariables false
set_option linter.unusedSimpArgs false
/- The first truth: the law walked. -/
namespace Go.Proofs.YthkimgfgpphgnaaGreat.T
open Go.RowKit Go.Proofs Go.Eng
set_option maxRecDepth 100000
set_option maxHeartbeats 2000000
set_option linter.unusedVariables false
set_option linter.unusedSimpArgs false



theorem Tk.Mv.k1 {t : Tk} {x : En} {u w : Int} (h : t.Mv x u w) (hk : x.kind = 1) : u + x.size.lo ≤ w ∧ w ≤ u + x.size.hi := by
  rcases h with ⟨_, h⟩ | ⟨h2, _⟩ | ⟨h2, _⟩ <;> omega
theorem Tk.Mv.k2 {t : Tk} {x : En} {u w : Int} (h : t.Mv x u w) (hk : x.kind = 2) : u - x.size.hi ≤ w ∧ w ≤ u - x.size.lo := by
  rcases h with ⟨h2, _⟩ | ⟨_, h⟩ | ⟨h2, _⟩ <;> omega
theorem Tk.Mv.k3 {t : Tk} {x : En} {u w : Int} (h : t.Mv x u w) (hk : x.kind = 3) : w = u ∧ t.eight x.size.lo ≤ 8 * w ∧ 8 * w ≤ t.eight x.size.hi := by
  rcases h with ⟨h2, _⟩ | ⟨h2, _⟩ | ⟨_, h, h3⟩
  · omega
  · omega
  · unfold Sn.In Tk.dip Tk.up Tk.down at h3
    simp only at h3
    omega
theorem tankTruth_no (l : Lg) (a : Option Addr) (cap : Nat) (ae : Option Addr) (cape : Nat) (p : Int) (w : World) (hx : Ints w a l.tk.n cap l.tk.pints) (he : Ens w ae l.es.length cape l.es) (hr : l.trB = false) :
    Ct Tryz.prog 9 #[.agg #[.slice a l.tk.n cap, .int .i64 l.tk.leak, .int .i64 l.tk.foot, .int .i64 l.start.lo, .int .i64 l.start.hi, .slice ae l.es.length cape], .int .u8 p] w fun v _ => v = .bool true := by
  have hF := wide_wide
  refine Ct_start (args := [_, _]) Tryz.func9 (by rfl) Tryz.ntmps9 (by rfl) ?_
  refine W_seq ?_
  refine W_region_lit (fun ds => ?_)
  refine WS_new hF (by rfl) (y_box (by rfl)) (fun b1 => ?_)
  refine WS_det hF (by rfl) (y_assign (c := .bool _) (by rfl)) ?_
  refine WS_nil ?_
  refine Then_normal ?_
  refine W_seq ?_
  refine W_region_lit (fun ds => ?_)
  refine WS_det hF (by rfl) (y_callL (by rfl) (by rfl) Tryz.call10 (fun w hw => alive_any w)) ?_
  refine WS_det hF (by rfl) (y_assign (c := .bool _) (by rfl)) ?_
  refine WS_nil ?_
  refine Then_normal ?_
  refine W_seq ?_
  refine W_seq ?_
  refine W_region_lit (fun ds => ?_)
  refine WS_det hF (by rfl) (y_loadN (by rfl) Tryz.isAgg29 Tryz.sizeOf29 (Mem.own (us := [.slice _ _ _, .int .i64 _, .int .i64 _, .int .i64 _, .int .i64 _, .slice _ _ _]) 0 (by rfl) (by rfl)) (by rfl)) ?_
  refine WS_det hF (by rfl) (y_callL (by rfl) (by rfl) Tryz.call11 (fun w hw => Ct_eq (ltruth_any l a cap ae cape w (hx.st w hw) (he.st w hw)) (by rw [hr]))) ?_
  refine WS_det hF (by rfl) (y_not (by rfl)) ?_
  refine WS_det hF (by rfl) (y_move (c := .bool _) (by rfl)) ?_
  refine WS_no hF (by rfl) ?_
  refine WS_no hF (by rfl) ?_
  refine WS_det hF (by rfl) (by first | exact y_pick_t (c := .bool _) (by rfl) (by rfl) | exact y_pick_f (c := .bool _) (by rfl) (by rfl)) ?_
  refine WS_nil ?_
  refine Then_normal ?_
  refine W_cond (by rfl) (fun c2 => ?_) (fun c2 => ?_)
  ·
    try simp only [Bool.not_eq_true', Bool.not_eq_false', decide_eq_true_eq, decide_eq_false_iff_not, ne_eq, Classical.not_not, Int.not_lt, Int.not_le] at c2
    refine W_seq ?_
    refine W_region_lit (fun ds => ?_)
    refine WS_det hF (by rfl) (y_move (c := .bool _) (by rfl)) ?_
    refine WS_det hF (by rfl) (y_assign (c := .bool _) (by rfl)) ?_
    refine WS_nil ?_
    refine Then_normal ?_
    refine W_ret ?_
    refine Then_ret ?_
    refine Fin_ret [.bool _] [] Tryz.results9 ⟨by rfl, trivial⟩ HSub.nil ?_
    rfl
  · cases c2
theorem tankTruth_ok (l : Lg) (a : Option Addr) (cap : Nat) (ae : Option Addr) (cape : Nat) (p : Int) (j : Nat) (w : World) (hn : l.tk.n ≤ 1000000) (hnes : l.es.length ≤ 1000000) (hp0 : 0 ≤ p) (hp1 : p ≤ 255) (hx : Ints w a l.tk.n cap l.tk.pints) (he : Ens w ae l.es.length cape l.es) (hr : l.trB = true) (hJ : p % ((l.es.length : Int) + 1) = (j : Int)) (hj : j ≤ l.es.length) :
    Ct Tryz.prog 9 #[.agg #[.slice a l.tk.n cap, .int .i64 l.tk.leak, .int .i64 l.tk.foot, .int .i64 l.start.lo, .int .i64 l.start.hi, .slice ae l.es.length cape], .int .u8 p] w fun v _ => v = .bool true := by
  obtain ⟨hrd, h0⟩ := Lg.trB_iff.1 hr
  obtain ⟨_, _, herr⟩ := Lg.rdy_iff.1 hrd
  have hh : l.holdsB = true := l.holdsB_iff.2 (l.aerr0 h0).2
  have hok := l.ok_of herr
  have hn12 := hok.n12
  have hn2 := hok.tk.n2
  have hf := hok.tk.full_bd
  obtain ⟨U, ht⟩ := Lg.tr_tru hok hh
  have hst : l.start.lo ≤ l.tr 0 ∧ l.tr 0 ≤ l.start.hi := ht.st
  have htr0 : l.tr 0 = (l.at 0).lo := rfl
  have hcap := he.le
  have htb := ht.bd hok
  have hF := wide_wide
  refine Ct_start (args := [_, _]) Tryz.func9 (by rfl) Tryz.ntmps9 (by rfl) ?_
  refine W_seq ?_
  refine W_region_lit (fun ds => ?_)
  refine WS_new hF (by rfl) (y_box (by rfl)) (fun b1 => ?_)
  refine WS_det hF (by rfl) (y_assign (c := .bool _) (by rfl)) ?_
  refine WS_nil ?_
  refine Then_normal ?_
  refine W_seq ?_
  refine W_region_lit (fun ds => ?_)
  refine WS_det hF (by rfl) (y_callL (by rfl) (by rfl) Tryz.call10 (fun w hw => alive_any w)) ?_
  refine WS_det hF (by rfl) (y_assign (c := .bool _) (by rfl)) ?_
  refine WS_nil ?_
  refine Then_normal ?_
  refine W_seq ?_
  refine W_seq ?_
  refine W_region_lit (fun ds => ?_)
  refine WS_det hF (by rfl) (y_loadN (by rfl) Tryz.isAgg29 Tryz.sizeOf29 (Mem.own (us := [.slice _ _ _, .int .i64 _, .int .i64 _, .int .i64 _, .int .i64 _, .slice _ _ _]) 0 (by rfl) (by rfl)) (by rfl)) ?_
  refine WS_det hF (by rfl) (y_callL (by rfl) (by rfl) Tryz.call11 (fun w hw => Ct_eq (ltruth_any l a cap ae cape w (hx.st w hw) (he.st w hw)) (by rw [hr]))) ?_
  refine WS_det hF (by rfl) (y_not (by rfl)) ?_
  refine WS_det hF (by rfl) (y_move (c := .bool _) (by rfl)) ?_
  refine WS_det hF (by rfl) (y_move (c := .bool _) (by rfl)) ?_
  refine WS_det hF (by rfl) (y_not (by rfl)) ?_
  refine WS_det hF (by rfl) (by first | exact y_pick_t (c := .bool _) (by rfl) (by rfl) | exact y_pick_f (c := .bool _) (by rfl) (by rfl)) ?_
  refine WS_nil ?_
  refine Then_normal ?_
  refine W_cond (by rfl) (fun c2 => ?_) (fun c2 => ?_)
  · cases c2
  ·
    try simp only [Bool.not_eq_true', Bool.not_eq_false', decide_eq_true_eq, decide_eq_false_iff_not, ne_eq, Classical.not_not, Int.not_lt, Int.not_le] at c2
    refine W_skip ?_
    refine Then_normal ?_
    refine W_seq ?_
    refine W_draw0 hF Tryzmixed [] (by decide +kernel) (fun ds => ?_)
    refine P_det (by rfl) (Over_nil (y_fieldAddr (by rfl) fa29_2)) ?_
    refine P_det (by rfl) (Over_nil (y_load1 (by rfl) Tryz.isAgg27 (Mem.own1 0 (by rfl) (by rfl)))) ?_
    refine P_det (by rfl) (Over_nil (y_len (by rfl) Tryz.runUnderlying27)) ?_
    refine P_det (by rfl) (Over_nil (y_fieldAddr (by rfl) fa29_0)) ?_
    refine P_det (by rfl) (Over_nil (y_loadN (by rfl) Tryz.isAgg24 Tryz.sizeOf24 (Mem.own (us := [.slice _ _ _, .int .i64 _, .int .i64 _]) 0 (by rfl) (by rfl)) (by rfl))) ?_
    refine P_det (by rfl) (Over_nil (y_callL (by rfl) (by rfl) Tryz.call14 (fun w hw => full_any l.tk a cap w hn (by omega) (hx.st w hw)))) ?_
    refine P_det (by rfl) (Over_nil (y_assign (c := .int .i64 _) (by rfl))) ?_
    refine P_det (by rfl) (Over_nil (y_assign (c := .int .i64 _) (by rfl))) ?_
    refine PW_end (by rfl) ?_
    refine OverAll_nil ?_
    rintro -
    refine Then_normal ?_
    refine W_seq ?_
    refine W_region_lit (fun ds => ?_)
    refine WS_det hF (by rfl) (y_loadN (by rfl) Tryz.isAgg29 Tryz.sizeOf29 (Mem.own (us := [.slice _ _ _, .int .i64 _, .int .i64 _, .int .i64 _, .int .i64 _, .slice _ _ _]) 0 (by rfl) (by rfl)) (by rfl)) ?_
    refine WS_gen hF (by rfl) (y_callL (by rfl) (by rfl) Tryz.call31 (fun w hw => truth_any l a cap ae cape w hn (hx.st w hw) (he.st w hw))) ?_
    rintro _ _ hT
    obtain ⟨tb, tcap, junk, rfl, htc, rfl⟩ := hT.2 h0
    refine WS_det hF (by rfl) (y_move (c := .tuple _) (by rfl)) ?_
    refine WS_det hF (by rfl) (y_extract (c := .slice _ _ _) (by rfl) (by rfl)) ?_
    refine WS_det hF (by rfl) (y_extract (c := .int .i64 _) (by rfl) (by rfl)) ?_
    refine WS_det hF (by rfl) (y_assign (c := .slice _ _ _) (by rfl)) ?_
    refine WS_det hF (by rfl) (y_assign (c := .int .i64 _) (by rfl)) ?_
    refine WS_nil ?_
    refine Then_normal ?_
    refine W_seq ?_
    refine W_seq ?_
    refine W_draw0 hF Tryzmixed [] (by decide +kernel) (fun ds => ?_)
    refine P_det (by rfl) (Over_nil (y_move (c := .int .i64 _) (by rfl))) ?_
    refine P_det (by rfl) (Over_nil (YD_no (y_neq (by rfl) (by rfl)) dect)) ?_
    refine P_det (by rfl) (Over_nil (y_move (c := .bool _) (by rfl))) ?_
    refine P_det (by rfl) (Over_nil (y_move (c := .slice _ _ _) (by rfl))) ?_
    refine P_det (by rfl) (Over_nil (y_len (by rfl) Tryz.runUnderlying22)) ?_
    refine P_det (by rfl) (Over_nil (y_move (c := .int .i64 _) (by rfl))) ?_
    refine P_det (by rfl) (Over_nil (y_add (by rfl) (by rfl) (by unfold I64; omega))) ?_
    refine P_det (by rfl) (Over_nil (YD_no (y_neq (by rfl) (by rfl)) dect)) ?_
    refine P_det (by rfl) (Over_nil (by first | exact y_pick_t (c := .bool _) (by rfl) (by rfl) | exact y_pick_f (c := .bool _) (by rfl) (by rfl))) ?_
    refine P_det (by rfl) (Over_nil (y_move (c := .bool _) (by rfl))) ?_
    refine P_det (by rfl) (Over_nil (y_move (c := .slice _ _ _) (by rfl))) ?_
    refine P_det (by rfl) (Over_nil (y_index (k := 0) (by rfl) (by rfl) (by first | rfl | omega) (by first | decide | omega) Tryz.runUnderlying22 Tryz.sizeOf3)) ?_
    refine P_det (by rfl) (Over_nil (y_load1 (by rfl) Tryz.isAgg3 (Mem.iRowJ (f := l.tr) (k := 0) 0 (by rfl) (by omega) (by omega)))) ?_
    refine P_det (by rfl) (Over_nil (y_fieldAddr (by rfl) fa29_1)) ?_
    refine P_det (by rfl) (Over_nil (y_fieldAddr (by rfl) fa26_0)) ?_
    refine P_det (by rfl) (Over_nil (y_load1 (by rfl) Tryz.isAgg3 (Mem.own1 1 (by rfl) (by rfl)))) ?_
    refine P_det (by rfl) (Over_nil (YD_no (y_lss (by rfl) (by rfl)) dect)) ?_
    refine P_det (by rfl) (Over_nil (by first | exact y_pick_t (c := .bool _) (by rfl) (by rfl) | exact y_pick_f (c := .bool _) (by rfl) (by rfl))) ?_
    refine P_det (by rfl) (Over_nil (y_move (c := .bool _) (by rfl))) ?_
    refine P_det (by rfl) (Over_nil (y_move (c := .slice _ _ _) (by rfl))) ?_
    refine P_det (by rfl) (Over_nil (y_index (k := 0) (by rfl) (by rfl) (by first | rfl | omega) (by first | decide | omega) Tryz.runUnderlying22 Tryz.sizeOf3)) ?_
    refine P_det (by rfl) (Over_nil (y_load1 (by rfl) Tryz.isAgg3 (Mem.iRowJ (f := l.tr) (k := 0) 0 (by rfl) (by omega) (by omega)))) ?_
    refine P_det (by rfl) (Over_nil (y_fieldAddr (by rfl) fa29_1)) ?_
    refine P_det (by rfl) (Over_nil (y_fieldAddr (by rfl) fa26_1)) ?_
    refine P_det (by rfl) (Over_nil (y_load1 (by rfl) Tryz.isAgg3 (Mem.own1 1 (by rfl) (by rfl)))) ?_
    refine P_det (by rfl) (Over_nil (YD_no (y_gtr (by rfl) (by rfl)) dect)) ?_
    refine P_det (by rfl) (Over_nil (by first | exact y_pick_t (c := .bool _) (by rfl) (by rfl) | exact y_pick_f (c := .bool _) (by rfl) (by rfl))) ?_
    refine PW_end (by rfl) ?_
    refine OverAll_nil ?_
    rintro -
    refine Then_normal ?_
    refine W_cond (by rfl) (fun c6 => ?_) (fun c6 => ?_)
    · cases c6
    ·
      try simp only [Bool.not_eq_true', Bool.not_eq_false', decide_eq_true_eq, decide_eq_false_iff_not, ne_eq, Classical.not_not, Int.not_lt, Int.not_le] at c6
      refine W_skip ?_
      refine Then_normal ?_
      refine W_seq ?_
      refine W_seq ?_
      refine W_keep [(1, .int .u8 _), (2, .pointer _), (4, .bool _), (5, .bool _), (6, .int .i64 _), (7, .int .i64 _), (8, .slice _ _ _)] (by repeat (first | exact trivial | refine ⟨by rfl, ?_⟩)) (fun e => ?_)
      refine W_region_lit (fun ds => ?_)
      refine WS_det hF (by rfl) (y_fieldAddr (by rfl) fa29_2) ?_
      refine WS_det hF (by rfl) (y_load1 (by rfl) Tryz.isAgg27 (Mem.own1 1 (by rfl) (by rfl))) ?_
      refine WS_det hF (by rfl) (y_len (by rfl) Tryz.runUnderlying27) ?_
      refine WS_det hF (by rfl) (y_move (c := .int .i64 _) (by rfl)) ?_
      refine WS_nil ?_
      refine Then_normal ?_
      refine W_block ?_
      refine W_loop (γ := Nat) (fun k => k ≤ l.es.length) (fun k => [(76, .int .i64 (k : Int)), (75, .int .i64 (l.es.length : Int)), (74, .slice ae l.es.length cape), (1, .int .u8 p), (2, .pointer (some ⟨b1, 0, none⟩)), (5, .bool true), (6, .int .i64 (l.es.length : Int)), (7, .int .i64 l.tk.full), (8, .slice (some ⟨tb, 0, none⟩) (l.es.length + 1) tcap)]) (fun k => [(tb, CB (iRow l.tr (l.es.length + 1) ++ junk) 3), (b1, CB [.slice a l.tk.n cap, .int .i64 l.tk.leak, .int .i64 l.tk.foot, .int .i64 l.start.lo, .int .i64 l.start.hi, .slice ae l.es.length cape] 29)]) (fun k => l.es.length - k) (0) (Nat.zero_le _) (by repeat (first | exact trivial | refine ⟨by rfl, ?_⟩)) ((by repeat (first | exact List.Sublist.refl _ | exact List.sublist_append_left _ _ | exact List.nil_sublist _ | apply List.Sublist.cons_cons | apply List.Sublist.cons | refine List.Sublist.trans ?_ (List.sublist_append_right _ _)))) ?_
      intro k e hk
      refine W_seq ?_
      refine W_region_lit (fun ds => ?_)
      refine WS_det hF (by rfl) (y_lss (by rfl) (by rfl)) ?_
      refine WS_nil ?_
      refine Then_normal ?_
      refine W_seq ?_
      refine W_cond (by rfl) (fun c9 => ?_) (fun c9 => ?_)
      ·
        try simp only [Bool.not_eq_true', Bool.not_eq_false', decide_eq_true_eq, decide_eq_false_iff_not, ne_eq, Classical.not_not, Int.not_lt, Int.not_le] at c9
        have hkn : k < l.es.length := by omega
        obtain ⟨b, o, rfl, hc⟩ := he.cell k hkn
        change At w b _ (l.e k).cells at hc
        have hc1 : At w b (o + (k - 1) * 4) (l.e (k - 1)).cells := he.at (k := k - 1) (by omega)
        obtain ⟨g1, g2⟩ := ht.sp k hkn
        have hb0 := htb k (by omega)
        have hb1 := htb (k + 1) hkn
        have hkd := hok.kind k hkn
        have hsm := hok.sm hkn
        unfold Sn.Sm at hsm
        have hsz := Sn.inB_iff.1 (hok.size k hkn)
        have hdy := hok.day k hkn
        have hdy1 := hok.day (k - 1) (by omega)
        have hdb := hok.drip_bd hkn
        have hdd : k ≠ 0 → l.drip k = l.tk.leak * ((l.e k).day - (l.e (k - 1)).day) := fun h => by unfold Lg.drip; rw [if_neg h]
        have hd0 : k = 0 → l.drip k = 0 := fun h => by unfold Lg.drip; rw [if_pos h]
        refine W_skip ?_
        refine Then_normal ?_
        refine W_seq ?_
        refine W_block ?_
        refine W_seq ?_
        refine W_region_lit (fun ds => ?_)
        refine WS_det hF (by rfl) (y_move (c := .int .i64 _) (by rfl)) ?_
        refine WS_det hF (by rfl) (y_index (k := k) (by rfl) (by rfl) (by first | rfl | omega) (by first | decide | omega) Tryz.runUnderlying27 Tryz.sizeOf38) ?_
        refine WS_det hF (by rfl) (y_loadN (by rfl) Tryz.isAgg38 Tryz.sizeOf38 (by first | exact Mem.old (by assumption) | exact Mem.oldAt (us := [.int .i64 _, .int .i64 _, .int .i64 _, .int .i64 _]) (by assumption) (by rfl) | exact Mem.oldAtL (us := [.int .i64 _, .int .i64 _, .int .i64 _, .int .i64 _]) (by assumption) (by rfl) (by rfl)) (by rfl)) ?_
        refine WS_new hF (by rfl) (y_alloc Tryz.zeroValue38 (by rfl)) (fun bx => ?_)
        refine WS_det hF (by rfl) (y_assign (c := .int .i64 _) (by rfl)) ?_
        refine WS_store hF (us := [.int .i64 _, .int .i64 _, .int .i64 _, .int .i64 _]) (i := 0) (by rfl) (by rfl) Tryz.sizeOf38 (by rfl) (by rfl) (by rfl) (by first | decide | exact Nat.le_of_ble_eq_true rfl | simp) ?_
        refine WS_nil ?_
        refine Then_normal ?_
        refine W_seq ?_
        refine W_draw0 hF Tryzmixed [] (by decide +kernel) (fun ds => ?_)
        refine P_det (by rfl) (Over_nil (y_move (c := .slice _ _ _) (by rfl))) ?_
        refine P_det (by rfl) (Over_nil (y_move (c := .int .i64 _) (by rfl))) ?_
        refine P_det (by rfl) (Over_nil (y_index (k := k) (by rfl) (by rfl) (by first | rfl | omega) (by first | decide | omega) Tryz.runUnderlying22 Tryz.sizeOf3)) ?_
        refine P_det (by rfl) (Over_nil (y_load1 (by rfl) Tryz.isAgg3 (Mem.iRowJ (f := l.tr) (k := k) 1 (by rfl) (by omega) (by omega)))) ?_
        refine P_det (by rfl) (Over_nil (y_move (c := .slice _ _ _) (by rfl))) ?_
        refine P_det (by rfl) (Over_nil (y_move (c := .int .i64 _) (by rfl))) ?_
        refine P_det (by rfl) (Over_nil (y_index (k := k) (by rfl) (by rfl) (by first | rfl | omega) (by first | decide | omega) Tryz.runUnderlying22 Tryz.sizeOf3)) ?_
        refine P_det (by rfl) (Over_nil (y_load1 (by rfl) Tryz.isAgg3 (Mem.iRowJ (f := l.tr) (k := k) 1 (by rfl) (by omega) (by omega)))) ?_
        refine P_det (by rfl) (Over_nil (y_assign (c := .int .i64 _) (by rfl))) ?_
        refine P_det (by rfl) (Over_nil (y_assign (c := .int .i64 _) (by rfl))) ?_
        refine PW_end (by rfl) ?_
        refine OverAll_nil ?_
        rintro -
        refine Then_normal ?_
        refine W_J1H (γ := Int) (fun fr => fr = max 0 (l.tr k - l.drip k)) [(1, .int .u8 _), (2, .pointer _), (5, .bool _), (6, .int .i64 _), (7, .int .i64 _), (8, .slice _ _ _), (10, .int .i64 _), (11, .pointer _), (13, .int .i64 _), (74, .slice _ _ _), (75, .int .i64 _), (76, .int .i64 _)] (fun fr => [(12, .int .i64 fr)]) slt ?_ ?_
        ·
          rintro fr e hfr
          refine W_seq ?_
          refine W_region_lit (fun ds => ?_)
          refine WS_det hF (by rfl) (y_move (c := .slice _ _ _) (by rfl)) ?_
          refine WS_det hF (by rfl) (y_move (c := .int .i64 _) (by rfl)) ?_
          refine WS_det hF (by rfl) (y_add (by rfl) (by rfl) (by unfold I64; omega)) ?_
          refine WS_det hF (by rfl) (y_index (k := k + 1) (by rfl) (by rfl) (by first | rfl | omega) (by first | decide | omega) Tryz.runUnderlying22 Tryz.sizeOf3) ?_
          refine WS_det hF (by rfl) (y_load1 (by rfl) Tryz.isAgg3 (Mem.iRowJ (f := l.tr) (k := k + 1) 1 (by rfl) (by omega) (by omega))) ?_
          refine WS_det hF (by rfl) (y_assign (c := .int .i64 _) (by rfl)) ?_
          refine WS_nil ?_
          refine Then_normal ?_
          refine W_seq ?_
          refine W_region_lit (fun ds => ?_)
          refine WS_det hF (by rfl) (y_move (c := .int .i64 _) (by rfl)) ?_
          refine WS_det hF (by rfl) (YD_yes (y_geq (by rfl) (by rfl)) dect) ?_
          refine WS_det hF (by rfl) (y_move (c := .bool _) (by rfl)) ?_
          refine WS_det hF (by rfl) (y_move (c := .int .i64 _) (by rfl)) ?_
          refine WS_det hF (by rfl) (y_move (c := .int .i64 _) (by rfl)) ?_
          refine WS_det hF (by rfl) (YD_yes (y_leq (by rfl) (by rfl)) dect) ?_
          refine WS_det hF (by rfl) (by first | exact y_pick_t (c := .bool _) (by rfl) (by rfl) | exact y_pick_f (c := .bool _) (by rfl) (by rfl)) ?_
          refine WS_det hF (by rfl) (y_assign (c := .bool _) (by rfl)) ?_
          refine WS_nil ?_
          refine Then_normal ?_
          refine W_seq ?_
          refine W_seq ?_
          refine W_region_lit (fun ds => ?_)
          refine WS_det hF (by rfl) (y_fieldAddr (by rfl) fa38_1) ?_
          refine WS_det hF (by rfl) (y_load1 (by rfl) Tryz.isAgg3 (Mem.own1 0 (by rfl) (by rfl))) ?_
          refine WS_nil ?_
          refine Then_normal ?_
          refine W_block ?_
          refine W_seq ?_
          refine W_region_lit (fun ds => ?_)
          refine WS_det hF (by rfl) (y_eql (by rfl) (by rfl)) ?_
          refine WS_det hF (by rfl) (y_assign (c := .bool _) (by rfl)) ?_
          refine WS_nil ?_
          refine Then_normal ?_
          refine W_cond (by rfl) (fun c18 => ?_) (fun c18 => ?_)
          ·
            try simp only [Bool.not_eq_true', Bool.not_eq_false', decide_eq_true_eq, decide_eq_false_iff_not, ne_eq, Classical.not_not, Int.not_lt, Int.not_le] at c18
            have hM := g2.k1 c18
            refine W_region_lit (fun ds => ?_)
            refine WS_det hF (by rfl) (y_move (c := .bool _) (by rfl)) ?_
            refine WS_det hF (by rfl) (y_move (c := .bool _) (by rfl)) ?_
            refine WS_det hF (by rfl) (y_move (c := .int .i64 _) (by rfl)) ?_
            refine WS_det hF (by rfl) (y_move (c := .int .i64 _) (by rfl)) ?_
            refine WS_det hF (by rfl) (y_fieldAddr (by rfl) fa38_2) ?_
            refine WS_det hF (by rfl) (y_fieldAddr (by rfl) fa26_0) ?_
            refine WS_det hF (by rfl) (y_load1 (by rfl) Tryz.isAgg3 (Mem.own1 0 (by rfl) (by rfl))) ?_
            refine WS_det hF (by rfl) (y_add (by rfl) (by rfl) (by unfold I64; omega)) ?_
            refine WS_det hF (by rfl) (YD_yes (y_geq (by rfl) (by rfl)) dect) ?_
            refine WS_det hF (by rfl) (by first | exact y_pick_t (c := .bool _) (by rfl) (by rfl) | exact y_pick_f (c := .bool _) (by rfl) (by rfl)) ?_
            refine WS_det hF (by rfl) (y_move (c := .bool _) (by rfl)) ?_
            refine WS_det hF (by rfl) (y_move (c := .int .i64 _) (by rfl)) ?_
            refine WS_det hF (by rfl) (y_move (c := .int .i64 _) (by rfl)) ?_
            refine WS_det hF (by rfl) (y_fieldAddr (by rfl) fa38_2) ?_
            refine WS_det hF (by rfl) (y_fieldAddr (by rfl) fa26_1) ?_
            refine WS_det hF (by rfl) (y_load1 (by rfl) Tryz.isAgg3 (Mem.own1 0 (by rfl) (by rfl))) ?_
            refine WS_det hF (by rfl) (y_add (by rfl) (by rfl) (by unfold I64; omega)) ?_
            refine WS_det hF (by rfl) (YD_yes (y_leq (by rfl) (by rfl)) dect) ?_
            refine WS_det hF (by rfl) (by first | exact y_pick_t (c := .bool _) (by rfl) (by rfl) | exact y_pick_f (c := .bool _) (by rfl) (by rfl)) ?_
            refine WS_det hF (by rfl) (y_assign (c := .bool _) (by rfl)) ?_
            refine WS_nil ?_
            refine InB_normal ?_
            refine Then_normal ?_
            refine W_seq ?_
            refine W_region_lit (fun ds => ?_)
            refine WS_det hF (by rfl) (y_move (c := .bool _) (by rfl)) ?_
            refine WS_det hF (by rfl) (y_not (by rfl)) ?_
            refine WS_nil ?_
            refine Then_normal ?_
            refine W_cond (by rfl) (fun c22 => ?_) (fun c22 => ?_)
            · cases c22
            ·
              try simp only [Bool.not_eq_true', Bool.not_eq_false', decide_eq_true_eq, decide_eq_false_iff_not, ne_eq, Classical.not_not, Int.not_lt, Int.not_le] at c22
              refine W_skip ?_
              refine InB_normal ?_
              refine Then_normal ?_
              refine W_region_lit (fun ds => ?_)
              refine WS_det hF (by rfl) (y_add (by rfl) (by rfl) (by unfold I64; omega)) ?_
              refine WS_det hF (by rfl) (y_move (c := .int .i64 _) (by rfl)) ?_
              refine WS_nil ?_
              exact Loop_next (k + 1) (by omega) (by repeat (first | exact trivial | refine ⟨by rfl, ?_⟩)) (by repeat (first | exact List.Sublist.refl _ | exact List.sublist_append_left _ _ | exact List.nil_sublist _ | apply List.Sublist.cons_cons | apply List.Sublist.cons | refine List.Sublist.trans ?_ (List.sublist_append_right _ _))) (by omega)
          ·
            try simp only [Bool.not_eq_true', Bool.not_eq_false', decide_eq_true_eq, decide_eq_false_iff_not, ne_eq, Classical.not_not, Int.not_lt, Int.not_le] at c18
            refine W_seq ?_
            refine W_region_lit (fun ds => ?_)
            refine WS_det hF (by rfl) (y_eql (by rfl) (by rfl)) ?_
            refine WS_det hF (by rfl) (y_assign (c := .bool _) (by rfl)) ?_
            refine WS_nil ?_
            refine Then_normal ?_
            refine W_cond (by rfl) (fun c20 => ?_) (fun c20 => ?_)
            ·
              try simp only [Bool.not_eq_true', Bool.not_eq_false', decide_eq_true_eq, decide_eq_false_iff_not, ne_eq, Classical.not_not, Int.not_lt, Int.not_le] at c20
              have hM := g2.k2 c20
              refine W_region_lit (fun ds => ?_)
              refine WS_det hF (by rfl) (y_move (c := .bool _) (by rfl)) ?_
              refine WS_det hF (by rfl) (y_move (c := .bool _) (by rfl)) ?_
              refine WS_det hF (by rfl) (y_move (c := .int .i64 _) (by rfl)) ?_
              refine WS_det hF (by rfl) (y_move (c := .int .i64 _) (by rfl)) ?_
              refine WS_det hF (by rfl) (y_fieldAddr (by rfl) fa38_2) ?_
              refine WS_det hF (by rfl) (y_fieldAddr (by rfl) fa26_1) ?_
              refine WS_det hF (by rfl) (y_load1 (by rfl) Tryz.isAgg3 (Mem.own1 0 (by rfl) (by rfl))) ?_
              refine WS_det hF (by rfl) (y_sub (by rfl) (by rfl) (by unfold I64; omega)) ?_
              refine WS_det hF (by rfl) (YD_yes (y_geq (by rfl) (by rfl)) dect) ?_
              refine WS_det hF (by rfl) (by first | exact y_pick_t (c := .bool _) (by rfl) (by rfl) | exact y_pick_f (c := .bool _) (by rfl) (by rfl)) ?_
              refine WS_det hF (by rfl) (y_move (c := .bool _) (by rfl)) ?_
              refine WS_det hF (by rfl) (y_move (c := .int .i64 _) (by rfl)) ?_
              refine WS_det hF (by rfl) (y_move (c := .int .i64 _) (by rfl)) ?_
              refine WS_det hF (by rfl) (y_fieldAddr (by rfl) fa38_2) ?_
              refine WS_det hF (by rfl) (y_fieldAddr (by rfl) fa26_0) ?_
              refine WS_det hF (by rfl) (y_load1 (by rfl) Tryz.isAgg3 (Mem.own1 0 (by rfl) (by rfl))) ?_
              refine WS_det hF (by rfl) (y_sub (by rfl) (by rfl) (by unfold I64; omega)) ?_
              refine WS_det hF (by rfl) (YD_yes (y_leq (by rfl) (by rfl)) dect) ?_
              refine WS_det hF (by rfl) (by first | exact y_pick_t (c := .bool _) (by rfl) (by rfl) | exact y_pick_f (c := .bool _) (by rfl) (by rfl)) ?_
              refine WS_det hF (by rfl) (y_assign (c := .bool _) (by rfl)) ?_
              refine WS_nil ?_
              refine InB_normal ?_
              refine Then_normal ?_
              refine W_seq ?_
              refine W_region_lit (fun ds => ?_)
              refine WS_det hF (by rfl) (y_move (c := .bool _) (by rfl)) ?_
              refine WS_det hF (by rfl) (y_not (by rfl)) ?_
              refine WS_nil ?_
              refine Then_normal ?_
              refine W_cond (by rfl) (fun c22 => ?_) (fun c22 => ?_)
              · cases c22
              ·
                try simp only [Bool.not_eq_true', Bool.not_eq_false', decide_eq_true_eq, decide_eq_false_iff_not, ne_eq, Classical.not_not, Int.not_lt, Int.not_le] at c22
                refine W_skip ?_
                refine InB_normal ?_
                refine Then_normal ?_
                refine W_region_lit (fun ds => ?_)
                refine WS_det hF (by rfl) (y_add (by rfl) (by rfl) (by unfold I64; omega)) ?_
                refine WS_det hF (by rfl) (y_move (c := .int .i64 _) (by rfl)) ?_
                refine WS_nil ?_
                exact Loop_next (k + 1) (by omega) (by repeat (first | exact trivial | refine ⟨by rfl, ?_⟩)) (by repeat (first | exact List.Sublist.refl _ | exact List.sublist_append_left _ _ | exact List.nil_sublist _ | apply List.Sublist.cons_cons | apply List.Sublist.cons | refine List.Sublist.trans ?_ (List.sublist_append_right _ _))) (by omega)
            ·
              try simp only [Bool.not_eq_true', Bool.not_eq_false', decide_eq_true_eq, decide_eq_false_iff_not, ne_eq, Classical.not_not, Int.not_lt, Int.not_le] at c20
              have hM := g2.k3 (by omega)
              have hmost : l.tk.most (l.e k).kind = l.tk.height := by unfold Tk.most; rw [if_pos (by omega)]
              rw [hmost] at hsz
              refine W_region_lit (fun ds => ?_)
              refine WS_det hF (by rfl) (y_move (c := .bool _) (by rfl)) ?_
              refine WS_det hF (by rfl) (y_move (c := .bool _) (by rfl)) ?_
              refine WS_det hF (by rfl) (y_move (c := .int .i64 _) (by rfl)) ?_
              refine WS_det hF (by rfl) (y_move (c := .int .i64 _) (by rfl)) ?_
              refine WS_det hF (by rfl) (YD_yes (y_geq (by rfl) (by rfl)) dect) ?_
              refine WS_det hF (by rfl) (by first | exact y_pick_t (c := .bool _) (by rfl) (by rfl) | exact y_pick_f (c := .bool _) (by rfl) (by rfl)) ?_
              refine WS_det hF (by rfl) (y_move (c := .bool _) (by rfl)) ?_
              refine WS_det hF (by rfl) (y_move (c := .int .i64 _) (by rfl)) ?_
              refine WS_det hF (by rfl) (y_move (c := .int .i64 _) (by rfl)) ?_
              refine WS_det hF (by rfl) (YD_yes (y_leq (by rfl) (by rfl)) dect) ?_
              refine WS_det hF (by rfl) (by first | exact y_pick_t (c := .bool _) (by rfl) (by rfl) | exact y_pick_f (c := .bool _) (by rfl) (by rfl)) ?_
              refine WS_det hF (by rfl) (y_move (c := .bool _) (by rfl)) ?_
              refine WS_det hF (by rfl) (y_move (c := .int .i64 _) (by rfl)) ?_
              refine WS_det hF (by rfl) (y_mul (by rfl) (by rfl) (by unfold I64; omega)) ?_
              refine WS_det hF (by rfl) (y_fieldAddr (by rfl) fa29_0) ?_
              refine WS_det hF (by rfl) (y_loadN (by rfl) Tryz.isAgg24 Tryz.sizeOf24 (Mem.own (us := [.slice _ _ _, .int .i64 _, .int .i64 _]) 2 (by rfl) (by rfl)) (by rfl)) ?_
              refine WS_det hF (by rfl) (y_fieldAddr (by rfl) fa38_2) ?_
              refine WS_det hF (by rfl) (y_fieldAddr (by rfl) fa26_0) ?_
              refine WS_det hF (by rfl) (y_load1 (by rfl) Tryz.isAgg3 (Mem.own1 0 (by rfl) (by rfl))) ?_
              refine WS_det hF (by rfl) (y_callL (by rfl) (by rfl) Tryz.call32 (fun w hw => eight_any l.tk a cap _ w hn (hx.st w hw) hok.tk hsz.1 (by omega))) ?_
              refine WS_det hF (by rfl) (YD_yes (y_geq (by rfl) (by rfl)) dect) ?_
              refine WS_det hF (by rfl) (by first | exact y_pick_t (c := .bool _) (by rfl) (by rfl) | exact y_pick_f (c := .bool _) (by rfl) (by rfl)) ?_
              refine WS_det hF (by rfl) (y_move (c := .bool _) (by rfl)) ?_
              refine WS_det hF (by rfl) (y_move (c := .int .i64 _) (by rfl)) ?_
              refine WS_det hF (by rfl) (y_mul (by rfl) (by rfl) (by unfold I64; omega)) ?_
              refine WS_det hF (by rfl) (y_fieldAddr (by rfl) fa29_0) ?_
              refine WS_det hF (by rfl) (y_loadN (by rfl) Tryz.isAgg24 Tryz.sizeOf24 (Mem.own (us := [.slice _ _ _, .int .i64 _, .int .i64 _]) 2 (by rfl) (by rfl)) (by rfl)) ?_
              refine WS_det hF (by rfl) (y_fieldAddr (by rfl) fa38_2) ?_
              refine WS_det hF (by rfl) (y_fieldAddr (by rfl) fa26_1) ?_
              refine WS_det hF (by rfl) (y_load1 (by rfl) Tryz.isAgg3 (Mem.own1 0 (by rfl) (by rfl))) ?_
              refine WS_det hF (by rfl) (y_callL (by rfl) (by rfl) Tryz.call32 (fun w hw => eight_any l.tk a cap _ w hn (hx.st w hw) hok.tk (by omega) hsz.2.2)) ?_
              refine WS_det hF (by rfl) (YD_yes (y_leq (by rfl) (by rfl)) dect) ?_
              refine WS_det hF (by rfl) (by first | exact y_pick_t (c := .bool _) (by rfl) (by rfl) | exact y_pick_f (c := .bool _) (by rfl) (by rfl)) ?_
              refine WS_det hF (by rfl) (y_assign (c := .bool _) (by rfl)) ?_
              refine WS_nil ?_
              refine InB_normal ?_
              refine Then_normal ?_
              refine W_seq ?_
              refine W_region_lit (fun ds => ?_)
              refine WS_det hF (by rfl) (y_move (c := .bool _) (by rfl)) ?_
              refine WS_det hF (by rfl) (y_not (by rfl)) ?_
              refine WS_nil ?_
              refine Then_normal ?_
              refine W_cond (by rfl) (fun c22 => ?_) (fun c22 => ?_)
              · cases c22
              ·
                try simp only [Bool.not_eq_true', Bool.not_eq_false', decide_eq_true_eq, decide_eq_false_iff_not, ne_eq, Classical.not_not, Int.not_lt, Int.not_le] at c22
                refine W_skip ?_
                refine InB_normal ?_
                refine Then_normal ?_
                refine W_region_lit (fun ds => ?_)
                refine WS_det hF (by rfl) (y_add (by rfl) (by rfl) (by unfold I64; omega)) ?_
                refine WS_det hF (by rfl) (y_move (c := .int .i64 _) (by rfl)) ?_
                refine WS_nil ?_
                exact Loop_next (k + 1) (by omega) (by repeat (first | exact trivial | refine ⟨by rfl, ?_⟩)) (by repeat (first | exact List.Sublist.refl _ | exact List.sublist_append_left _ _ | exact List.nil_sublist _ | apply List.Sublist.cons_cons | apply List.Sublist.cons | refine List.Sublist.trans ?_ (List.sublist_append_right _ _))) (by omega)
        ·
          intro J14
          refine W_seq ?_
          refine W_seq ?_
          refine W_region_lit (fun ds => ?_)
          refine WS_det hF (by rfl) (y_move (c := .int .i64 _) (by rfl)) ?_
          refine WS_det hF (by rfl) (y_gtr (by rfl) (by rfl)) ?_
          refine WS_nil ?_
          refine Then_normal ?_
          refine W_cond (by rfl) (fun c12 => ?_) (fun c12 => ?_)
          ·
            try simp only [Bool.not_eq_true', Bool.not_eq_false', decide_eq_true_eq, decide_eq_false_iff_not, ne_eq, Classical.not_not, Int.not_lt, Int.not_le] at c12
            have hdd1 := hdd (by omega)
            refine W_draw0 hF Tryzmixed [] (by decide +kernel) (fun ds => ?_)
            refine P_det (by rfl) (Over_nil (y_move (c := .slice _ _ _) (by rfl))) ?_
            refine P_det (by rfl) (Over_nil (y_move (c := .int .i64 _) (by rfl))) ?_
            refine P_det (by rfl) (Over_nil (y_index (k := k) (by rfl) (by rfl) (by first | rfl | omega) (by first | decide | omega) Tryz.runUnderlying22 Tryz.sizeOf3)) ?_
            refine P_det (by rfl) (Over_nil (y_load1 (by rfl) Tryz.isAgg3 (Mem.iRowJ (f := l.tr) (k := k) 1 (by rfl) (by omega) (by omega)))) ?_
            refine P_det (by rfl) (Over_nil (y_fieldAddr (by rfl) fa29_0)) ?_
            refine P_det (by rfl) (Over_nil (y_fieldAddr (by rfl) fa24_1)) ?_
            refine P_det (by rfl) (Over_nil (y_load1 (by rfl) Tryz.isAgg3 (Mem.own1 2 (by rfl) (by rfl)))) ?_
            refine P_det (by rfl) (Over_nil (y_fieldAddr (by rfl) fa38_0)) ?_
            refine P_det (by rfl) (Over_nil (y_load1 (by rfl) Tryz.isAgg3 (Mem.own1 0 (by rfl) (by rfl)))) ?_
            refine P_det (by rfl) (Over_nil (y_fieldAddr (by rfl) fa29_2)) ?_
            refine P_det (by rfl) (Over_nil (y_load1 (by rfl) Tryz.isAgg27 (Mem.own1 2 (by rfl) (by rfl)))) ?_
            refine P_det (by rfl) (Over_nil (y_move (c := .int .i64 _) (by rfl))) ?_
            refine P_det (by rfl) (Over_nil (y_sub (by rfl) (by rfl) (by unfold I64; omega))) ?_
            refine P_det (by rfl) (Over_nil (y_index (k := k - 1) (by rfl) (by rfl) (by first | rfl | omega) (by first | decide | omega) Tryz.runUnderlying27 Tryz.sizeOf38)) ?_
            refine P_det (by rfl) (Over_nil (y_fieldAddr (by rfl) fa38_0)) ?_
            refine P_det (by rfl) (Over_nil (y_load1 (by rfl) Tryz.isAgg3 (by first | exact Mem.old1 (by assumption) | exact Mem.oldAt1 (by assumption) (by rfl) | exact Mem.old (by assumption) | exact Mem.oldAtL1 (by assumption) (by rfl) (by rfl)))) ?_
            refine P_det (by rfl) (Over_nil (y_sub (by rfl) (by rfl) (by unfold I64; omega))) ?_
            refine P_det (by rfl) (Over_nil (y_mul (by rfl) (by rfl) (by rw [← hdd1]; unfold I64; omega))) ?_
            refine P_det (by rfl) (Over_nil (y_sub (by rfl) (by rfl) (by rw [← hdd1]; unfold I64; omega))) ?_
            refine P_det (by rfl) (Over_nil (y_max (by rfl) (by rfl))) ?_
            refine P_det (by rfl) (Over_nil (y_assign (c := .int .i64 _) (by rfl))) ?_
            refine PW_end (by rfl) ?_
            refine OverAll_nil ?_
            rintro -
            refine Then_normal ?_
            exact J14 (max 0 (l.tr k - l.tk.leak * ((l.e k).day - (l.e (k - 1)).day))) _ _  (by rw [hdd (by omega)]) slt slt (HSub.sub sbA)
          ·
            try simp only [Bool.not_eq_true', Bool.not_eq_false', decide_eq_true_eq, decide_eq_false_iff_not, ne_eq, Classical.not_not, Int.not_lt, Int.not_le] at c12
            refine W_skip ?_
            refine Then_normal ?_
            exact J14 (l.tr k) _ _  (by rw [hd0 (by omega)]; omega) slt slt (HSub.sub sbA)
      ·
        try simp only [Bool.not_eq_true', Bool.not_eq_false', decide_eq_true_eq, decide_eq_false_iff_not, ne_eq, Classical.not_not, Int.not_lt, Int.not_le] at c9
        refine W_exit ?_
        refine Then_exit ?_
        refine Loop_exit ?_
        refine InB_same ?_
        refine Then_normal ?_
        refine W_seq ?_
        refine W_region_lit (fun ds => ?_)
        refine WS_det hF (by rfl) (y_move (c := .int .u8 _) (by rfl)) ?_
        refine WS_det hF (by rfl) (y_conv_iu (by rfl) Tryz.runUnderlying5 Tryz.runUnderlying3 (by first | exact IntWalk.i64_in _ (by omega) | exact IntWalk.u64_in _ (by omega))) ?_
        refine WS_det hF (by rfl) (y_move (c := .int .i64 _) (by rfl)) ?_
        refine WS_det hF (by rfl) (y_add (by rfl) (by rfl) (by unfold I64; omega)) ?_
        refine WS_det hF (by rfl) (YD_eq (y_rem (by rfl) (by rfl) (by omega) (by omega)) (congrArg (Value.int _) hJ)) ?_
        refine WS_det hF (by rfl) (y_assign (c := .int .i64 _) (by rfl)) ?_
        refine WS_nil ?_
        refine Then_normal ?_
        refine W_seq ?_
        refine W_seq ?_
        refine W_region_lit (fun ds => ?_)
        refine WS_det hF (by rfl) (y_move (c := .int .i64 _) (by rfl)) ?_
        refine WS_det hF (by rfl) (y_eql (by rfl) (by rfl)) ?_
        refine WS_nil ?_
        refine Then_normal ?_
        refine W_cond (by rfl) (fun c26 => ?_) (fun c26 => ?_)
        ·
          try simp only [Bool.not_eq_true', Bool.not_eq_false', decide_eq_true_eq, decide_eq_false_iff_not, ne_eq, Classical.not_not, Int.not_lt, Int.not_le] at c26
          refine W_seq ?_
          refine W_region_lit (fun ds => ?_)
          refine WS_det hF (by rfl) (y_loadN (by rfl) Tryz.isAgg29 Tryz.sizeOf29 (Mem.own (us := [.slice _ _ _, .int .i64 _, .int .i64 _, .int .i64 _, .int .i64 _, .slice _ _ _]) 1 (by rfl) (by rfl)) (by rfl)) ?_
          refine WS_det hF (by rfl) (y_callL (by rfl) (by rfl) Tryz.call12 (fun w hw => Ct_eq (holds_any l a cap ae cape 0 w hn (hx.st w hw) (he.st w hw)) (Lg.holdsV_at h0 (Nat.zero_le l.es.length)))) ?_
          refine WS_det hF (by rfl) (y_move (c := .tuple _) (by rfl)) ?_
          refine WS_det hF (by rfl) (y_extract (c := .agg _) (by rfl) (by rfl)) ?_
          refine WS_det hF (by rfl) (y_extract (c := .int .i64 _) (by rfl) (by rfl)) ?_
          refine WS_new hF (by rfl) (y_alloc Tryz.zeroValue26 (by rfl)) (fun b2 => ?_)
          refine WS_store hF (us := [.int .i64 _, .int .i64 _]) (i := 0) (by rfl) (by rfl) Tryz.sizeOf26 (by rfl) (by rfl) (by rfl) (by first | decide | exact Nat.le_of_ble_eq_true rfl | simp) ?_
          refine WS_det hF (by rfl) (y_assign (c := .int .i64 _) (by rfl)) ?_
          refine WS_nil ?_
          refine Then_normal ?_
          refine W_seq ?_
          refine W_draw0 hF Tryzmixed [] (by decide +kernel) (fun ds => ?_)
          refine P_det (by rfl) (Over_nil (y_move (c := .bool _) (by rfl))) ?_
          refine P_det (by rfl) (Over_nil (y_move (c := .bool _) (by rfl))) ?_
          refine P_det (by rfl) (Over_nil (y_move (c := .int .i64 _) (by rfl))) ?_
          refine P_det (by rfl) (Over_nil (YD_yes (y_eql (by rfl) (by rfl)) dect)) ?_
          refine P_det (by rfl) (Over_nil (by first | exact y_pick_t (c := .bool _) (by rfl) (by rfl) | exact y_pick_f (c := .bool _) (by rfl) (by rfl))) ?_
          refine P_det (by rfl) (Over_nil (y_move (c := .bool _) (by rfl))) ?_
          refine P_det (by rfl) (Over_nil (y_fieldAddr (by rfl) fa26_0)) ?_
          refine P_det (by rfl) (Over_nil (y_load1 (by rfl) Tryz.isAgg3 (Mem.own1 0 (by rfl) (by rfl)))) ?_
          refine P_det (by rfl) (Over_nil (y_move (c := .slice _ _ _) (by rfl))) ?_
          refine P_det (by rfl) (Over_nil (y_index (k := 0) (by rfl) (by rfl) (by first | rfl | omega) (by first | decide | omega) Tryz.runUnderlying22 Tryz.sizeOf3)) ?_
          refine P_det (by rfl) (Over_nil (y_load1 (by rfl) Tryz.isAgg3 (Mem.iRowJ (f := l.tr) (k := 0) 1 (by rfl) (by omega) (by omega)))) ?_
          refine P_det (by rfl) (Over_nil (YD_yes (y_eql (by rfl) (by rfl)) dect)) ?_
          refine P_det (by rfl) (Over_nil (by first | exact y_pick_t (c := .bool _) (by rfl) (by rfl) | exact y_pick_f (c := .bool _) (by rfl) (by rfl))) ?_
          refine P_det (by rfl) (Over_nil (y_assign (c := .bool _) (by rfl))) ?_
          refine PW_end (by rfl) ?_
          refine OverAll_nil ?_
          rintro -
          refine Then_normal ?_
          refine W_ret ?_
          refine Then_ret ?_
          refine Fin_ret [.bool _] [] Tryz.results9 ⟨by rfl, trivial⟩ HSub.nil ?_
          rfl
        ·
          try simp only [Bool.not_eq_true', Bool.not_eq_false', decide_eq_true_eq, decide_eq_false_iff_not, ne_eq, Classical.not_not, Int.not_lt, Int.not_le] at c26
          obtain ⟨m, rfl⟩ : ∃ m, j = m + 1 := ⟨j - 1, by omega⟩
          have hmn : m < l.es.length := by omega
          obtain ⟨b, o, rfl, hc⟩ := he.cell m hmn
          change At w b _ (l.e m).cells at hc
          have hc1 : At w b (o + (m - 1) * 4) (l.e (m - 1)).cells := he.at (k := m - 1) (by omega)
          have hcm : cape ≠ m := by omega
          have hdy := hok.day m hmn
          have hdy1 := hok.day (m - 1) (by omega)
          have hdb := hok.drip_bd hmn
          have hk1 : l.es.length - m + m = l.es.length := by omega
          have hbm := htb m (by omega)
          have hsl : Value.slice (shiftA (some ⟨b, o, none⟩) m 4 cape) (l.es.length - m) (cape - m) = .slice (some ⟨b, o + m * 4, none⟩) (l.es.length - m) (cape - m) := by rw [shift_some hcm]
          refine W_skip ?_
          refine Then_normal ?_
          refine W_seq ?_
          refine W_region_lit (fun ds => ?_)
          refine WS_det hF (by rfl) (y_loadN (by rfl) Tryz.isAgg29 Tryz.sizeOf29 (Mem.own (us := [.slice _ _ _, .int .i64 _, .int .i64 _, .int .i64 _, .int .i64 _, .slice _ _ _]) 1 (by rfl) (by rfl)) (by rfl)) ?_
          refine WS_gen hF (by rfl) (y_callL (by rfl) (by rfl) Tryz.call13 (fun w hw => twin_any l a cap (some ⟨b, o, none⟩) cape w hnes hn (hx.st w hw) (he.st w hw))) ?_
          rintro _ _ ⟨z1, zc1, z2, zc2, Hz1, Hz2, rfl, hz1, hz2, rfl⟩
          refine WS_back ?_
          refine WS_new hF (by rfl) (y_alloc Tryz.zeroValue29 (by rfl)) (fun br => ?_)
          refine WS_store hF (us := [.slice _ _ _, .int .i64 _, .int .i64 _, .int .i64 _, .int .i64 _, .slice _ _ _]) (i := 0) (by rfl) (by rfl) Tryz.sizeOf29 (by rfl) (by rfl) (by rfl) (by first | decide | exact Nat.le_of_ble_eq_true rfl | simp) ?_
          refine WS_nil ?_
          refine Then_normal ?_
          refine W_seq ?_
          apply W_draw1 hF Tryzmixed [1000000] (i := 0) (by rfl) (by decide +kernel)
          intro ds
          refine P_det (by rfl) (Over_out (by rfl) (Over_nil (y_move (c := .slice _ _ _) (by rfl)))) ?_
          refine P_det (by rfl) (Over_out (by rfl) (Over_nil (y_move (c := .int .i64 _) (by rfl)))) ?_
          refine P_det (by rfl) (Over_out (by rfl) (Over_nil (y_sub (by rfl) (by rfl) (by unfold I64; omega)))) ?_
          refine P_det (by rfl) (Over_out (by rfl) (Over_nil (y_index (k := m) (by rfl) (by rfl) (by first | rfl | omega) (by first | decide | omega) Tryz.runUnderlying22 Tryz.sizeOf3))) ?_
          refine P_det (by rfl) (Over_out (by rfl) (Over_nil (y_load1 (by rfl) Tryz.isAgg3 (Mem.iRowJ (f := l.tr) (k := m) 0 (by rfl) (by omega) (by omega))))) ?_
          refine P_det (by rfl) (Over_out (by rfl) (Over_nil (y_move (c := .slice _ _ _) (by rfl)))) ?_
          refine P_det (by rfl) (Over_out (by rfl) (Over_nil (y_move (c := .int .i64 _) (by rfl)))) ?_
          refine P_det (by rfl) (Over_out (by rfl) (Over_nil (y_sub (by rfl) (by rfl) (by unfold I64; omega)))) ?_
          refine P_det (by rfl) (Over_out (by rfl) (Over_nil (y_index (k := m) (by rfl) (by rfl) (by first | rfl | omega) (by first | decide | omega) Tryz.runUnderlying22 Tryz.sizeOf3))) ?_
          refine P_det (by rfl) (Over_out (by rfl) (Over_nil (y_load1 (by rfl) Tryz.isAgg3 (Mem.iRowJ (f := l.tr) (k := m) 0 (by rfl) (by omega) (by omega))))) ?_
          refine P_det (by rfl) (Over_out (by rfl) (Over_nil (y_callL (by rfl) (by rfl) Tryz.call22 (fun w hw => lspan_any _ _ w)))) ?_
          refine P_det (by rfl) (Over_out (by rfl) (Over_nil (y_fieldAddr (by rfl) fa29_1))) ?_
          refine P_st 1000000 0 (by rfl) (by rfl) (by rfl) (by rfl) (by rfl) (Over_nil (st_pre (fun _ => by rfl) (fun _ => by rfl) Tryz.sizeOf26 (by rfl) (by rfl) (by first | decide | exact Nat.le_of_ble_eq_true rfl | simp))) ?_
          refine PW_end (by rfl) ?_
          refine OverAll_cons (fun w1000000 l1000000 => ?_)
          refine OverAll_nil ?_
          rintro ⟨-, h1000000⟩
          obtain rfl := h1000000
          refine Then_normal ?_
          refine W_seq ?_
          refine W_region_lit (fun ds => ?_)
          refine WS_det hF (by rfl) (y_fieldAddr (by rfl) fa29_2) ?_
          refine WS_det hF (by rfl) (y_load1 (by rfl) Tryz.isAgg27 (Mem.own1 2 (by rfl) (by rfl))) ?_
          refine WS_det hF (by rfl) (y_move (c := .int .i64 _) (by rfl)) ?_
          refine WS_det hF (by rfl) (y_sub (by rfl) (by rfl) (by unfold I64; omega)) ?_
          refine WS_det hF (by rfl) (y_index (k := m) (by rfl) (by rfl) (by first | rfl | omega) (by first | decide | omega) Tryz.runUnderlying27 Tryz.sizeOf38) ?_
          refine WS_det hF (by rfl) (y_loadN (by rfl) Tryz.isAgg38 Tryz.sizeOf38 (by first | exact Mem.old (by assumption) | exact Mem.oldAt (us := [.int .i64 _, .int .i64 _, .int .i64 _, .int .i64 _]) (by assumption) (by rfl) | exact Mem.oldAtL (us := [.int .i64 _, .int .i64 _, .int .i64 _, .int .i64 _]) (by assumption) (by rfl) (by rfl)) (by rfl)) ?_
          refine WS_new hF (by rfl) (y_alloc Tryz.zeroValue38 (by rfl)) (fun bq => ?_)
          refine WS_store hF (us := [.int .i64 _, .int .i64 _, .int .i64 _, .int .i64 _]) (i := 0) (by rfl) (by rfl) Tryz.sizeOf38 (by rfl) (by rfl) (by rfl) (by first | decide | exact Nat.le_of_ble_eq_true rfl | simp) ?_
          refine WS_nil ?_
          refine Then_normal ?_
          refine W_seq ?_
          refine W_keep [(2, .pointer _), (5, .bool _), (7, .int .i64 _), (8, .slice _ _ _), (16, .int .i64 _), (19, .pointer _), (20, .pointer _)] (by repeat (first | exact trivial | refine ⟨by rfl, ?_⟩)) (fun e => ?_)
          refine W_region_lit (fun ds => ?_)
          refine WS_det hF (by rfl) (y_fieldAddr (by rfl) fa29_2) ?_
          refine WS_det hF (by rfl) (y_load1 (by rfl) Tryz.isAgg27 (Mem.own1 3 (by rfl) (by rfl))) ?_
          refine WS_det hF (by rfl) (y_move (c := .int .i64 _) (by rfl)) ?_
          refine WS_det hF (by rfl) (y_sub (by rfl) (by rfl) (by unfold I64; omega)) ?_
          refine WS_det hF (by rfl) (YD_eq (y_slice_lo (l := m) (by rfl) (by rfl) (by omega) (by omega) Tryz.runUnderlying27 Tryz.sizeOf38) hsl) ?_
          refine WS_det hF (by rfl) (y_fieldAddr (by rfl) fa29_2) ?_
          refine WS_store hF (us := [.slice _ _ _]) (i := 1) (by rfl) (by rfl) Tryz.sizeOf27 (by rfl) (by rfl) (by rfl) (by first | decide | exact Nat.le_of_ble_eq_true rfl | simp) ?_
          refine WS_nil ?_
          refine Then_normal ?_
          refine W_seq ?_
          refine W_seq ?_
          refine W_region_lit (fun ds => ?_)
          refine WS_det hF (by rfl) (y_move (c := .int .i64 _) (by rfl)) ?_
          refine WS_det hF (by rfl) (y_gtr (by rfl) (by rfl)) ?_
          refine WS_det hF (by rfl) (y_move (c := .bool _) (by rfl)) ?_
          refine WS_split 256 (by rfl) (fun g33_2 => ?_) (fun g33_2 => ?_)
          ·
            try simp only [Bool.not_eq_true', Bool.not_eq_false', decide_eq_true_eq, decide_eq_false_iff_not, ne_eq, Classical.not_not, Int.not_lt, Int.not_le] at g33_2
            refine WS_det hF (by rfl) (y_fieldAddr (by rfl) fa29_2) ?_
            refine WS_det hF (by rfl) (y_load1 (by rfl) Tryz.isAgg27 (Mem.own1 1 (by rfl) (by rfl))) ?_
            refine WS_det hF (by rfl) (y_len (by rfl) Tryz.runUnderlying27) ?_
            refine WS_det hF (by rfl) (YD_yes (y_lss (by rfl) (by rfl)) dect) ?_
            refine WS_det hF (by rfl) (by first | exact y_pick_t (c := .bool _) (by rfl) (by rfl) | exact y_pick_f (c := .bool _) (by rfl) (by rfl)) ?_
            refine WS_nil ?_
            refine Then_normal ?_
            refine W_cond (by rfl) (fun c33 => ?_) (fun c33 => ?_)
            ·
              try simp only [Bool.not_eq_true', Bool.not_eq_false', decide_eq_true_eq, decide_eq_false_iff_not, ne_eq, Classical.not_not, Int.not_lt, Int.not_le] at c33
              have hm1 : 1 ≤ m := by omega
              have hC := Lg.rst hok hh hm1 hmn
              have hrl : (l.rs m ⟨l.tr m, l.tr m⟩).es.length = l.es.length - m + 1 := Lg.rs_len
              have hR1 := Lg.holdsV_at (i := 2) hC.ae (by omega)
              have hat2 := hC.at2
              have hdd : l.drip m = l.tk.leak * ((l.e m).day - (l.e (m - 1)).day) := by unfold Lg.drip; rw [if_neg (by omega)]
              refine W_seq ?_
              refine W_draw0 hF Tryzmixed [] (by decide +kernel) (fun ds => ?_)
              refine P_det (by rfl) (Over_nil (y_move (c := .int .i64 _) (by rfl))) ?_
              refine P_det (by rfl) (Over_nil (y_fieldAddr (by rfl) fa29_0)) ?_
              refine P_det (by rfl) (Over_nil (y_fieldAddr (by rfl) fa24_1)) ?_
              refine P_det (by rfl) (Over_nil (y_load1 (by rfl) Tryz.isAgg3 (Mem.own1 3 (by rfl) (by rfl)))) ?_
              refine P_det (by rfl) (Over_nil (y_fieldAddr (by rfl) fa38_0)) ?_
              refine P_det (by rfl) (Over_nil (y_load1 (by rfl) Tryz.isAgg3 (Mem.own1 0 (by rfl) (by rfl)))) ?_
              refine P_det (by rfl) (Over_nil (y_fieldAddr (by rfl) fa29_2)) ?_
              refine P_det (by rfl) (Over_nil (y_load1 (by rfl) Tryz.isAgg27 (Mem.own1 3 (by rfl) (by rfl)))) ?_
              refine P_det (by rfl) (Over_nil (y_move (c := .int .i64 _) (by rfl))) ?_
              refine P_det (by rfl) (Over_nil (y_sub (by rfl) (by rfl) (by unfold I64; omega))) ?_
              refine P_det (by rfl) (Over_nil (y_index (k := m - 1) (by rfl) (by rfl) (by first | rfl | omega) (by first | decide | omega) Tryz.runUnderlying27 Tryz.sizeOf38)) ?_
              refine P_det (by rfl) (Over_nil (y_fieldAddr (by rfl) fa38_0)) ?_
              refine P_det (by rfl) (Over_nil (y_load1 (by rfl) Tryz.isAgg3 (by first | exact Mem.old1 (by assumption) | exact Mem.oldAt1 (by assumption) (by rfl) | exact Mem.old (by assumption) | exact Mem.oldAtL1 (by assumption) (by rfl) (by rfl)))) ?_
              refine P_det (by rfl) (Over_nil (y_sub (by rfl) (by rfl) (by unfold I64; omega))) ?_
              refine P_det (by rfl) (Over_nil (y_mul (by rfl) (by rfl) (by rw [← hdd]; unfold I64; omega))) ?_
              refine P_det (by rfl) (Over_nil (YD_eq (y_min (by rfl) (by rfl)) (show Value.int _ _ = .int .i64 (min l.tk.full (l.drip m)) by rw [hdd]))) ?_
              refine P_det (by rfl) (Over_nil (y_assign (c := .int .i64 _) (by rfl))) ?_
              refine PW_end (by rfl) ?_
              refine OverAll_nil ?_
              rintro -
              refine Then_normal ?_
              refine W_seq ?_
              refine W_keep [(5, .bool _), (8, .slice _ _ _), (16, .int .i64 _), (19, .pointer _), (20, .pointer _), (21, .int .i64 _)] (by repeat (first | exact trivial | refine ⟨by rfl, ?_⟩)) (fun e => ?_)
              apply W_drawMT 7 hF Tryzmixed [] [] [] (by rfl) (by decide +kernel) (by decide) HSub.refl
              intro ds
              refine P_det (by rfl) (Over_nil (y_fieldAddr (by rfl) fa38_0)) ?_
              refine P_det (by rfl) (Over_nil (y_load1 (by rfl) Tryz.isAgg3 (Mem.own1 0 (by rfl) (by rfl)))) ?_
              refine P_det (by rfl) (Over_nil (y_move (c := .int .i64 _) (by rfl))) ?_
              refine P_det (by rfl) (Over_nil (y_callL (by rfl) (by rfl) Tryz.call15 (fun w hw => lentry_any _ _ _ _ w))) ?_
              refine P_new (by rfl) (by rfl) (Over_nil (y_buildSliceL bs27_1_0 (by rfl))) ?_
              refine P_det (by rfl) (Over_out (by rfl) (Over_nil (y_fieldAddr (by rfl) fa29_2))) ?_
              refine P_det (by rfl) (Over_out (by rfl) (Over_nil (y_load1 (by rfl) Tryz.isAgg27 (Mem.own1 1 (by rfl) (by rfl))))) ?_
              refine PW_end (by rfl) ?_
              refine OverAll_cons (fun w282 l282 => ?_)
              refine OverAll_nil ?_
              rintro ⟨-, h282⟩
              obtain ⟨b3, rfl, rfl⟩ := h282
              refine WS_gen hF (by rfl) (y_appendF (by rfl) (by rfl) Tryz.underlying27 infEntry (by rfl) (Mem.own (us := [.int _ _, .int _ _, .int _ _, .int _ _]) 0 (by rfl) (by rfl)) (by rfl) (.inr ⟨_, _, rfl, Mem.old (Rws.rowFrom en_len he (m := m) (l.es.length - m) (by omega))⟩) (rowOf_len en_len _ _) (by omega) (by omega) (by omega)) ?_
              rintro _ Hq hq
              obtain ⟨ra, rcap, rfl, hrr⟩ := rs_row (s := ⟨l.tr m, l.tr m⟩) hmn hq
              refine WS_back ?_
              refine WS_det hF (by rfl) (y_fieldAddr (by rfl) fa29_2) ?_
              refine WS_store hF (us := [.slice _ _ _]) (i := 2) (by rfl) (by rfl) Tryz.sizeOf27 (by rfl) (by rfl) (by rfl) (by first | decide | exact Nat.le_of_ble_eq_true rfl | simp) ?_
              refine WS_nil ?_
              refine Then_normal ?_
              refine W_seq ?_
              refine W_region_lit (fun ds => ?_)
              refine WS_det hF (by rfl) (y_loadN (by rfl) Tryz.isAgg29 Tryz.sizeOf29 (Mem.own (us := [.slice _ _ _, .int .i64 _, .int .i64 _, .int .i64 _, .int .i64 _, .slice _ _ _]) 2 (by rfl) (by rfl)) (by rfl)) ?_
              refine WS_det hF (by rfl) (y_callL (by rfl) (by rfl) Tryz.call12 (fun w hw => Ct_eq (holds_any (l.rs m ⟨l.tr m, l.tr m⟩) z1 zc1 ra rcap 2 w hn (NewRow.ints hz1 hx.len sbB w hw) (NewRow.rws en_len hrr rfl sbB w hw)) hR1)) ?_
              refine WS_det hF (by rfl) (y_move (c := .tuple _) (by rfl)) ?_
              refine WS_det hF (by rfl) (y_extract (c := .agg _) (by rfl) (by rfl)) ?_
              refine WS_det hF (by rfl) (y_extract (c := .int .i64 _) (by rfl) (by rfl)) ?_
              refine WS_new hF (by rfl) (y_alloc Tryz.zeroValue26 (by rfl)) (fun b4 => ?_)
              refine WS_store hF (us := [.int .i64 _, .int .i64 _]) (i := 0) (by rfl) (by rfl) Tryz.sizeOf26 (by rfl) (by rfl) (by rfl) (by first | decide | exact Nat.le_of_ble_eq_true rfl | simp) ?_
              refine WS_det hF (by rfl) (y_assign (c := .int .i64 _) (by rfl)) ?_
              refine WS_nil ?_
              refine Then_normal ?_
              refine W_seq ?_
              refine W_draw0 hF Tryzmixed [] (by decide +kernel) (fun ds => ?_)
              refine P_det (by rfl) (Over_nil (y_move (c := .bool _) (by rfl))) ?_
              refine P_det (by rfl) (Over_nil (y_move (c := .bool _) (by rfl))) ?_
              refine P_det (by rfl) (Over_nil (y_move (c := .int .i64 _) (by rfl))) ?_
              refine P_det (by rfl) (Over_nil (YD_yes (y_eql (by rfl) (by rfl)) dect)) ?_
              refine P_det (by rfl) (Over_nil (by first | exact y_pick_t (c := .bool _) (by rfl) (by rfl) | exact y_pick_f (c := .bool _) (by rfl) (by rfl))) ?_
              refine P_det (by rfl) (Over_nil (y_move (c := .bool _) (by rfl))) ?_
              refine P_det (by rfl) (Over_nil (y_fieldAddr (by rfl) fa26_0)) ?_
              refine P_det (by rfl) (Over_nil (y_load1 (by rfl) Tryz.isAgg3 (Mem.own1 0 (by rfl) (by rfl)))) ?_
              refine P_det (by rfl) (Over_nil (y_move (c := .slice _ _ _) (by rfl))) ?_
              refine P_det (by rfl) (Over_nil (y_move (c := .int .i64 _) (by rfl))) ?_
              refine P_det (by rfl) (Over_nil (y_index (k := m + 1) (by rfl) (by rfl) (by first | rfl | omega) (by first | decide | omega) Tryz.runUnderlying22 Tryz.sizeOf3)) ?_
              refine P_det (by rfl) (Over_nil (y_load1 (by rfl) Tryz.isAgg3 (Mem.iRowJ (f := l.tr) (k := m + 1) 4 (by rfl) (by omega) (by omega)))) ?_
              refine P_det (by rfl) (Over_nil (YD_yes (y_eql (by rfl) (by rfl)) dect)) ?_
              refine P_det (by rfl) (Over_nil (by first | exact y_pick_t (c := .bool _) (by rfl) (by rfl) | exact y_pick_f (c := .bool _) (by rfl) (by rfl))) ?_
              refine P_det (by rfl) (Over_nil (y_assign (c := .bool _) (by rfl))) ?_
              refine PW_end (by rfl) ?_
              refine OverAll_nil ?_
              rintro -
              refine Then_normal ?_
              refine W_ret ?_
              refine Then_ret ?_
              refine Fin_ret [.bool _] [] Tryz.results9 ⟨by rfl, trivial⟩ HSub.nil ?_
              rfl
            · cases c33
          ·
            try simp only [Bool.not_eq_true', Bool.not_eq_false', decide_eq_true_eq, decide_eq_false_iff_not, ne_eq, Classical.not_not, Int.not_lt, Int.not_le] at g33_2
            refine WS_no hF (by rfl) ?_
            refine WS_no hF (by rfl) ?_
            refine WS_no hF (by rfl) ?_
            refine WS_no hF (by rfl) ?_
            refine WS_det hF (by rfl) (by first | exact y_pick_t (c := .bool _) (by rfl) (by rfl) | exact y_pick_f (c := .bool _) (by rfl) (by rfl)) ?_
            refine WS_nil ?_
            refine Then_normal ?_
            refine W_cond (by rfl) (fun c33 => ?_) (fun c33 => ?_)
            · cases c33
            ·
              try simp only [Bool.not_eq_true', Bool.not_eq_false', decide_eq_true_eq, decide_eq_false_iff_not, ne_eq, Classical.not_not, Int.not_lt, Int.not_le] at c33
              have hm0 : m = 0 := by omega
              obtain ⟨hS1, hS2⟩ := Lg.rst1 hok hh (by omega)
              have hR2 := Lg.holdsV_at (i := 1) hS1 (by show 1 ≤ l.es.length; omega)
              refine W_skip ?_
              refine Then_normal ?_
              refine W_seq ?_
              subst hm0
              refine W_region_lit (fun ds => ?_)
              refine WS_det hF (by rfl) (y_loadN (by rfl) Tryz.isAgg29 Tryz.sizeOf29 (Mem.own (us := [.slice _ _ _, .int .i64 _, .int .i64 _, .int .i64 _, .int .i64 _, .slice _ _ _]) 1 (by rfl) (by rfl)) (by rfl)) ?_
              refine WS_det hF (by rfl) (y_callL (by rfl) (by rfl) Tryz.call12 (fun w hw => Ct_eq (holds_any (l.sta (l.tr 0)) z1 zc1 (some ⟨b, o, none⟩) cape 1 w hn (NewRow.ints hz1 hx.len sbB w hw) (he.st w hw)) hR2)) ?_
              refine WS_det hF (by rfl) (y_move (c := .tuple _) (by rfl)) ?_
              refine WS_det hF (by rfl) (y_extract (c := .agg _) (by rfl) (by rfl)) ?_
              refine WS_det hF (by rfl) (y_extract (c := .int .i64 _) (by rfl) (by rfl)) ?_
              refine WS_new hF (by rfl) (y_alloc Tryz.zeroValue26 (by rfl)) (fun b5 => ?_)
              refine WS_store hF (us := [.int .i64 _, .int .i64 _]) (i := 0) (by rfl) (by rfl) Tryz.sizeOf26 (by rfl) (by rfl) (by rfl) (by first | decide | exact Nat.le_of_ble_eq_true rfl | simp) ?_
              refine WS_det hF (by rfl) (y_assign (c := .int .i64 _) (by rfl)) ?_
              refine WS_nil ?_
              refine Then_normal ?_
              refine W_seq ?_
              refine W_draw0 hF Tryzmixed [] (by decide +kernel) (fun ds => ?_)
              refine P_det (by rfl) (Over_nil (y_move (c := .bool _) (by rfl))) ?_
              refine P_det (by rfl) (Over_nil (y_move (c := .bool _) (by rfl))) ?_
              refine P_det (by rfl) (Over_nil (y_move (c := .int .i64 _) (by rfl))) ?_
              refine P_det (by rfl) (Over_nil (YD_yes (y_eql (by rfl) (by rfl)) dect)) ?_
              refine P_det (by rfl) (Over_nil (by first | exact y_pick_t (c := .bool _) (by rfl) (by rfl) | exact y_pick_f (c := .bool _) (by rfl) (by rfl))) ?_
              refine P_det (by rfl) (Over_nil (y_move (c := .bool _) (by rfl))) ?_
              refine P_det (by rfl) (Over_nil (y_move (c := .int .i64 _) (by rfl))) ?_
              refine P_det (by rfl) (Over_nil (YD_no (y_gtr (by rfl) (by rfl)) dect)) ?_
              refine P_det (by rfl) (Over_nil (y_move (c := .bool _) (by rfl))) ?_
              refine P_det (by rfl) (Over_nil (y_fieldAddr (by rfl) fa26_0)) ?_
              refine P_det (by rfl) (Over_nil (y_load1 (by rfl) Tryz.isAgg3 (Mem.own1 0 (by rfl) (by rfl)))) ?_
              refine P_det (by rfl) (Over_nil (y_move (c := .slice _ _ _) (by rfl))) ?_
              refine P_det (by rfl) (Over_nil (y_move (c := .int .i64 _) (by rfl))) ?_
              refine P_det (by rfl) (Over_nil (y_index (k := 1) (by rfl) (by rfl) (by first | rfl | omega) (by first | decide | omega) Tryz.runUnderlying22 Tryz.sizeOf3)) ?_
              refine P_det (by rfl) (Over_nil (y_load1 (by rfl) Tryz.isAgg3 (Mem.iRowJ (f := l.tr) (k := 1) 3 (by rfl) (by omega) (by omega)))) ?_
              refine P_det (by rfl) (Over_nil (YD_yes (y_eql (by rfl) (by rfl)) dect)) ?_
              refine P_det (by rfl) (Over_nil (by first | exact y_pick_t (c := .bool _) (by rfl) (by rfl) | exact y_pick_f (c := .bool _) (by rfl) (by rfl))) ?_
              refine P_det (by rfl) (Over_nil (by first | exact y_pick_t (c := .bool _) (by rfl) (by rfl) | exact y_pick_f (c := .bool _) (by rfl) (by rfl))) ?_
              refine P_det (by rfl) (Over_nil (y_assign (c := .bool _) (by rfl))) ?_
              refine PW_end (by rfl) ?_
              refine OverAll_nil ?_
              rintro -
              refine Then_normal ?_
              refine W_ret ?_
              refine Fin_ret [.bool _] [] Tryz.results9 ⟨by rfl, trivial⟩ HSub.nil ?_
              rfl
theorem tankTruth_any (l : Lg) (a : Option Addr) (cap : Nat) (ae : Option Addr) (cape : Nat) (p : Int) (w : World) (hx : Ints w a l.tk.n cap l.tk.pints) (he : Ens w ae l.es.length cape l.es) (hp0 : 0 ≤ p) (hp1 : p ≤ 255) :
    Ct Tryz.prog 9 #[.agg #[.slice a l.tk.n cap, .int .i64 l.tk.leak, .int .i64 l.tk.foot, .int .i64 l.start.lo, .int .i64 l.start.hi, .slice ae l.es.length cape], .int .u8 p] w fun v _ => v = .bool true := by
  cases hr : l.trB with
  | false => exact tankTruth_no l a cap ae cape p w hx he hr
  | true =>
    obtain ⟨h1, h2, h3⟩ := Lg.rdy_iff.1 (Lg.trB_iff.1 hr).1
    have hvb := emod_bd (n := p) (m := (l.es.length : Int)) (by omega)
    obtain ⟨j, hJ⟩ : ∃ j : Nat, p % ((l.es.length : Int) + 1) = (j : Int) := Int.eq_ofNat_of_zero_le hvb.1
    exact tankTruth_ok l a cap ae cape p j w (by omega) (by omega) hp0 hp1 hx he hr hJ (by omega)
end Go.Proofs.YthkimgfgpphgnaaGreat.T

namespace Go.Proofs.YthkimgfgpphgnaaGreat
open Go.RowKit Go.Proofs Go.Eng Go.ChangeShapes Go.WideShapes Go.ChangeAt Go.Joins T
set_option maxRecDepth 100000
set_option linter.unusedVariables false

theorem walkTankTruth (v0 v1 : Value) (W : World) (h0 : ∃ (l0 : Lg) (a0 : Option Addr) (cap0 : Nat) (ae0 : Option Addr) (cape0 : Nat), v0 = .agg #[.slice a0 l0.tk.n cap0, .int .i64 l0.tk.leak, .int .i64 l0.tk.foot, .int .i64 l0.start.lo, .int .i64 l0.start.hi, .slice ae0 l0.es.length cape0] ∧ Ints W a0 l0.tk.n cap0 l0.tk.pints ∧ Ens W ae0 l0.es.length cape0 l0.es) (h1 : ∃ n1 : Int, v1 = .int .u8 n1 ∧ 0 ≤ n1 ∧ n1 ≤ 255) :
    Calls Tryz.prog 9 #[v0, v1] W fun e W' => e = .returned (.bool true) ∧ Below W.heap.size W W' := by
  obtain ⟨l0, a0, cap0, ae0, cape0, rfl, hx0, he0⟩ := h0
  obtain ⟨n1, rfl, hn1, hm1⟩ := h1
  refine Calls.mono (tankTruth_any l0 a0 cap0 ae0 cape0 n1 W hx0 he0 hn1 hm1) ?_
  rintro e W' ⟨v, rfl, Hn, hb, _, rfl⟩
  exact ⟨rfl, hb⟩

theorem liftTankTruth (os : Os) (started : os.Started) (H : Type) (enc : TypeId × Value → H) :
    ReturnsInHanded {} Tryz.checked os 9 .any (Rows.tankTruthSpec.pre6 enc Tryz.prog Tryz.f9 Rows.tankTruthRow.domain false) (Rows.tankTruthSpec.post enc Tryz.prog Tryz.f9 false true false false) := by
  refine returnsInHanded_of_change (C := Tryz.checked) own started (by kernel_rfl) Tryz.func9
    (ChangeSpec.witness6 (enc := enc) (C := Tryz.checked) false ⟨#[], #[.agg #[.slice none 0 0, .int .i64 0, .int .i64 0, .int .i64 0, .int .i64 0, .slice none 0 0], .int .u8 0], []⟩ 8 (by kernel_rfl) (by kernel_rfl) (by kernel_rfl) (by kernel_rfl)) ?_
  intro W base args ds gs before hval0 hW hcnd _
  have hval : ∀ (j : Nat) t v, Tryz.f9.params[j]? = some t → args[j]? = some v → Value.okWide Tryz.prog W .any base t v := hval0
  have hW' := hW
  obtain ⟨p, q, hA0, hV, rfl, hfz, hnd⟩ := hW
  have hA : DataW.TrodAll enc Tryz.prog W 0 (fun _ => true) true Tryz.f9.params.toList args.toList ds p := hA0
  rw [Tryz.params9] at hA hval
  obtain ⟨v0, vs0, d0, ds0, p0, q0, hargs, rfl, rfl, h0, r0⟩ := trodAll_cons hA
  obtain ⟨v1, vs1, d1, ds1, p1, q1, rfl, rfl, rfl, h1, r1⟩ := trodAll_cons r0
  obtain ⟨rfl, rfl, rfl⟩ := trodAll_nil r1
  obtain rfl : args = #[v0, v1] := by cases args; simp_all
  obtain ⟨rfl, rfl⟩ := trodVars_none hV
  have lt0 : ∀ x ∈ p0, x.block < W.heap.size := by obtain ⟨m, hm⟩ := h0; exact DataW.trod_lt m _ _ _ hm
  have lt1 : ∀ x ∈ p1, x.block < W.heap.size := by obtain ⟨m, hm⟩ := h1; exact DataW.trod_lt m _ _ _ hm
  have o0 : ∃ (l0 : Lg) (a0 : Option Addr) (cap0 : Nat) (ae0 : Option Addr) (cape0 : Nat), v0 = .agg #[.slice a0 l0.tk.n cap0, .int .i64 l0.tk.leak, .int .i64 l0.tk.foot, .int .i64 l0.start.lo, .int .i64 l0.start.hi, .slice ae0 l0.es.length cape0] ∧ Ints W a0 l0.tk.n cap0 l0.tk.pints ∧ Ens W ae0 l0.es.length cape0 l0.es := open_log (hval 0 _ v0 rfl rfl) h0 (fun _ => rfl)
  have o1 : ∃ n1 : Int, v1 = .int .u8 n1 ∧ 0 ≤ n1 ∧ n1 ≤ 255 := open_u8 Tryz.underlying5 (hval 1 _ v1 rfl rfl) h1
  clear hA0 hval0
  refine (walkTankTruth v0 v1 W o0 o1).mono fun e W' ⟨he, bel⟩ => ?_
  subst he
  exact ⟨_, rfl, _, _, _, [], _, [], hW', trodAll_mk1 (shut_bool Tryz.underlying4 _),
    (trodAll_cons_mk (Below.trod laidOut (by kernel_rfl) (of_decide_eq_true (by kernel_rfl)) h0 bel lt0) (trodAll_cons_mk (Below.trod laidOut (by kernel_rfl) (of_decide_eq_true (by kernel_rfl)) h1 bel lt1) trodAll_mk0)), rfl, bel.frame _, fun h => by cases h⟩

theorem tankTruth : Rows.TankTruthSaid :=
  OpenClaim.holds_of_wide 9 Tryz.f9 rfl rfl rfl rfl rfl rfl rfl ⟨rfl, rfl, rfl, rfl, rfl⟩ rfl rfl rfl rfl rfl (by kernel_rfl) Tryz.func9 (by kernel_rfl)
    (of_decide_eq_true (by kernel_rfl)) (by unfold Func.isWrapper; first | (rw [if_pos (by decide +kernel)]; kernel_rfl) | (rw [if_neg (by decide +kernel)]; exact ⟨rfl, rfl⟩))
    (fun os started H enc _ => liftTankTruth os started H enc)
end Go.Proofs.YthkimgfgpphgnaaGreat
