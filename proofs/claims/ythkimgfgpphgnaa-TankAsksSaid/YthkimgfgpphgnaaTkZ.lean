/- The dip that tells most: first, and Ask. -/
import Derived.Test.YthkimgfgpphgnaaTkY
namespace Go.Proofs.Ythkimgfgpphgnaa.T
open Go.RowKit Go.Proofs Go.Eng
set_option maxRecDepth 100000
set_option linter.unusedVariables false
set_option linter.unusedSimpArgs false



theorem cmpI_neg {x y : Int} : cmpI x y < 0 ↔ x < y := by unfold cmpI; split <;> (try split) <;> omega
def Lg.wN (l : Lg) (k : Nat) : Int := l.worst (k : Int)
def Lg.hN (l : Lg) : Nat := 8 * (l.tk.n - 1) + 1
def FJ (b1 b2 b3 b7 m : Nat) (f : Bool) : List Blk := [(b1, CB [.func (.func 100) #[] #[.pointer (some ⟨b7, 0, none⟩)]] 136), (b2, CB [.int .i64 (m : Nat)] 3), (b3, CB [.bool f] 4)]
theorem first_any (b5 b6 b7 kb : Nat) (l : Lg) (w : World) (hW : Wo w b5 b6 b7 kb l) :
    Ct Try.prog 98 #[.func (.func 99) #[] #[.pointer (some ⟨b5, 0, none⟩)], .func (.func 100) #[] #[.pointer (some ⟨b7, 0, none⟩)]] w
      fun v _ => v = .tuple #[.int .i64 (bestN l.wN l.hN : Nat), .bool true] := by
  have hn2 := hW.kn.ok.tk.n2
  have hn21 := hW.kn.ok.tk.n21
  have hh : l.tk.height = 8 * ((l.tk.n : Int) - 1) := rfl
  have hN : (l.hN : Int) = l.tk.height + 1 := by unfold Lg.hN; omega
  have hF := wide_wide
  refine Ct_start (args := [_, _]) Try.func98 (by rfl) Try.ntmps98 (by rfl) ?_
  refine W_seq ?_
  refine W_region_lit (fun ds => ?_)
  refine WS_new hF (by rfl) (y_box (by rfl)) (fun b1 => ?_)
  refine WS_det hF (by rfl) (y_assign (c := .int .i64 _) (by rfl)) ?_
  refine WS_det hF (by rfl) (y_assign (c := .bool _) (by rfl)) ?_
  refine WS_nil ?_
  refine Then_normal ?_
  refine W_seq ?_
  refine W_region_lit (fun ds => ?_)
  refine WS_new hF (by rfl) (y_alloc Try.zeroValue3 (by rfl)) (fun b2 => ?_)
  refine WS_nil ?_
  refine Then_normal ?_
  refine W_seq ?_
  refine W_region_lit (fun ds => ?_)
  refine WS_new hF (by rfl) (y_alloc Try.zeroValue4 (by rfl)) (fun b3 => ?_)
  refine WS_store hF (i := 0) (by rfl) (by rfl) Try.sizeOf4 (by rfl) (by rfl) (by rfl) (by first | decide | exact Nat.le_of_ble_eq_true rfl | simp) ?_
  refine WS_nil ?_
  refine Then_normal ?_
  refine W_seq ?_
  refine W_seq ?_
  refine W_region_lit (fun ds => ?_)
  refine WS_det hF (by rfl) (y_move (c := _) (by rfl)) ?_
  refine WS_nil ?_
  refine Then_normal ?_
  refine W_block ?_
  refine W_range hF (by rfl) (encs := (fun k => [.int .i64 (k : Int)])) (N := l.hN) (H0 := []) (G0 := [(b1, _), (b2, _), (b3, _)]) (fun k G => G = FJ b1 b2 b3 b7 (bestN l.wN k) (decide (0 < k))) (fun _ _ _ => False) (by rfl) Try.call99 (by rfl) (fun _ => rfl) (fun ds => ask2_it _ _ _ b5 b6 b7 kb l hW) (rfl) ((SubP.pick 2 (by rfl) (SubP.pick 1 (by rfl) (SubP.pick 0 (by rfl) (SubP.nil)))).hsub) ?_ ?_ ?_
  · rintro k hk G hj out lpr R R'
    have hF := wide_inRound wide_wide lpr
    subst hj
    have hbl := bestN_le l.wN k
    have hkN : (k : Int) < l.tk.height + 1 := by omega
    refine W_region_lit (fun ds => ?_)
    refine WS_det hF (by rfl) (y_assign (c := .int .i64 _) (by rfl)) ?_
    refine WS_nil ?_
    refine Then_normal ?_
    refine ⟨[_, _, _], rfl, ?_⟩
    refine W_block ?_
    refine W_seq ?_
    refine W_region_lit (fun ds => ?_)
    refine WS_det hF (by rfl) (y_load1 (by rfl) Try.isAgg4 (Mem.own1 2 (by rfl) (by rfl))) ?_
    refine WS_det hF (by rfl) (y_not (by rfl)) ?_
    refine WS_det hF (by rfl) (y_move (c := .bool _) (by rfl)) ?_
    refine WS_split 13 (by rfl) (fun g5_2 => ?_) (fun g5_2 => ?_)
    ·
      try simp only [Bool.not_eq_true', Bool.not_eq_false', decide_eq_true_eq, decide_eq_false_iff_not, ne_eq, Classical.not_not, Int.not_lt, Int.not_le] at g5_2
      refine WS_no hF (by rfl) ?_
      refine WS_no hF (by rfl) ?_
      refine WS_no hF (by rfl) ?_
      refine WS_no hF (by rfl) ?_
      refine WS_no hF (by rfl) ?_
      refine WS_det hF (by rfl) (by first | exact y_pick_t (c := .bool _) (by rfl) (by rfl) | exact y_pick_f (c := .bool _) (by rfl) (by rfl)) ?_
      refine WS_nil ?_
      refine Then_normal ?_
      refine W_cond (by rfl) (fun c5 => ?_) (fun c5 => ?_)
      ·
        try simp only [Bool.not_eq_true', Bool.not_eq_false', decide_eq_true_eq, decide_eq_false_iff_not, ne_eq, Classical.not_not, Int.not_lt, Int.not_le] at c5
        refine W_region_lit (fun ds => ?_)
        refine WS_det hF (by rfl) (y_move (c := .int .i64 _) (by rfl)) ?_
        refine WS_store hF (i := 1) (by rfl) (by rfl) Try.sizeOf3 (by rfl) (by rfl) (by rfl) (by first | decide | exact Nat.le_of_ble_eq_true rfl | simp) ?_
        refine WS_store hF (i := 2) (by rfl) (by rfl) Try.sizeOf4 (by rfl) (by rfl) (by rfl) (by first | decide | exact Nat.le_of_ble_eq_true rfl | simp) ?_
        refine WS_nil ?_
        refine InB_normal ?_
        refine ⟨[_, _, _], (SubP.pick 0 (by rfl) (SubP.pick 0 (by rfl) (SubP.pick 0 (by rfl) (by exact SubP.refl)))).hsub, ?_⟩
        have hb : bestN l.wN (k + 1) = k := by
          obtain rfl : k = 0 := by omega
          unfold bestN; split <;> rfl
        show _ = FJ b1 b2 b3 b7 (bestN l.wN (k + 1)) (decide (0 < k + 1))
        rw [hb, show decide (0 < k + 1) = true by simp]
        rfl
      · cases c5
    ·
      try simp only [Bool.not_eq_true', Bool.not_eq_false', decide_eq_true_eq, decide_eq_false_iff_not, ne_eq, Classical.not_not, Int.not_lt, Int.not_le] at g5_2
      refine WS_det hF (by rfl) (y_load1 (by rfl) Try.isAgg136 (Mem.own1 0 (by rfl) (by rfl))) ?_
      refine WS_det hF (by rfl) (y_move (c := .int .i64 _) (by rfl)) ?_
      refine WS_det hF (by rfl) (y_load1 (by rfl) Try.isAgg3 (Mem.own1 1 (by rfl) (by rfl))) ?_
      refine WS_det hF (by rfl) (y_callL (by rfl) (by rfl) Try.call100 (fun w hw => ask3_any b5 b6 b7 kb l (k : Int) (bestN l.wN k : Nat) w (hW.st w hw) (by omega) (by omega) (by omega) (by omega))) ?_
      refine WS_det hF (by rfl) (y_lss (by rfl) (by rfl)) ?_
      refine WS_det hF (by rfl) (by first | exact y_pick_t (c := .bool _) (by rfl) (by rfl) | exact y_pick_f (c := .bool _) (by rfl) (by rfl)) ?_
      refine WS_nil ?_
      refine Then_normal ?_
      refine W_cond (by rfl) (fun c5 => ?_) (fun c5 => ?_)
      ·
        try simp only [Bool.not_eq_true', Bool.not_eq_false', decide_eq_true_eq, decide_eq_false_iff_not, ne_eq, Classical.not_not, Int.not_lt, Int.not_le] at c5
        refine W_region_lit (fun ds => ?_)
        refine WS_det hF (by rfl) (y_move (c := .int .i64 _) (by rfl)) ?_
        refine WS_store hF (i := 1) (by rfl) (by rfl) Try.sizeOf3 (by rfl) (by rfl) (by rfl) (by first | decide | exact Nat.le_of_ble_eq_true rfl | simp) ?_
        refine WS_store hF (i := 2) (by rfl) (by rfl) Try.sizeOf4 (by rfl) (by rfl) (by rfl) (by first | decide | exact Nat.le_of_ble_eq_true rfl | simp) ?_
        refine WS_nil ?_
        refine InB_normal ?_
        refine ⟨[_, _, _], (SubP.pick 0 (by rfl) (SubP.pick 0 (by rfl) (SubP.pick 0 (by rfl) (by exact SubP.refl)))).hsub, ?_⟩
        have hb : bestN l.wN (k + 1) = k := if_pos (cmpI_neg.1 c5)
        show _ = FJ b1 b2 b3 b7 (bestN l.wN (k + 1)) (decide (0 < k + 1))
        rw [hb, show decide (0 < k + 1) = true by simp]
        rfl
      ·
        try simp only [Bool.not_eq_true', Bool.not_eq_false', decide_eq_true_eq, decide_eq_false_iff_not, ne_eq, Classical.not_not, Int.not_lt, Int.not_le] at c5
        refine W_skip ?_
        refine InB_normal ?_
        refine ⟨[_, _, _], (SubP.pick 0 (by rfl) (SubP.pick 0 (by rfl) (SubP.pick 0 (by rfl) (by exact SubP.refl)))).hsub, ?_⟩
        have hb : bestN l.wN (k + 1) = bestN l.wN k := if_neg (fun h => absurd (show cmpI (l.worst (k : Int)) (l.worst (bestN l.wN k : Nat)) < 0 from cmpI_neg.2 h) (by omega))
        show _ = FJ b1 b2 b3 b7 (bestN l.wN (k + 1)) (decide (0 < k + 1))
        rw [hb, show decide (0 < k + 1) = true by simp, ← show decide (0 < k) = true by simp only [decide_eq_true_eq]; omega]
        rfl
  · rintro G hj
    subst hj
    refine InB_normal ?_
    refine Then_normal ?_
    refine W_seq ?_
    refine W_draw0 hF Trymixed [] (by decide +kernel) (fun ds => ?_)
    refine P_det (by rfl) (Over_nil (y_load1 (by rfl) Try.isAgg3 (Mem.own1 1 (by rfl) (by rfl)))) ?_
    refine P_det (by rfl) (Over_nil (y_load1 (by rfl) Try.isAgg4 (Mem.own1 2 (by rfl) (by rfl)))) ?_
    refine P_det (by rfl) (Over_nil (y_assign (c := .int .i64 _) (by rfl))) ?_
    refine P_det (by rfl) (Over_nil (y_assign (c := .bool _) (by rfl))) ?_
    refine PW_end (by rfl) ?_
    refine OverAll_nil ?_
    rintro -
    refine Then_normal ?_
    refine W_ret ?_
    refine Fin_ret [.int .i64 _, .bool _] [] Try.results98 ⟨by rfl, by rfl, trivial⟩ HSub.nil ?_
    have : decide (0 < l.hN) = true := by simp only [decide_eq_true_eq]; omega
    rw [← this]; rfl
  · rintro c k G hk hj
    exact hj.elim
def Lg.askV (l : Lg) : Value :=
  if l.aerr = 0 then if l.last.hi = l.last.lo then .tuple #[.int .i64 0, .int .i64 0, .int .i64 6] else .tuple #[.int .i64 (bestN l.wN l.hN : Nat), .int .i64 (l.wN (bestN l.wN l.hN)), .int .i64 0] else .tuple #[.int .i64 0, .int .i64 0, .int .i64 l.aerr]
theorem ask_any (l : Lg) (a : Option Addr) (cap : Nat) (ae : Option Addr) (cape : Nat) (w : World) (hn : l.tk.n ≤ 1000000) (hx : Ints w a l.tk.n cap l.tk.pints) (he : Ens w ae l.es.length cape l.es) : Ct Try.prog 39 #[.agg #[.slice a l.tk.n cap, .int .i64 l.tk.leak, .int .i64 l.tk.foot, .int .i64 l.start.lo, .int .i64 l.start.hi, .slice ae l.es.length cape]] w fun v _ => v = l.askV := by
  have hF := wide_wide
  refine Ct_start (args := [_]) Try.func39 (by rfl) Try.ntmps39 (by rfl) ?_
  refine W_seq ?_
  refine W_region_lit (fun ds => ?_)
  refine WS_new hF (by rfl) (y_box (by rfl)) (fun b1 => ?_)
  refine WS_det hF (by rfl) (y_assign (c := .int .i64 _) (by rfl)) ?_
  refine WS_det hF (by rfl) (y_assign (c := .int .i64 _) (by rfl)) ?_
  refine WS_det hF (by rfl) (y_assign (c := .int .i64 _) (by rfl)) ?_
  refine WS_nil ?_
  refine Then_normal ?_
  refine W_seq ?_
  refine W_region_lit (fun ds => ?_)
  refine WS_det hF (by rfl) (y_loadN (by rfl) Try.isAgg46 Try.sizeOf46 (Mem.own (us := [.slice _ _ _, .int .i64 _, .int .i64 _, .int .i64 _, .int .i64 _, .slice _ _ _]) 0 (by rfl) (by rfl)) (by rfl)) ?_
  refine WS_gen hF (by rfl) (y_callL (by rfl) (by rfl) Try.call88 (fun w hw => asked_any l a cap ae cape w hn (hx.st w hw) (he.st w hw))) ?_
  rintro _ Hg ⟨p, rfl, hg1, hg2⟩
  refine WS_det hF (by rfl) (y_move (c := .tuple _) (by rfl)) ?_
  refine WS_det hF (by rfl) (y_extract (c := .pointer _) (by rfl) (by rfl)) ?_
  refine WS_det hF (by rfl) (y_extract (c := .int .i64 _) (by rfl) (by rfl)) ?_
  refine WS_new hF (by rfl) (y_alloc Try.zeroValue123 (by rfl)) (fun b2 => ?_)
  refine WS_store hF (i := 0) (by rfl) (by rfl) Try.sizeOf123 (by rfl) (by rfl) (by rfl) (by first | decide | exact Nat.le_of_ble_eq_true rfl | simp) ?_
  refine WS_det hF (by rfl) (y_assign (c := .int .i64 _) (by rfl)) ?_
  refine WS_nil ?_
  refine Then_normal ?_
  refine W_seq ?_
  refine W_seq ?_
  refine W_region_lit (fun ds => ?_)
  refine WS_det hF (by rfl) (y_move (c := .int .i64 _) (by rfl)) ?_
  refine WS_det hF (by rfl) (y_neq (by rfl) (by rfl)) ?_
  refine WS_nil ?_
  refine Then_normal ?_
  refine W_cond (by rfl) (fun c2 => ?_) (fun c2 => ?_)
  ·
    try simp only [Bool.not_eq_true', Bool.not_eq_false', decide_eq_true_eq, decide_eq_false_iff_not, ne_eq, Classical.not_not, Int.not_lt, Int.not_le] at c2
    obtain rfl := hg2 c2
    refine W_seq ?_
    refine W_region_lit (fun ds => ?_)
    refine WS_det hF (by rfl) (y_move (c := .int .i64 _) (by rfl)) ?_
    refine WS_det hF (by rfl) (y_assign (c := .int .i64 _) (by rfl)) ?_
    refine WS_det hF (by rfl) (y_assign (c := .int .i64 _) (by rfl)) ?_
    refine WS_det hF (by rfl) (y_assign (c := .int .i64 _) (by rfl)) ?_
    refine WS_nil ?_
    refine Then_normal ?_
    refine W_ret ?_
    refine Then_ret ?_
    refine Fin_ret [.int .i64 _, .int .i64 _, .int .i64 _] [] Try.results39 ⟨by rfl, by rfl, by rfl, trivial⟩ HSub.nil ?_
    show Value.tuple _ = _
    unfold Lg.askV
    rw [if_neg c2]
  ·
    try simp only [Bool.not_eq_true', Bool.not_eq_false', decide_eq_true_eq, decide_eq_false_iff_not, ne_eq, Classical.not_not, Int.not_lt, Int.not_le] at c2
    obtain ⟨kb, rfl, bk, g, fb, capf, junk, ab, bb, rfl⟩ := hg1 c2
    have hok := l.ok_of (l.aerr0 c2).1
    have hne := (l.aerr0 c2).2
    have hfull := hok.tk.full_bd
    have hlb := hok.last_bd hne
    have hn2 := hok.tk.n2
    have hh : l.tk.height = 8 * ((l.tk.n : Int) - 1) := rfl
    have hN : (l.hN : Int) = l.tk.height + 1 := by unfold Lg.hN; omega
    have hbl := bestN_lt l.wN l.hN (by omega)
    refine W_skip ?_
    refine Then_normal ?_
    refine W_seq ?_
    refine W_region_lit (fun ds => ?_)
    refine WS_det hF (by rfl) (y_load1 (by rfl) Try.isAgg123 (Mem.own1 0 (by rfl) (by rfl))) ?_
    refine WS_det hF (by rfl) (y_callL (by rfl) (by rfl) Try.call89 (fun w hw => last_any kb l w (Kn.own (a := a) (cap := cap) (ae := ae) (cape := cape) (bk := bk) (g := g) (fb := fb) (capf := capf) (junk := junk) (ab := ab) (bb := bb) (by unfold knBlocks; repeat (first | exact List.Sublist.refl _ | exact List.nil_sublist _ | apply List.Sublist.cons_cons | apply List.Sublist.cons)) c2 hx he w hw))) ?_
    refine WS_new hF (by rfl) (y_alloc Try.zeroValue26 (by rfl)) (fun b3 => ?_)
    refine WS_store hF (i := 0) (by rfl) (by rfl) Try.sizeOf26 (by rfl) (by rfl) (by rfl) (by first | decide | exact Nat.le_of_ble_eq_true rfl | simp) ?_
    refine WS_nil ?_
    refine Then_normal ?_
    refine W_seq ?_
    refine W_seq ?_
    refine W_region_lit (fun ds => ?_)
    refine WS_det hF (by rfl) (y_loadN (by rfl) Try.isAgg26 Try.sizeOf26 (Mem.own (us := [.int .i64 _, .int .i64 _]) 0 (by rfl) (by rfl)) (by rfl)) ?_
    refine WS_det hF (by rfl) (y_fieldAddr (by rfl) fa26_0) ?_
    refine WS_det hF (by rfl) (y_load1 (by rfl) Try.isAgg3 (Mem.own1 0 (by rfl) (by rfl))) ?_
    refine WS_det hF (by rfl) (y_fieldAddr (by rfl) fa26_0) ?_
    refine WS_det hF (by rfl) (y_load1 (by rfl) Try.isAgg3 (Mem.own1 0 (by rfl) (by rfl))) ?_
    refine WS_det hF (by rfl) (y_buildL bd26_0_1 (by rfl)) ?_
    refine WS_det hF (by rfl) (y_eqlA (by rfl) (by rfl) eqA26) ?_
    refine WS_nil ?_
    refine Then_normal ?_
    refine W_cond (by rfl) (fun c5 => ?_) (fun c5 => ?_)
    ·
      try simp only [Bool.not_eq_true', Bool.not_eq_false', decide_eq_true_eq, decide_eq_false_iff_not, ne_eq, Classical.not_not, Int.not_lt, Int.not_le] at c5
      refine W_seq ?_
      refine W_region_lit (fun ds => ?_)
      refine WS_det hF (by rfl) (y_assign (c := .int .i64 _) (by rfl)) ?_
      refine WS_det hF (by rfl) (y_assign (c := .int .i64 _) (by rfl)) ?_
      refine WS_det hF (by rfl) (y_assign (c := .int .i64 _) (by rfl)) ?_
      refine WS_nil ?_
      refine Then_normal ?_
      refine W_ret ?_
      refine Then_ret ?_
      refine Fin_ret [.int .i64 _, .int .i64 _, .int .i64 _] [] Try.results39 ⟨by rfl, by rfl, by rfl, trivial⟩ HSub.nil ?_
      show Value.tuple _ = _
      unfold Lg.askV
      simp only [ieq_self, Bool.true_and, ieq_iff] at c5
      rw [if_pos c2, if_pos c5]
    ·
      try simp only [Bool.not_eq_true', Bool.not_eq_false', decide_eq_true_eq, decide_eq_false_iff_not, ne_eq, Classical.not_not, Int.not_lt, Int.not_le] at c5
      refine W_skip ?_
      refine Then_normal ?_
      refine W_seq ?_
      refine W_region_lit (fun ds => ?_)
      refine WS_det hF (by rfl) (y_makeFuncL (by rfl) (by rfl)) ?_
      refine WS_new hF (by rfl) (y_alloc Try.zeroValue99 (by rfl)) (fun b4 => ?_)
      refine WS_store hF (i := 0) (by rfl) (by rfl) Try.sizeOf99 (by rfl) (by rfl) (by rfl) (by first | decide | exact Nat.le_of_ble_eq_true rfl | simp) ?_
      refine WS_nil ?_
      refine Then_normal ?_
      refine W_seq ?_
      refine W_region_lit (fun ds => ?_)
      refine WS_det hF (by rfl) (y_makeFuncL (by rfl) (by rfl)) ?_
      refine WS_det hF (by rfl) (y_makeFuncL (by rfl) (by rfl)) ?_
      refine WS_det hF (by rfl) (y_callL (by rfl) (by rfl) Try.call98 (fun w hw => first_any b2 b3 b4 kb l w ⟨At.block0 (by repeat (first | exact List.mem_cons_self | apply List.mem_cons_of_mem)) w hw, At.block0 (by repeat (first | exact List.mem_cons_self | apply List.mem_cons_of_mem)) w hw, At.block0 (by repeat (first | exact List.mem_cons_self | apply List.mem_cons_of_mem)) w hw, (Kn.own (a := a) (cap := cap) (ae := ae) (cape := cape) (bk := bk) (g := g) (fb := fb) (capf := capf) (junk := junk) (ab := ab) (bb := bb) (by unfold knBlocks; repeat (first | exact List.Sublist.refl _ | exact List.nil_sublist _ | apply List.Sublist.cons_cons | apply List.Sublist.cons)) c2 hx he w hw)⟩)) ?_
      refine WS_det hF (by rfl) (y_move (c := .tuple _) (by rfl)) ?_
      refine WS_det hF (by rfl) (y_extract (c := .int .i64 _) (by rfl) (by rfl)) ?_
      refine WS_det hF (by rfl) (y_extract (c := .bool _) (by rfl) (by rfl)) ?_
      refine WS_det hF (by rfl) (y_assign (c := .int .i64 _) (by rfl)) ?_
      refine WS_det hF (by rfl) (y_assign (c := .bool _) (by rfl)) ?_
      refine WS_nil ?_
      refine Then_normal ?_
      refine W_seq ?_
      refine W_region_lit (fun ds => ?_)
      refine WS_det hF (by rfl) (y_move (c := .int .i64 _) (by rfl)) ?_
      refine WS_det hF (by rfl) (y_load1 (by rfl) Try.isAgg99 (Mem.own1 0 (by rfl) (by rfl))) ?_
      refine WS_det hF (by rfl) (y_move (c := .int .i64 _) (by rfl)) ?_
      refine WS_det hF (by rfl) (y_callL (by rfl) (by rfl) Try.call97 (fun w hw => ask1_any b2 b3 b4 kb l (bestN l.wN l.hN : Nat) w ⟨At.block0 (by repeat (first | exact List.mem_cons_self | apply List.mem_cons_of_mem)) w hw, At.block0 (by repeat (first | exact List.mem_cons_self | apply List.mem_cons_of_mem)) w hw, At.block0 (by repeat (first | exact List.mem_cons_self | apply List.mem_cons_of_mem)) w hw, (Kn.own (a := a) (cap := cap) (ae := ae) (cape := cape) (bk := bk) (g := g) (fb := fb) (capf := capf) (junk := junk) (ab := ab) (bb := bb) (by unfold knBlocks; repeat (first | exact List.Sublist.refl _ | exact List.nil_sublist _ | apply List.Sublist.cons_cons | apply List.Sublist.cons)) c2 hx he w hw)⟩ (by omega) (by omega))) ?_
      refine WS_det hF (by rfl) (y_assign (c := .int .i64 _) (by rfl)) ?_
      refine WS_det hF (by rfl) (y_assign (c := .int .i64 _) (by rfl)) ?_
      refine WS_det hF (by rfl) (y_assign (c := .int .i64 _) (by rfl)) ?_
      refine WS_nil ?_
      refine Then_normal ?_
      refine W_ret ?_
      refine Fin_ret [.int .i64 _, .int .i64 _, .int .i64 _] [] Try.results39 ⟨by rfl, by rfl, by rfl, trivial⟩ HSub.nil ?_
      show Value.tuple _ = _
      unfold Lg.askV
      have c5' : ¬ l.last.hi = l.last.lo := fun h => by simp [ieq, h] at c5
      rw [if_pos c2, if_neg c5']; rfl
end Go.Proofs.Ythkimgfgpphgnaa.T
