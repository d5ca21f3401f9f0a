/- The reference's logs: the walks, second part. -/
import Derived.Test.YthkimgfgpphgnaaRfA
namespace Go.Proofs.Ythkimgfgpphgnaa.T
open Go.RowKit Go.Proofs Go.Eng
set_option maxRecDepth 100000
set_option linter.unusedVariables false
set_option linter.unusedSimpArgs false



def ForthV (l : Lg) (v : Value) (Hn : List Blk) : Prop :=
  ∃ fb m cap junk f, v = .tuple #[.slice (some ⟨fb, 0, none⟩) m cap, .bool l.holdsB] ∧ Hn = [(fb, CB (snRow f m ++ junk) 26)] ∧ (l.holdsB = true → m = l.es.length + 1 ∧ f = l.hold)
theorem forth_any (l : Lg) (a : Option Addr) (cap : Nat) (ae : Option Addr) (cape : Nat) (w : World) (hok : l.Ok) (hn : l.tk.n ≤ 1000000) (hx : Ints w a l.tk.n cap l.tk.pints) (he : Ens w ae l.es.length cape l.es) : Ct Try.prog 110 #[.agg #[.slice a l.tk.n cap, .int .i64 l.tk.leak, .int .i64 l.tk.foot, .int .i64 l.start.lo, .int .i64 l.start.hi, .slice ae l.es.length cape]] w (ForthV l) := by
  have hn12 := hok.n12
  have he0 : (l.hold 0).empty = false := by
    have := Sn.inB_iff.1 hok.start
    show decide (l.start.hi < l.start.lo) = false
    simp only [decide_eq_false_iff_not]; omega
  have hF := wide_wide
  refine Ct_start (args := [_]) Try.func110 (by rfl) Try.ntmps110 (by rfl) ?_
  refine W_seq ?_
  refine W_region_lit (fun ds => ?_)
  refine WS_new hF (by rfl) (y_box (by rfl)) (fun b1 => ?_)
  refine WS_det hF (by rfl) (y_assign (c := .slice _ _ _) (by rfl)) ?_
  refine WS_det hF (by rfl) (y_assign (c := .bool _) (by rfl)) ?_
  refine WS_nil ?_
  refine Then_normal ?_
  refine W_seq ?_
  refine W_region_lit (fun ds => ?_)
  refine WS_det hF (by rfl) (y_fieldAddr (by rfl) fa46_1) ?_
  refine WS_det hF (by rfl) (y_loadN (by rfl) Try.isAgg26 Try.sizeOf26 (Mem.own (us := [.int .i64 _, .int .i64 _]) 0 (by rfl) (by rfl)) (by rfl)) ?_
  refine WS_newS hF (by rfl) (y_buildSliceL bs90_1_0 (by rfl)) (fun b2 => ?_)
  refine WS_det hF (by rfl) (y_assign (c := .slice _ _ _) (by rfl)) ?_
  refine WS_nil ?_
  refine Then_normal ?_
  refine W_seq ?_
  refine W_seq ?_
  refine W_region_lit (fun ds => ?_)
  refine WS_det hF (by rfl) (y_assign (c := .int .i64 _) (by rfl)) ?_
  refine WS_nil ?_
  refine Then_normal ?_
  refine W_block ?_
  refine W_loop (γ := Nat × Nat × Nat × List Value) (fun p => p.1 ≤ l.es.length ∧ (snRow l.hold (p.1 + 1) ++ p.2.2.2).length = p.2.2.1 * 2 ∧ p.1 + 1 ≤ p.2.2.1 ∧ ∀ j, j ≤ p.1 → (l.hold j).empty = false) (fun p => [(1, .pointer (some ⟨b1, 0, none⟩)), (4, .slice (some ⟨p.2.1, 0, none⟩) (p.1 + 1) p.2.2.1), (5, .int .i64 ((p.1 : Int) + 1))]) (fun p => [(p.2.1, CB (snRow l.hold (p.1 + 1) ++ p.2.2.2) 26), (b1, CB [.slice a l.tk.n cap, .int .i64 l.tk.leak, .int .i64 l.tk.foot, .int .i64 l.start.lo, .int .i64 l.start.hi, .slice ae l.es.length cape] 46)]) (fun p => l.es.length - p.1) ((0, b2, 1, [])) ⟨Nat.zero_le _, rfl, Nat.le_refl _, fun j hj => by obtain rfl : j = 0 := (by omega); exact he0⟩ (by repeat (first | exact trivial | refine ⟨by rfl, ?_⟩)) (List.Sublist.refl _) ?_
  rintro ⟨k, fb, fcap, junk⟩ e ⟨hk, hlen, hcap, hne⟩
  refine W_seq ?_
  refine W_seq ?_
  refine W_region_lit (fun ds => ?_)
  refine WS_det hF (by rfl) (y_move (c := .int .i64 _) (by rfl)) ?_
  refine WS_det hF (by rfl) (y_fieldAddr (by rfl) fa46_2) ?_
  refine WS_det hF (by rfl) (y_load1 (by rfl) Try.isAgg44 (Mem.own1 1 (by rfl) (by rfl))) ?_
  refine WS_det hF (by rfl) (y_len (by rfl) Try.runUnderlying44) ?_
  refine WS_det hF (by rfl) (y_leq (by rfl) (by rfl)) ?_
  refine WS_nil ?_
  refine Then_normal ?_
  refine W_cond (by rfl) (fun c3 => ?_) (fun c3 => ?_)
  ·
    try simp only [Bool.not_eq_true', Bool.not_eq_false', decide_eq_true_eq, decide_eq_false_iff_not, ne_eq, Classical.not_not, Int.not_lt, Int.not_le] at c3
    obtain ⟨b, o, rfl, hc⟩ := he.cell k (by omega)
    change At w b _ (l.e k).cells at hc
    simp only at hlen hcap hne
    have hsm := hok.hold_sm (k := k) (by omega) (fun j hj => hne j (by omega)) (hne k (Nat.le_refl _))
    have hbd := hok.hold_bd k (by omega) (fun j hj => hne j (by omega))
    have hdr := hok.drip_bd (i := k) (by omega)
    have hbs : (l.before k (l.hold k)).Sm := by
      unfold Sn.Sm at hsm ⊢
      unfold Lg.before
      simp only
      omega
    refine W_skip ?_
    refine Then_normal ?_
    refine W_seq ?_
    refine W_block ?_
    refine W_seq ?_
    refine W_draw0 hF Trymixed [6] (by decide +kernel) (fun ds => ?_)
    refine P_det (by rfl) (Over_nil (y_loadN (by rfl) Try.isAgg46 Try.sizeOf46 (Mem.own (us := [.slice _ _ _, .int .i64 _, .int .i64 _, .int .i64 _, .int .i64 _, .slice _ _ _]) 1 (by rfl) (by rfl)) (by rfl))) ?_
    refine P_det (by rfl) (Over_nil (y_fieldAddr (by rfl) fa46_2)) ?_
    refine P_det (by rfl) (Over_nil (y_load1 (by rfl) Try.isAgg44 (Mem.own1 1 (by rfl) (by rfl)))) ?_
    refine P_det (by rfl) (Over_nil (y_move (c := .int .i64 _) (by rfl))) ?_
    refine P_det (by rfl) (Over_nil (y_sub (by rfl) (by rfl) (by unfold I64; omega))) ?_
    refine P_det (by rfl) (Over_nil (y_index (k := k) (by rfl) (by rfl) (by first | rfl | omega) (by first | decide | omega) Try.runUnderlying44 Try.sizeOf48)) ?_
    refine P_det (by rfl) (Over_nil (y_loadN (by rfl) Try.isAgg48 Try.sizeOf48 (by first | exact Mem.old (by assumption) | exact Mem.oldAt (us := [.int .i64 _, .int .i64 _, .int .i64 _, .int .i64 _]) (by assumption) (by rfl) | exact Mem.oldAtL (us := [.int .i64 _, .int .i64 _, .int .i64 _, .int .i64 _]) (by assumption) (by rfl) (by rfl)) (by rfl))) ?_
    refine P_det (by rfl) (Over_nil (y_loadN (by rfl) Try.isAgg46 Try.sizeOf46 (Mem.own (us := [.slice _ _ _, .int .i64 _, .int .i64 _, .int .i64 _, .int .i64 _, .slice _ _ _]) 1 (by rfl) (by rfl)) (by rfl))) ?_
    refine P_det (by rfl) (Over_nil (y_move (c := .int .i64 _) (by rfl))) ?_
    refine P_det (by rfl) (Over_nil (y_move (c := .slice _ _ _) (by rfl))) ?_
    refine P_det (by rfl) (Over_nil (y_move (c := .int .i64 _) (by rfl))) ?_
    refine P_det (by rfl) (Over_nil (y_sub (by rfl) (by rfl) (by unfold I64; omega))) ?_
    refine P_det (by rfl) (Over_nil (y_index (k := k) (by rfl) (by rfl) (by first | rfl | omega) (by first | decide | omega) Try.runUnderlying90 Try.sizeOf26)) ?_
    refine P_det (by rfl) (Over_nil (y_loadN (by rfl) Try.isAgg26 Try.sizeOf26 (Mem.rowJ sn_len 0 (by rfl) (k := k) (by omega) rfl (by omega)) (by rfl))) ?_
    refine P_det (by rfl) (Over_nil (y_callL (by rfl) (by rfl) Try.call106 (fun w hw => ahead_any l a cap _ cape k (l.hold k) w hok hn (hx.st w hw) (he.st w hw) (by omega) hsm hbd.1))) ?_
    refine P_det (by rfl) (Over_nil (y_callL (by rfl) (by rfl) Try.call105 (fun w hw => done_any l a cap _ cape k (l.before k (l.hold k)) w hok hn (hx.st w hw) (he.st w hw) (by omega) hbs))) ?_
    apply P_newS _ (by rfl) (by rfl) (by rfl) (Over_nil (y_alloc Try.zeroValue26 (by rfl)))
    refine P_st 6 0 (by rfl) (by rfl) (by rfl) (by rfl) (by rfl) (Over_nil (st_new (fun _ => by rfl) Try.sizeOf26 (by rfl) (by rfl) (by first | decide | exact Nat.le_of_ble_eq_true rfl | simp))) ?_
    refine PW_end (by rfl) ?_
    refine OverAll_cons (fun w6 l6 => ?_)
    refine OverAll_nil ?_
    rintro ⟨-, h6⟩
    obtain ⟨b3, rfl, rfl⟩ := h6
    refine Then_normal ?_
    refine W_seq ?_
    refine W_seq ?_
    refine W_region_lit (fun ds => ?_)
    refine WS_det hF (by rfl) (y_loadN (by rfl) Try.isAgg26 Try.sizeOf26 (Mem.own (us := [.int .i64 _, .int .i64 _]) 0 (by rfl) (by rfl)) (by rfl)) ?_
    refine WS_det hF (by rfl) (y_callL (by rfl) (by rfl) Try.call117 (fun w hw => none_any _ _ w)) ?_
    refine WS_nil ?_
    refine Then_normal ?_
    refine W_cond (by rfl) (fun c6 => ?_) (fun c6 => ?_)
    ·
      try simp only [Bool.not_eq_true', Bool.not_eq_false', decide_eq_true_eq, decide_eq_false_iff_not, ne_eq, Classical.not_not, Int.not_lt, Int.not_le] at c6
      refine W_seq ?_
      refine W_region_lit (fun ds => ?_)
      refine WS_det hF (by rfl) (y_move (c := .slice _ _ _) (by rfl)) ?_
      refine WS_det hF (by rfl) (y_assign (c := .slice _ _ _) (by rfl)) ?_
      refine WS_det hF (by rfl) (y_assign (c := .bool _) (by rfl)) ?_
      refine WS_nil ?_
      refine Then_normal ?_
      refine W_ret ?_
      refine Then_ret ?_
      refine InB_ret ?_
      refine Then_ret ?_
      refine Loop_ret ?_
      refine InB_ret ?_
      refine Then_ret ?_
      refine Fin_ret [.slice _ _ _, .bool _] [(fb, _)] Try.results110 ⟨by rfl, by rfl, trivial⟩ (HSub.sub (by repeat (first | exact List.nil_sublist _ | apply List.Sublist.cons_cons | apply List.Sublist.cons))) ?_
      have hB : l.holdsB = false := by
        cases hb : l.holdsB with
        | false => rfl
        | true =>
          have := l.holdsB_iff.1 hb (k + 1) (by omega)
          have h2 : decide ((l.tk.forth (l.e k) (l.before k (l.hold k))).hi < (l.tk.forth (l.e k) (l.before k (l.hold k))).lo) = false := this
          simp only [decide_eq_false_iff_not] at h2
          omega
      exact ⟨fb, k + 1, fcap, junk, l.hold, by rw [hB]; rfl, rfl, fun h => by rw [hB] at h; cases h⟩
    ·
      try simp only [Bool.not_eq_true', Bool.not_eq_false', decide_eq_true_eq, decide_eq_false_iff_not, ne_eq, Classical.not_not, Int.not_lt, Int.not_le] at c6
      refine W_skip ?_
      refine Then_normal ?_
      refine W_region_lit (fun ds => ?_)
      refine WS_det hF (by rfl) (y_move (c := .slice _ _ _) (by rfl)) ?_
      refine WS_det hF (by rfl) (y_loadN (by rfl) Try.isAgg26 Try.sizeOf26 (Mem.own (us := [.int .i64 _, .int .i64 _]) 0 (by rfl) (by rfl)) (by rfl)) ?_
      refine WS_newS hF (by rfl) (y_buildSliceL bs90_1_0 (by rfl)) (fun b4 => ?_)
      refine WS_append hF (H1 := [_, _]) (Hn := [(fb, CB (snRow l.hold (k + 1) ++ junk) 26)]) (by rfl) (by rfl) (by rfl) Try.underlying90 infSpan (by rfl) (by rfl) (.inr ⟨fb, junk, rfl, rfl, by rw [rowOf_len sn_len], hlen, hcap⟩) (.inr ⟨_, _, rfl, Mem.own (us := [.int _ _, .int _ _]) 0 (by rfl) (by rfl)⟩) (by rfl) (by rfl) (by omega) (by omega) ?_
      intro fa2 fcap2 Hf2 hrow2
      have hrow3 : Row 26 2 fa2 (k + 1 + 1) fcap2 (snRow l.hold (k + 1 + 1)) Hf2 := by rw [snRow, rowOf_succ]; exact hrow2
      have hne2 : ∀ j, j ≤ k + 1 → (l.hold j).empty = false := fun j hj => by
        obtain hj | rfl : j ≤ k ∨ j = k + 1 := by omega
        · exact hne j hj
        · show decide ((l.tk.forth (l.e k) (l.before k (l.hold k))).hi < (l.tk.forth (l.e k) (l.before k (l.hold k))).lo) = false
          simp only [decide_eq_false_iff_not]; omega
      obtain ⟨_, h0, _⟩ | ⟨fb2, junk2, rfl, rfl, hl1, hlen2, hcap2⟩ := hrow3
      · omega
      refine WS_det hF (by rfl) (y_assign (c := .slice _ _ _) (by rfl)) ?_
      refine WS_nil ?_
      refine InB_normal ?_
      refine Then_normal ?_
      refine W_region_lit (fun ds => ?_)
      refine WS_det hF (by rfl) (y_move (c := .int .i64 _) (by rfl)) ?_
      refine WS_det hF (by rfl) (y_add (by rfl) (by rfl) (by unfold I64; omega)) ?_
      refine WS_det hF (by rfl) (y_assign (c := .int .i64 _) (by rfl)) ?_
      refine WS_nil ?_
      exact Loop_next (k + 1, fb2, fcap2, junk2) ⟨by omega, hlen2, hcap2, hne2⟩ (by repeat (first | exact trivial | refine ⟨by rfl, ?_⟩)) (by repeat (first | exact List.Sublist.refl _ | exact List.nil_sublist _ | apply List.Sublist.cons_cons | apply List.Sublist.cons)) (by simp only; omega)
  ·
    try simp only [Bool.not_eq_true', Bool.not_eq_false', decide_eq_true_eq, decide_eq_false_iff_not, ne_eq, Classical.not_not, Int.not_lt, Int.not_le] at c3
    refine W_exit ?_
    refine Then_exit ?_
    refine Loop_exit ?_
    refine InB_same ?_
    refine Then_normal ?_
    refine W_seq ?_
    refine W_region_lit (fun ds => ?_)
    refine WS_det hF (by rfl) (y_move (c := .slice _ _ _) (by rfl)) ?_
    refine WS_det hF (by rfl) (y_assign (c := .slice _ _ _) (by rfl)) ?_
    refine WS_det hF (by rfl) (y_assign (c := .bool _) (by rfl)) ?_
    refine WS_nil ?_
    refine Then_normal ?_
    refine W_ret ?_
    refine Fin_ret [.slice _ _ _, .bool _] [(fb, _)] Try.results110 ⟨by rfl, by rfl, trivial⟩ (HSub.sub (by repeat (first | exact List.nil_sublist _ | apply List.Sublist.cons_cons | apply List.Sublist.cons))) ?_
    obtain rfl : k = l.es.length := by omega
    have hB : l.holdsB = true := l.holdsB_iff.2 hne
    exact ⟨fb, l.es.length + 1, fcap, junk, l.hold, by rw [hB]; rfl, rfl, fun _ => ⟨rfl, rfl⟩⟩
theorem holding_ref (l : Lg) (a : Option Addr) (cap : Nat) (ae : Option Addr) (cape : Nat) (w : World) (hok : l.Ok) (hn : l.tk.n ≤ 1000000) (hx : Ints w a l.tk.n cap l.tk.pints) (he : Ens w ae l.es.length cape l.es) : Ct Try.prog 84 #[.agg #[.slice a l.tk.n cap, .int .i64 l.tk.leak, .int .i64 l.tk.foot, .int .i64 l.start.lo, .int .i64 l.start.hi, .slice ae l.es.length cape]] w fun v _ => v = .bool l.holdsB := by
  have hF := wide_wide
  refine Ct_start (args := [_]) Try.func84 (by rfl) Try.ntmps84 (by rfl) ?_
  refine W_seq ?_
  refine W_region_lit (fun ds => ?_)
  refine WS_new hF (by rfl) (y_box (by rfl)) (fun b1 => ?_)
  refine WS_det hF (by rfl) (y_assign (c := .bool _) (by rfl)) ?_
  refine WS_nil ?_
  refine Then_normal ?_
  refine W_seq ?_
  refine W_region_lit (fun ds => ?_)
  refine WS_det hF (by rfl) (y_loadN (by rfl) Try.isAgg46 Try.sizeOf46 (Mem.own (us := [.slice _ _ _, .int .i64 _, .int .i64 _, .int .i64 _, .int .i64 _, .slice _ _ _]) 0 (by rfl) (by rfl)) (by rfl)) ?_
  refine WS_gen hF (by rfl) (y_callL (by rfl) (by rfl) Try.call110 (fun w hw => forth_any l a cap ae cape w hok hn (hx.st w hw) (he.st w hw))) ?_
  rintro _ _ ⟨fb, m, fcap, junk, f, rfl, rfl, _⟩
  refine WS_det hF (by rfl) (y_move (c := .tuple _) (by rfl)) ?_
  refine WS_det hF (by rfl) (y_extract (c := .slice _ _ _) (by rfl) (by rfl)) ?_
  refine WS_det hF (by rfl) (y_extract (c := .bool _) (by rfl) (by rfl)) ?_
  refine WS_det hF (by rfl) (y_assign (c := .slice _ _ _) (by rfl)) ?_
  refine WS_det hF (by rfl) (y_assign (c := .bool _) (by rfl)) ?_
  refine WS_nil ?_
  refine Then_normal ?_
  refine W_seq ?_
  refine W_region_lit (fun ds => ?_)
  refine WS_det hF (by rfl) (y_move (c := .bool _) (by rfl)) ?_
  refine WS_det hF (by rfl) (y_assign (c := .bool _) (by rfl)) ?_
  refine WS_nil ?_
  refine Then_normal ?_
  refine W_ret ?_
  refine Fin_ret [.bool _] [] Try.results84 ⟨by rfl, trivial⟩ HSub.nil ?_
  rfl
theorem rasked_any (l : Lg) (a : Option Addr) (cap : Nat) (ae : Option Addr) (cape : Nat) (w : World) (hn : l.tk.n ≤ 1000000) (hx : Ints w a l.tk.n cap l.tk.pints) (he : Ens w ae l.es.length cape l.es) : Ct Try.prog 90 #[.agg #[.slice a l.tk.n cap, .int .i64 l.tk.leak, .int .i64 l.tk.foot, .int .i64 l.start.lo, .int .i64 l.start.hi, .slice ae l.es.length cape]] w fun v _ => v = .int .i64 l.aerr := by
  have hF := wide_wide
  refine Ct_start (args := [_]) Try.func90 (by rfl) Try.ntmps90 (by rfl) ?_
  refine W_seq ?_
  refine W_region_lit (fun ds => ?_)
  refine WS_new hF (by rfl) (y_box (by rfl)) (fun b1 => ?_)
  refine WS_det hF (by rfl) (y_assign (c := .int .i64 _) (by rfl)) ?_
  refine WS_nil ?_
  refine Then_normal ?_
  refine W_seq ?_
  refine W_seq ?_
  refine W_region_lit (fun ds => ?_)
  refine WS_det hF (by rfl) (y_loadN (by rfl) Try.isAgg46 Try.sizeOf46 (Mem.own (us := [.slice _ _ _, .int .i64 _, .int .i64 _, .int .i64 _, .int .i64 _, .slice _ _ _]) 0 (by rfl) (by rfl)) (by rfl)) ?_
  refine WS_det hF (by rfl) (y_callL (by rfl) (by rfl) Try.call46 (fun w hw => rvalid_any l a cap ae cape w hn (hx.st w hw) (he.st w hw))) ?_
  refine WS_det hF (by rfl) (y_assign (c := .int .i64 _) (by rfl)) ?_
  refine WS_nil ?_
  refine Then_normal ?_
  refine W_seq ?_
  refine W_region_lit (fun ds => ?_)
  refine WS_det hF (by rfl) (y_move (c := .int .i64 _) (by rfl)) ?_
  refine WS_det hF (by rfl) (y_neq (by rfl) (by rfl)) ?_
  refine WS_nil ?_
  refine Then_normal ?_
  refine W_cond (by rfl) (fun c2 => ?_) (fun c2 => ?_)
  ·
    try simp only [Bool.not_eq_true', Bool.not_eq_false', decide_eq_true_eq, decide_eq_false_iff_not, ne_eq, Classical.not_not, Int.not_lt, Int.not_le] at c2
    refine W_seq ?_
    refine W_region_lit (fun ds => ?_)
    refine WS_det hF (by rfl) (y_move (c := .int .i64 _) (by rfl)) ?_
    refine WS_det hF (by rfl) (y_assign (c := .int .i64 _) (by rfl)) ?_
    refine WS_nil ?_
    refine Then_normal ?_
    refine W_ret ?_
    refine Then_ret ?_
    refine Fin_ret [.int .i64 _] [] Try.results90 ⟨by rfl, trivial⟩ HSub.nil ?_
    show Value.int _ _ = _
    unfold Lg.aerr; rw [if_neg c2]
  ·
    try simp only [Bool.not_eq_true', Bool.not_eq_false', decide_eq_true_eq, decide_eq_false_iff_not, ne_eq, Classical.not_not, Int.not_lt, Int.not_le] at c2
    refine W_skip ?_
    refine Then_normal ?_
    refine W_seq ?_
    refine W_seq ?_
    refine W_region_lit (fun ds => ?_)
    refine WS_det hF (by rfl) (y_loadN (by rfl) Try.isAgg46 Try.sizeOf46 (Mem.own (us := [.slice _ _ _, .int .i64 _, .int .i64 _, .int .i64 _, .int .i64 _, .slice _ _ _]) 0 (by rfl) (by rfl)) (by rfl)) ?_
    refine WS_det hF (by rfl) (y_callL (by rfl) (by rfl) Try.call84 (fun w hw => holding_ref l a cap ae cape w (l.ok_of c2) hn (hx.st w hw) (he.st w hw))) ?_
    refine WS_det hF (by rfl) (y_not (by rfl)) ?_
    refine WS_nil ?_
    refine Then_normal ?_
    refine W_cond (by rfl) (fun c4 => ?_) (fun c4 => ?_)
    ·
      try simp only [Bool.not_eq_true', Bool.not_eq_false', decide_eq_true_eq, decide_eq_false_iff_not, ne_eq, Classical.not_not, Int.not_lt, Int.not_le] at c4
      refine W_seq ?_
      refine W_region_lit (fun ds => ?_)
      refine WS_det hF (by rfl) (y_assign (c := .int .i64 _) (by rfl)) ?_
      refine WS_nil ?_
      refine Then_normal ?_
      refine W_ret ?_
      refine Then_ret ?_
      refine Fin_ret [.int .i64 _] [] Try.results90 ⟨by rfl, trivial⟩ HSub.nil ?_
      show Value.int _ _ = _
      unfold Lg.aerr; rw [if_pos c2, c4]; rfl
    ·
      try simp only [Bool.not_eq_true', Bool.not_eq_false', decide_eq_true_eq, decide_eq_false_iff_not, ne_eq, Classical.not_not, Int.not_lt, Int.not_le] at c4
      refine W_skip ?_
      refine Then_normal ?_
      refine W_seq ?_
      refine W_region_lit (fun ds => ?_)
      refine WS_det hF (by rfl) (y_assign (c := .int .i64 _) (by rfl)) ?_
      refine WS_nil ?_
      refine Then_normal ?_
      refine W_ret ?_
      refine Fin_ret [.int .i64 _] [] Try.results90 ⟨by rfl, trivial⟩ HSub.nil ?_
      show Value.int _ _ = _
      unfold Lg.aerr; rw [if_pos c2, c4]; rfl
def RBackV (l : Lg) (v : Value) (Hn : List Blk) : Prop := ∃ ab, v = .slice (some ⟨ab, 0, none⟩) (l.es.length + 1) (l.es.length + 1) ∧ Hn = [(ab, CB (snRow l.aft (l.es.length + 1)) 26)]
theorem rback_any (l : Lg) (a : Option Addr) (cap : Nat) (ae : Option Addr) (cape : Nat) (w : World) (hok : l.Ok) (hn : l.tk.n ≤ 1000000) (hx : Ints w a l.tk.n cap l.tk.pints) (he : Ens w ae l.es.length cape l.es) : Ct Try.prog 104 #[.agg #[.slice a l.tk.n cap, .int .i64 l.tk.leak, .int .i64 l.tk.foot, .int .i64 l.start.lo, .int .i64 l.start.hi, .slice ae l.es.length cape]] w (RBackV l) := by
  have hn12 := hok.n12
  have hn2 := hok.tk.n2
  have hfull := hok.tk.full_bd
  have hF := wide_wide
  refine Ct_start (args := [_]) Try.func104 (by rfl) Try.ntmps104 (by rfl) ?_
  refine W_seq ?_
  refine W_region_lit (fun ds => ?_)
  refine WS_new hF (by rfl) (y_box (by rfl)) (fun b1 => ?_)
  refine WS_det hF (by rfl) (y_assign (c := .slice _ _ _) (by rfl)) ?_
  refine WS_nil ?_
  refine Then_normal ?_
  refine W_seq ?_
  refine W_region_lit (fun ds => ?_)
  refine WS_det hF (by rfl) (y_fieldAddr (by rfl) fa46_2) ?_
  refine WS_det hF (by rfl) (y_load1 (by rfl) Try.isAgg44 (Mem.own1 0 (by rfl) (by rfl))) ?_
  refine WS_det hF (by rfl) (y_len (by rfl) Try.runUnderlying44) ?_
  refine WS_det hF (by rfl) (y_assign (c := .int .i64 _) (by rfl)) ?_
  refine WS_nil ?_
  refine Then_normal ?_
  refine W_seq ?_
  refine W_region_lit (fun ds => ?_)
  refine WS_det hF (by rfl) (y_move (c := .int .i64 _) (by rfl)) ?_
  refine WS_det hF (by rfl) (y_add (by rfl) (by rfl) (by unfold I64; omega)) ?_
  refine WS_newS hF (by rfl) (y_makeSlice (n := l.es.length + 1) (by rfl) (by rfl) (by omega) (by omega) Try.underlying90 infSpan (by rfl) (by rfl) (by omega) (by omega)) (fun b2 => ?_)
  refine WS_det hF (by rfl) (y_assign (c := .slice _ _ _) (by rfl)) ?_
  refine WS_nil ?_
  refine Then_normal ?_
  refine W_seq ?_
  refine W_region_lit (fun ds => ?_)
  refine WS_det hF (by rfl) (y_move (c := .slice _ _ _) (by rfl)) ?_
  refine WS_det hF (by rfl) (y_move (c := .int .i64 _) (by rfl)) ?_
  refine WS_det hF (by rfl) (y_loadN (by rfl) Try.isAgg46 Try.sizeOf46 (Mem.own (us := [.slice _ _ _, .int .i64 _, .int .i64 _, .int .i64 _, .int .i64 _, .slice _ _ _]) 1 (by rfl) (by rfl)) (by rfl)) ?_
  refine WS_det hF (by rfl) (y_callL (by rfl) (by rfl) Try.call130 (fun w hw => all_any l a cap ae cape w hok.tk hn (hx.st w hw) (he.st w hw))) ?_
  refine WS_det hF (by rfl) (y_index (k := l.es.length) (by rfl) (by rfl) (by first | rfl | omega) (by first | decide | omega) Try.runUnderlying90 Try.sizeOf26) ?_
  refine WS_store hF (i := 0) (by rfl) (by rfl) Try.sizeOf26 (by rfl) (by rfl) (by rfl) (by show 0 + l.es.length * 2 + 2 ≤ (snRow (fun _ => Sn.z) (l.es.length + 1)).length; rw [rowOf_len sn_len]; omega) ?_
  refine WS_nil ?_
  refine Then_normal ?_
  refine W_seq ?_
  refine W_seq ?_
  refine W_region_lit (fun ds => ?_)
  refine WS_det hF (by rfl) (y_move (c := .int .i64 _) (by rfl)) ?_
  refine WS_det hF (by rfl) (y_assign (c := .int .i64 _) (by rfl)) ?_
  refine WS_nil ?_
  refine Then_normal ?_
  refine W_block ?_
  refine W_loop (γ := Nat) (fun k => k ≤ l.es.length) (fun k => [(1, .pointer (some ⟨b1, 0, none⟩)), (4, .slice (some ⟨b2, 0, none⟩) (l.es.length + 1) (l.es.length + 1)), (5, .int .i64 ((l.es.length : Int) - (k : Int)))]) (fun k => [(b2, CB (snRow (l.af k) (l.es.length + 1)) 26), (b1, CB [.slice a l.tk.n cap, .int .i64 l.tk.leak, .int .i64 l.tk.foot, .int .i64 l.start.lo, .int .i64 l.start.hi, .slice ae l.es.length cape] 46)]) (fun k => l.es.length - k) (0) (Nat.zero_le _) ((by repeat (first | exact trivial | refine ⟨by rfl, ?_⟩ | refine ⟨congrArg (Value.int _) (by first | omega | (simp only; omega) | (push_cast; omega)), ?_⟩))) ((by have h := l.af_zero; rw [← Nat.zero_add (l.es.length * 2)] at h; rw [← h]; exact List.Sublist.refl _)) ?_
  intro k e hk
  refine W_seq ?_
  refine W_seq ?_
  refine W_region_lit (fun ds => ?_)
  refine WS_det hF (by rfl) (y_move (c := .int .i64 _) (by rfl)) ?_
  refine WS_det hF (by rfl) (y_gtr (by rfl) (by rfl)) ?_
  refine WS_nil ?_
  refine Then_normal ?_
  refine W_cond (by rfl) (fun c5 => ?_) (fun c5 => ?_)
  ·
    try simp only [Bool.not_eq_true', Bool.not_eq_false', decide_eq_true_eq, decide_eq_false_iff_not, ne_eq, Classical.not_not, Int.not_lt, Int.not_le] at c5
    obtain ⟨b, o, rfl, hc⟩ := he.cell (l.es.length - 1 - k) (by omega)
    change At w b _ (l.e (l.es.length - 1 - k)).cells at hc
    have hab := hok.aft_bd (i := l.es.length - 1 - k + 1) (by omega)
    have hhb := hok.ahd_bd (i := l.es.length - 1 - k) (by omega)
    have hdb := hok.drip_bd (i := l.es.length - 1 - k) (by omega)
    have hafe : l.af k (l.es.length - k) = l.aft (l.es.length - 1 - k + 1) := by unfold Lg.af; rw [if_pos (by omega), show l.es.length - k = l.es.length - 1 - k + 1 by omega]
    have h3 := l.af_succ (k := k) (by omega)
    refine W_skip ?_
    refine Then_normal ?_
    refine W_seq ?_
    refine W_block ?_
    refine W_seq ?_
    refine W_draw0 hF Trymixed [6] (by decide +kernel) (fun ds => ?_)
    refine P_det (by rfl) (Over_nil (y_loadN (by rfl) Try.isAgg46 Try.sizeOf46 (Mem.own (us := [.slice _ _ _, .int .i64 _, .int .i64 _, .int .i64 _, .int .i64 _, .slice _ _ _]) 1 (by rfl) (by rfl)) (by rfl))) ?_
    refine P_det (by rfl) (Over_nil (y_fieldAddr (by rfl) fa46_2)) ?_
    refine P_det (by rfl) (Over_nil (y_load1 (by rfl) Try.isAgg44 (Mem.own1 1 (by rfl) (by rfl)))) ?_
    refine P_det (by rfl) (Over_nil (y_move (c := .int .i64 _) (by rfl))) ?_
    refine P_det (by rfl) (Over_nil (y_sub (by rfl) (by rfl) (by unfold I64; omega))) ?_
    refine P_det (by rfl) (Over_nil (y_index (k := l.es.length - 1 - k) (by rfl) (by rfl) (by first | rfl | omega) (by first | decide | omega) Try.runUnderlying44 Try.sizeOf48)) ?_
    refine P_det (by rfl) (Over_nil (y_loadN (by rfl) Try.isAgg48 Try.sizeOf48 (by first | exact Mem.old (by assumption) | exact Mem.oldAt (us := [.int .i64 _, .int .i64 _, .int .i64 _, .int .i64 _]) (by assumption) (by rfl) | exact Mem.oldAtL (us := [.int .i64 _, .int .i64 _, .int .i64 _, .int .i64 _]) (by assumption) (by rfl) (by rfl)) (by rfl))) ?_
    refine P_det (by rfl) (Over_nil (y_move (c := .slice _ _ _) (by rfl))) ?_
    refine P_det (by rfl) (Over_nil (y_move (c := .int .i64 _) (by rfl))) ?_
    refine P_det (by rfl) (Over_nil (y_index (k := l.es.length - k) (by rfl) (by rfl) (by first | rfl | omega) (by first | decide | omega) Try.runUnderlying90 Try.sizeOf26)) ?_
    refine P_det (by rfl) (Over_nil (y_loadN (by rfl) Try.isAgg26 Try.sizeOf26 (Mem.row sn_len 0 (by rfl) (k := l.es.length - k) (by omega) hafe (by omega)) (by rfl))) ?_
    refine P_det (by rfl) (Over_nil (y_callL (by rfl) (by rfl) Try.call112 (fun w hw => undone_any l a cap _ cape (l.es.length - 1 - k) (l.aft (l.es.length - 1 - k + 1)) w hok hn (hx.st w hw) (he.st w hw) (by omega) (by unfold Sn.Sm; omega)))) ?_
    apply P_newS _ (by rfl) (by rfl) (by rfl) (Over_nil (y_alloc Try.zeroValue26 (by rfl)))
    refine P_st 6 0 (by rfl) (by rfl) (by rfl) (by rfl) (by rfl) (Over_nil (st_new (fun _ => by rfl) Try.sizeOf26 (by rfl) (by rfl) (by first | decide | exact Nat.le_of_ble_eq_true rfl | simp))) ?_
    refine PW_end (by rfl) ?_
    refine OverAll_cons (fun w6 l6 => ?_)
    refine OverAll_nil ?_
    rintro ⟨-, h6⟩
    obtain ⟨bs, rfl, rfl⟩ := h6
    refine Then_normal ?_
    refine W_seq ?_
    refine W_seq ?_
    have hah : l.tk.back (l.e (l.es.length - 1 - k)) (l.aft (l.es.length - 1 - k + 1)) = l.ahd (l.es.length - 1 - k) := rfl
    rw [hah]
    refine W_region_lit (fun ds => ?_)
    refine WS_det hF (by rfl) (y_move (c := .int .i64 _) (by rfl)) ?_
    refine WS_det hF (by rfl) (y_gtr (by rfl) (by rfl)) ?_
    refine WS_nil ?_
    refine Then_normal ?_
    refine W_cond (by rfl) (fun c8 => ?_) (fun c8 => ?_)
    ·
      try simp only [Bool.not_eq_true', Bool.not_eq_false', decide_eq_true_eq, decide_eq_false_iff_not, ne_eq, Classical.not_not, Int.not_lt, Int.not_le] at c8
      have hs2 : splice (snRow (l.af k) (l.es.length + 1)) (0 + (l.es.length - 1 - k) * 2) [.int .i64 (l.ahd (l.es.length - 1 - k)).lo, .int .i64 (min ((l.ahd (l.es.length - 1 - k)).hi + l.drip (l.es.length - 1 - k)) l.tk.full)] = snRow (l.af (k + 1)) (l.es.length + 1) := by
        rw [Int.min_comm, Nat.zero_add]; exact h3
      apply W_drawMT 12 hF Trymixed [] [] [] (by rfl) (by decide +kernel) (by decide) HSub.refl
      intro ds
      refine P_det (by rfl) (Over_nil (y_fieldAddr (by rfl) fa26_1)) ?_
      refine P_det (by rfl) (Over_nil (y_load1 (by rfl) Try.isAgg3 (Mem.own1 0 (by rfl) (by rfl)))) ?_
      refine P_det (by rfl) (Over_nil (y_loadN (by rfl) Try.isAgg46 Try.sizeOf46 (Mem.own (us := [.slice _ _ _, .int .i64 _, .int .i64 _, .int .i64 _, .int .i64 _, .slice _ _ _]) 2 (by rfl) (by rfl)) (by rfl))) ?_
      refine P_det (by rfl) (Over_nil (y_move (c := .int .i64 _) (by rfl))) ?_
      refine P_det (by rfl) (Over_nil (y_sub (by rfl) (by rfl) (by unfold I64; omega))) ?_
      refine P_det (by rfl) (Over_nil (y_callL (by rfl) (by rfl) Try.call113 (fun w hw => leak_any l a cap _ cape (l.es.length - 1 - k) _ w hok hn (hx.st w hw) (he.st w hw) (by omega) (by omega) (by omega)))) ?_
      refine P_det (by rfl) (Over_nil (y_add (by rfl) (by rfl) (by unfold I64; omega))) ?_
      refine P_det (by rfl) (Over_nil (y_fieldAddr (by rfl) fa46_0)) ?_
      refine P_det (by rfl) (Over_nil (y_loadN (by rfl) Try.isAgg24 Try.sizeOf24 (Mem.own (us := [.slice _ _ _, .int .i64 _, .int .i64 _]) 2 (by rfl) (by rfl)) (by rfl))) ?_
      refine P_det (by rfl) (Over_nil (y_callL (by rfl) (by rfl) Try.call56 (fun w hw => full_any l.tk a cap w hn (by omega) (hx.st w hw)))) ?_
      refine P_det (by rfl) (Over_nil (y_min (by rfl) (by rfl))) ?_
      refine P_det (by rfl) (Over_nil (y_fieldAddr (by rfl) fa26_1)) ?_
      refine PW_end (by rfl) ?_
      refine OverAll_nil ?_
      rintro -
      refine WS_store hF (i := 0) (by rfl) (by rfl) Try.sizeOf3 (by rfl) (by rfl) (by rfl) (by first | decide | exact Nat.le_of_ble_eq_true rfl | simp) ?_
      refine WS_nil ?_
      refine Then_normal ?_
      refine W_region_lit (fun ds => ?_)
      refine WS_det hF (by rfl) (y_move (c := .slice _ _ _) (by rfl)) ?_
      refine WS_det hF (by rfl) (y_move (c := .int .i64 _) (by rfl)) ?_
      refine WS_det hF (by rfl) (y_sub (by rfl) (by rfl) (by unfold I64; omega)) ?_
      refine WS_det hF (by rfl) (y_loadN (by rfl) Try.isAgg26 Try.sizeOf26 (Mem.own (us := [.int .i64 _, .int .i64 _]) 0 (by rfl) (by rfl)) (by rfl)) ?_
      refine WS_det hF (by rfl) (y_index (k := l.es.length - 1 - k) (by rfl) (by rfl) (by first | rfl | omega) (by first | decide | omega) Try.runUnderlying90 Try.sizeOf26) ?_
      refine WS_store hF (i := 1) (by rfl) (by rfl) Try.sizeOf26 (by rfl) (by rfl) (by rfl) (by show 0 + (l.es.length - 1 - k) * 2 + 2 ≤ (snRow (l.af k) (l.es.length + 1)).length; rw [rowOf_len sn_len]; omega) ?_
      refine WS_nil ?_
      refine InB_normal ?_
      refine Then_normal ?_
      refine W_region_lit (fun ds => ?_)
      refine WS_det hF (by rfl) (y_move (c := .int .i64 _) (by rfl)) ?_
      refine WS_det hF (by rfl) (y_sub (by rfl) (by rfl) (by unfold I64; omega)) ?_
      refine WS_det hF (by rfl) (y_assign (c := .int .i64 _) (by rfl)) ?_
      refine WS_nil ?_
      exact Loop_next (k + 1) (by omega) (by repeat (first | exact trivial | refine ⟨by rfl, ?_⟩ | refine ⟨congrArg (Value.int _) (by first | omega | (simp only; omega) | (push_cast; omega)), ?_⟩)) (by rw [← hs2]; repeat (first | exact List.Sublist.refl _ | exact List.nil_sublist _ | apply List.Sublist.cons_cons | apply List.Sublist.cons)) (by omega)
    ·
      try simp only [Bool.not_eq_true', Bool.not_eq_false', decide_eq_true_eq, decide_eq_false_iff_not, ne_eq, Classical.not_not, Int.not_lt, Int.not_le] at c8
      have hs2 : splice (snRow (l.af k) (l.es.length + 1)) (0 + (l.es.length - 1 - k) * 2) [.int .i64 (l.ahd (l.es.length - 1 - k)).lo, .int .i64 (l.ahd (l.es.length - 1 - k)).hi] = snRow (l.af (k + 1)) (l.es.length + 1) := by
        have hz : l.es.length - 1 - k = 0 := by omega
        rw [hz] at h3 hhb ⊢
        rw [show l.drip 0 = 0 from rfl, Int.add_zero, Int.min_eq_right hhb.2.1] at h3
        rw [Nat.zero_add]; exact h3
      refine W_skip ?_
      refine Then_normal ?_
      refine W_region_lit (fun ds => ?_)
      refine WS_det hF (by rfl) (y_move (c := .slice _ _ _) (by rfl)) ?_
      refine WS_det hF (by rfl) (y_move (c := .int .i64 _) (by rfl)) ?_
      refine WS_det hF (by rfl) (y_sub (by rfl) (by rfl) (by unfold I64; omega)) ?_
      refine WS_det hF (by rfl) (y_loadN (by rfl) Try.isAgg26 Try.sizeOf26 (Mem.own (us := [.int .i64 _, .int .i64 _]) 0 (by rfl) (by rfl)) (by rfl)) ?_
      refine WS_det hF (by rfl) (y_index (k := l.es.length - 1 - k) (by rfl) (by rfl) (by first | rfl | omega) (by first | decide | omega) Try.runUnderlying90 Try.sizeOf26) ?_
      refine WS_store hF (i := 1) (by rfl) (by rfl) Try.sizeOf26 (by rfl) (by rfl) (by rfl) (by show 0 + (l.es.length - 1 - k) * 2 + 2 ≤ (snRow (l.af k) (l.es.length + 1)).length; rw [rowOf_len sn_len]; omega) ?_
      refine WS_nil ?_
      refine InB_normal ?_
      refine Then_normal ?_
      refine W_region_lit (fun ds => ?_)
      refine WS_det hF (by rfl) (y_move (c := .int .i64 _) (by rfl)) ?_
      refine WS_det hF (by rfl) (y_sub (by rfl) (by rfl) (by unfold I64; omega)) ?_
      refine WS_det hF (by rfl) (y_assign (c := .int .i64 _) (by rfl)) ?_
      refine WS_nil ?_
      exact Loop_next (k + 1) (by omega) (by repeat (first | exact trivial | refine ⟨by rfl, ?_⟩ | refine ⟨congrArg (Value.int _) (by first | omega | (simp only; omega) | (push_cast; omega)), ?_⟩)) (by rw [← hs2]; repeat (first | exact List.Sublist.refl _ | exact List.nil_sublist _ | apply List.Sublist.cons_cons | apply List.Sublist.cons)) (by omega)
  ·
    try simp only [Bool.not_eq_true', Bool.not_eq_false', decide_eq_true_eq, decide_eq_false_iff_not, ne_eq, Classical.not_not, Int.not_lt, Int.not_le] at c5
    refine W_exit ?_
    refine Then_exit ?_
    refine Loop_exit ?_
    refine InB_same ?_
    refine Then_normal ?_
    refine W_seq ?_
    refine W_region_lit (fun ds => ?_)
    refine WS_det hF (by rfl) (y_move (c := .slice _ _ _) (by rfl)) ?_
    refine WS_det hF (by rfl) (y_assign (c := .slice _ _ _) (by rfl)) ?_
    refine WS_nil ?_
    refine Then_normal ?_
    refine W_ret ?_
    refine Fin_ret [.slice _ _ _] [(b2, _)] Try.results104 ⟨by rfl, trivial⟩ (HSub.sub (by repeat (first | exact List.nil_sublist _ | apply List.Sublist.cons_cons | apply List.Sublist.cons))) ?_
    obtain rfl : k = l.es.length := by omega
    exact ⟨b2, rfl, by rw [← l.af_end]⟩
end Go.Proofs.Ythkimgfgpphgnaa.T
