/- Walks: GreatTank, TwinTank, SameInts. -/
import Derived.Test.YthkimgfgpphgnaaTkE
namespace Go.Proofs.Ythkimgfgpphgnaa.T
open Go.RowKit Go.Proofs Go.Eng
set_option maxRecDepth 100000
set_option linter.unusedVariables false
set_option linter.unusedSimpArgs false

theorem bd24_0_1_2 {x0a : Option Addr} {x0l x0c : Nat} {x1 : Int} {x2 : Int} : ∀ w, (Instr.build 24 #[(0, .slice x0a x0l x0c), (1, .int .i64 x1), (2, .int .i64 x2)]).run Try.prog w = .ok (.agg #[.slice x0a x0l x0c, .int .i64 x1, .int .i64 x2]) w := fun w => by kernel_rfl
theorem bs22_0  : ∀ w, (Instr.buildSlice 22 0 #[]).run Try.prog w = .ok (.slice (some ⟨w.heap.size, 0, none⟩) 0 0) (w.alloc (CB [] 3)) := fun w => by kernel_rfl

theorem Ct_eq {P : Program} {f : FuncId} {args : Array Value} {w : World} {c c' : Value} (hc : Ct P f args w fun v _ => v = c) (h : c = c') : Ct P f args w fun v _ => v = c' := h ▸ hc
def iv (xs : List Int) : List Value := xs.map (Value.int .i64)
theorem Ints.row {w : World} {b o n cap : Nat} {xs : List Int} (h : Ints w (some ⟨b, o, none⟩) n cap xs) : At w b o (iv xs) := At.of fun j v hv => by
  have hj : j < xs.length := by have := (List.getElem?_eq_some_iff.1 hv).1; simpa [iv] using this
  have h1 := h.at (k := j) (by rw [← h.len]; exact hj)
  have h2 : v = .int .i64 (xs.getD j 0) := by
    rw [iv, List.getElem?_map, List.getElem?_eq_getElem hj] at hv
    simp only [Option.map_some, Option.some.injEq] at hv
    rw [← hv]; simp [List.getD_eq_getElem?_getD, hj]
  rw [h2]
  have := h1.1
  rwa [show o + j * 1 = o + j by omega] at this
theorem Ints.src {C : Ctx} {H : List Blk} {a : Option Addr} {n cap : Nat} {xs : List Int} (h : Ints C.w0 a n cap xs) : Src C H a n (iv xs) := by
  by_cases hn : n = 0
  · refine .inl ⟨hn, ?_⟩
    have := h.len
    rw [hn] at this
    rw [List.length_eq_zero_iff.1 this]; rfl
  · obtain ⟨b, o, rfl⟩ := h.adr (by omega)
    exact .inr ⟨b, o, rfl, Mem.old h.row⟩
theorem NewRow.ints {C : Ctx} {H Hn : List Blk} {a : Option Addr} {n cap : Nat} {xs : List Int} {T : TypeId} (h : NewRow T 1 n (iv xs) (.slice a n cap) Hn) (hl : xs.length = n) (hs : Hn.Sublist H) (w : World) (hw : St C H w) : Ints w a n cap xs := by
  obtain ⟨a', cap', he, hle, hc⟩ := h
  cases he
  rcases hc with ⟨hn, b, junk, rfl, rfl, hlen⟩ | ⟨hn, rfl, rfl⟩
  · exact Ints.mem (rest := junk) 0 rfl hl hle w (hw.sub hs)
  · subst hn
    rw [List.length_eq_zero_iff.1 hl]
    exact Ints.nil _ _ _

theorem greatTank_any (t : Tk) (a : Option Addr) (cap : Nat) (w : World) :
    Ct Try.prog 11 #[.agg #[.slice a t.n cap, .int .i64 t.leak, .int .i64 t.foot]] w fun v _ => v = .bool (decide ((t.n : Int) > 40)) := by
  have hF := wide_wide
  refine Ct_start (args := [_]) Try.func11 (by rfl) Try.ntmps11 (by rfl) ?_
  refine W_seq ?_
  refine W_region_lit (fun ds => ?_)
  refine WS_new hF (by rfl) (y_box (by rfl)) (fun b1 => ?_)
  refine WS_det hF (by rfl) (y_assign (c := .bool _) (by rfl)) ?_
  refine WS_nil ?_
  refine Then_normal ?_
  refine W_seq ?_
  refine W_region_lit (fun ds => ?_)
  refine WS_det hF (by rfl) (y_fieldAddr (by rfl) fa24_0) ?_
  refine WS_det hF (by rfl) (y_load1 (by rfl) Try.isAgg22 (Mem.own1 0 (by rfl) (by rfl))) ?_
  refine WS_det hF (by rfl) (y_len (by rfl) Try.runUnderlying22) ?_
  refine WS_det hF (by rfl) (y_gtr (by rfl) (by rfl)) ?_
  refine WS_det hF (by rfl) (y_assign (c := .bool _) (by rfl)) ?_
  refine WS_nil ?_
  refine Then_normal ?_
  refine W_ret ?_
  refine Fin_ret [.bool _] [] Try.results11 ⟨by rfl, trivial⟩ HSub.nil ?_
  rfl
/-- A tank in new memory. -/
def TwinV (t : Tk) (v : Value) (Hn : List Blk) : Prop := ∃ a cap, v = .agg #[.slice a t.n cap, .int .i64 t.leak, .int .i64 t.foot] ∧ NewRow 3 1 t.n (iv t.pints) (.slice a t.n cap) Hn
theorem infInt : (Try.prog.info? 3).map (fun i => (i.zero, i.size, i.bytes)) = some (some (.int .i64 0), 1, 8) := by kernel_rfl

theorem twinTank_any (t : Tk) (a : Option Addr) (cap : Nat) (w : World) (hn : t.n ≤ 1000000) (hx : Ints w a t.n cap t.pints) :
    Ct Try.prog 12 #[.agg #[.slice a t.n cap, .int .i64 t.leak, .int .i64 t.foot]] w (TwinV t) := by
  have hlen : (iv t.pints).length = t.n * 1 := by rw [Nat.mul_one]; exact (List.length_map _).trans hx.len
  have hF := wide_wide
  refine Ct_start (args := [_]) Try.func12 (by rfl) Try.ntmps12 (by rfl) ?_
  refine W_seq ?_
  refine W_region_lit (fun ds => ?_)
  refine WS_new hF (by rfl) (y_box (by rfl)) (fun b1 => ?_)
  refine WS_new hF (by rfl) (y_alloc Try.zeroValue24 (by rfl)) (fun b2 => ?_)
  refine WS_nil ?_
  refine Then_normal ?_
  refine W_seq ?_
  apply W_draw1D hF Trymixed [1000000] 11 _ (i := 0) (by rfl) (by decide +kernel)
  intro ds
  refine P_new (by rfl) (by rfl) (Over_out (by rfl) (Over_nil (y_buildSliceL bs22_0 (by rfl)))) ?_
  refine P_det (by rfl) (Over_out (by rfl) (Over_out (by rfl) (Over_nil (y_fieldAddr (by rfl) fa24_0)))) ?_
  refine P_det (by rfl) (Over_out (by rfl) (Over_out (by rfl) (Over_nil (y_load1 (by rfl) Try.isAgg22 (Mem.own1 0 (by rfl) (by rfl)))))) ?_
  refine P_new (by rfl) (by rfl) (Over_in (by rfl) (Over_out (by rfl) (Over_nil (by rintro _ _ ⟨b4, rfl, rfl⟩; exact (y_append0 (by rfl) (by rfl) Try.underlying22 infInt (by rfl) hx.src hlen (by omega) (by omega)))))) ?_
  refine P_det (by rfl) (Over_out (by rfl) (Over_out (by rfl) (Over_out (by rfl) (Over_nil (y_fieldAddr (by rfl) fa24_1))))) ?_
  refine P_det (by rfl) (Over_out (by rfl) (Over_out (by rfl) (Over_out (by rfl) (Over_nil (y_load1 (by rfl) Try.isAgg3 (Mem.own1 0 (by rfl) (by rfl))))))) ?_
  refine P_det (by rfl) (Over_out (by rfl) (Over_out (by rfl) (Over_out (by rfl) (Over_nil (y_fieldAddr (by rfl) fa24_2))))) ?_
  refine P_det (by rfl) (Over_out (by rfl) (Over_out (by rfl) (Over_out (by rfl) (Over_nil (y_load1 (by rfl) Try.isAgg3 (Mem.own1 0 (by rfl) (by rfl))))))) ?_
  refine P_ali [6] (aggP [.inr 6, .inl _, .inl _]) (by rfl) (by rfl) (by rfl) (aggP_congr (by rfl)) (Over_in (by rfl) (Over_out (by rfl) (Over_out (by rfl) (Over_nil (by rintro _ l6 ⟨ab6, cb6, rfl, hleb6, hrowb6⟩; exact (YD0_of (y_buildL bd24_0_1_2 (by rfl)))))))) ?_
  refine P_st 1000000 3 (by rfl) (by rfl) (by rfl) (by rfl) (by rfl) (Over_in (by rfl) (Over_in (by rfl) (Over_out (by rfl) (Over_nil (by rintro _ l6 ⟨ab8, cb8, rfl, hleb8, hrowb8⟩; rintro vb9 _ ⟨hvb9, rfl⟩; replace hvb9 : vb9 = .agg #[.slice _ _ _, .int .i64 _, .int .i64 _] := hvb9; subst hvb9; exact (st_preD (fun _ => by rfl) (by rfl) (by rfl) Try.sizeOf24 (by rfl) (by rfl) (by first | decide | exact Nat.le_of_ble_eq_true rfl | simp))))))) ?_
  refine PW_end (by rfl) ?_
  refine OverAll_cons (fun w11 l11 => ?_)
  refine OverAll_cons (fun w6 l6 => ?_)
  refine OverAll_cons (fun w3 l3 => ?_)
  refine OverAll_cons (fun w1000000 l1000000 => ?_)
  refine OverAll_nil ?_
  rintro ⟨⟨⟨⟨-, h11⟩, h6⟩, h3⟩, h1000000⟩
  obtain ⟨b3, rfl, rfl⟩ := h3
  obtain ⟨ab5, cb5, rfl, hleb5, hrowb5⟩ := h6
  obtain ⟨h11, rfl⟩ := h11
  replace h11 : w11 = .agg #[.slice _ _ _, .int .i64 _, .int .i64 _] := h11
  subst h11
  obtain rfl := h1000000
  refine Then_normal ?_
  refine W_ret ?_
  refine Fin_ret [_] l6 Try.results12 ⟨lvN (by rfl) Try.isAgg24 Try.sizeOf24 (Mem.own (us := [.slice _ _ _, .int .i64 _, .int .i64 _]) 0 (by rfl) (by rfl)) (by rfl), trivial⟩ (HSub.sub (by repeat (first | exact List.Sublist.refl _ | exact List.sublist_append_left _ _ | exact List.nil_sublist _ | apply List.Sublist.cons_cons | apply List.Sublist.cons | refine List.Sublist.trans ?_ (List.sublist_append_right _ _)))) ?_
  exact ⟨_, _, rfl, _, _, rfl, by assumption, by assumption⟩
theorem sameInts_any (a a' : Option Addr) (n n' cap cap' : Nat) (xs ys : List Int) (w : World) (hn : n ≤ 1000000) (hx : Ints w a n cap xs) (hy : Ints w a' n' cap' ys) :
    Ct Try.prog 21 #[.slice a n cap, .slice a' n' cap'] w fun v _ => v = .bool (decide (xs = ys)) := by
  have hF := wide_wide
  refine Ct_start (args := [_, _]) Try.func21 (by rfl) Try.ntmps21 (by rfl) ?_
  refine W_seq ?_
  refine W_region_lit (fun ds => ?_)
  refine WS_det hF (by rfl) (y_assign (c := .bool _) (by rfl)) ?_
  refine WS_nil ?_
  refine Then_normal ?_
  refine W_seq ?_
  refine W_seq ?_
  refine W_region_lit (fun ds => ?_)
  refine WS_det hF (by rfl) (y_move (c := .slice _ _ _) (by rfl)) ?_
  refine WS_det hF (by rfl) (y_len (by rfl) Try.runUnderlying22) ?_
  refine WS_det hF (by rfl) (y_move (c := .slice _ _ _) (by rfl)) ?_
  refine WS_det hF (by rfl) (y_len (by rfl) Try.runUnderlying22) ?_
  refine WS_det hF (by rfl) (y_neq (by rfl) (by rfl)) ?_
  refine WS_nil ?_
  refine Then_normal ?_
  refine W_cond (by rfl) (fun c1 => ?_) (fun c1 => ?_)
  ·
    try simp only [Bool.not_eq_true', Bool.not_eq_false', decide_eq_true_eq, decide_eq_false_iff_not, ne_eq, Classical.not_not, Int.not_lt, Int.not_le] at c1
    refine W_seq ?_
    refine W_region_lit (fun ds => ?_)
    refine WS_det hF (by rfl) (y_assign (c := .bool _) (by rfl)) ?_
    refine WS_nil ?_
    refine Then_normal ?_
    refine W_ret ?_
    refine Then_ret ?_
    refine Fin_ret [.bool _] [] Try.results21 ⟨by rfl, trivial⟩ HSub.nil ?_
    show Value.bool _ = _
    rw [decide_eq_false]
    intro h
    have h1 := hx.len
    have h2 := hy.len
    rw [h] at h1
    omega
  ·
    try simp only [Bool.not_eq_true', Bool.not_eq_false', decide_eq_true_eq, decide_eq_false_iff_not, ne_eq, Classical.not_not, Int.not_lt, Int.not_le] at c1
    obtain rfl : n = n' := by omega
    refine W_skip ?_
    refine Then_normal ?_
    refine W_seq ?_
    refine W_seq ?_
    refine W_region_lit (fun ds => ?_)
    refine WS_det hF (by rfl) (y_assign (c := .int .i64 _) (by rfl)) ?_
    refine WS_nil ?_
    refine Then_normal ?_
    refine W_block ?_
    refine W_loop (γ := Nat) (fun k => k ≤ n ∧ ∀ j, j < k → xs.getD j 0 = ys.getD j 0) (fun k => [(5, .int .i64 (k : Int)), (0, .slice a n cap), (1, .slice a' n cap')]) (fun _ => _) (fun k => n - k) (0) ⟨Nat.zero_le _, fun j h => absurd h (Nat.not_lt_zero _)⟩ (by repeat (first | exact trivial | refine ⟨by rfl, ?_⟩)) (List.Sublist.refl _) ?_
    rintro k e ⟨hk, hj⟩
    refine W_seq ?_
    refine W_seq ?_
    refine W_region_lit (fun ds => ?_)
    refine WS_det hF (by rfl) (y_move (c := .int .i64 _) (by rfl)) ?_
    refine WS_det hF (by rfl) (y_move (c := .slice _ _ _) (by rfl)) ?_
    refine WS_det hF (by rfl) (y_len (by rfl) Try.runUnderlying22) ?_
    refine WS_det hF (by rfl) (y_lss (by rfl) (by rfl)) ?_
    refine WS_nil ?_
    refine Then_normal ?_
    refine W_cond (by rfl) (fun c4 => ?_) (fun c4 => ?_)
    ·
      try simp only [Bool.not_eq_true', Bool.not_eq_false', decide_eq_true_eq, decide_eq_false_iff_not, ne_eq, Classical.not_not, Int.not_lt, Int.not_le] at c4
      obtain ⟨b, o, rfl, h1⟩ := hx.cell k (by omega)
      obtain ⟨b', o', rfl, h2⟩ := hy.cell k (by omega)
      refine W_skip ?_
      refine Then_normal ?_
      refine W_seq ?_
      refine W_block ?_
      refine W_seq ?_
      refine W_draw0 hF Trymixed [] (by decide +kernel) (fun ds => ?_)
      refine P_det (by rfl) (Over_nil (y_move (c := .slice _ _ _) (by rfl))) ?_
      refine P_det (by rfl) (Over_nil (y_move (c := .int .i64 _) (by rfl))) ?_
      refine P_det (by rfl) (Over_nil (y_index (k := k) (by rfl) (by rfl) (by first | rfl | omega) (by first | decide | omega) Try.runUnderlying22 Try.sizeOf3)) ?_
      refine P_det (by rfl) (Over_nil (y_load1 (by rfl) Try.isAgg3 (by first | exact Mem.old1 (by assumption) | exact Mem.oldAt1 (by assumption) (by rfl) | exact Mem.old (by assumption) | exact Mem.oldAtL1 (by assumption) (by rfl) (by rfl)))) ?_
      refine P_det (by rfl) (Over_nil (y_move (c := .slice _ _ _) (by rfl))) ?_
      refine P_det (by rfl) (Over_nil (y_move (c := .int .i64 _) (by rfl))) ?_
      refine P_det (by rfl) (Over_nil (y_index (k := k) (by rfl) (by rfl) (by first | rfl | omega) (by first | decide | omega) Try.runUnderlying22 Try.sizeOf3)) ?_
      refine P_det (by rfl) (Over_nil (y_load1 (by rfl) Try.isAgg3 (by first | exact Mem.old1 (by assumption) | exact Mem.oldAt1 (by assumption) (by rfl) | exact Mem.old (by assumption) | exact Mem.oldAtL1 (by assumption) (by rfl) (by rfl)))) ?_
      refine P_det (by rfl) (Over_nil (y_neq (by rfl) (by rfl))) ?_
      refine PW_end (by rfl) ?_
      refine OverAll_nil ?_
      rintro -
      refine Then_normal ?_
      refine W_cond (by rfl) (fun c6 => ?_) (fun c6 => ?_)
      ·
        try simp only [Bool.not_eq_true', Bool.not_eq_false', decide_eq_true_eq, decide_eq_false_iff_not, ne_eq, Classical.not_not, Int.not_lt, Int.not_le] at c6
        refine W_seq ?_
        refine W_region_lit (fun ds => ?_)
        refine WS_det hF (by rfl) (y_assign (c := .bool _) (by rfl)) ?_
        refine WS_nil ?_
        refine Then_normal ?_
        refine W_ret ?_
        refine InB_ret ?_
        refine Then_ret ?_
        refine Loop_ret ?_
        refine InB_ret ?_
        refine Then_ret ?_
        refine Fin_ret [.bool _] [] Try.results21 ⟨by rfl, trivial⟩ HSub.nil ?_
        show Value.bool _ = _
        rw [decide_eq_false]
        intro h
        exact c6 (by rw [h])
      ·
        try simp only [Bool.not_eq_true', Bool.not_eq_false', decide_eq_true_eq, decide_eq_false_iff_not, ne_eq, Classical.not_not, Int.not_lt, Int.not_le] at c6
        refine W_skip ?_
        refine InB_normal ?_
        refine Then_normal ?_
        refine W_region_lit (fun ds => ?_)
        refine WS_det hF (by rfl) (y_move (c := .int .i64 _) (by rfl)) ?_
        refine WS_det hF (by rfl) (y_add (by rfl) (by rfl) (by unfold I64; omega)) ?_
        refine WS_det hF (by rfl) (y_assign (c := .int .i64 _) (by rfl)) ?_
        refine WS_nil ?_
        exact Loop_next (k + 1) ⟨by omega, fun j h => by by_cases hjk : j = k; (subst hjk; exact c6); exact hj j (by omega)⟩ (by repeat (first | exact trivial | refine ⟨by rfl, ?_⟩)) (by repeat (first | exact List.Sublist.refl _ | exact List.nil_sublist _ | apply List.Sublist.cons_cons | apply List.Sublist.cons)) (by omega)
    ·
      try simp only [Bool.not_eq_true', Bool.not_eq_false', decide_eq_true_eq, decide_eq_false_iff_not, ne_eq, Classical.not_not, Int.not_lt, Int.not_le] at c4
      refine W_exit ?_
      refine Then_exit ?_
      refine Loop_exit ?_
      refine InB_same ?_
      refine Then_normal ?_
      refine W_seq ?_
      refine W_region_lit (fun ds => ?_)
      refine WS_det hF (by rfl) (y_assign (c := .bool _) (by rfl)) ?_
      refine WS_nil ?_
      refine Then_normal ?_
      refine W_ret ?_
      refine Fin_ret [.bool _] [] Try.results21 ⟨by rfl, trivial⟩ HSub.nil ?_
      show Value.bool _ = _
      rw [decide_eq_true]
      have hkn : k = n := by omega
      subst hkn
      refine List.ext_getElem (hx.len.trans hy.len.symm) fun j h1 h2 => ?_
      have := hj j (by rw [← hx.len]; exact h1)
      simpa [List.getD_eq_getElem?_getD, h1, h2] using this
end Go.Proofs.Ythkimgfgpphgnaa.T
