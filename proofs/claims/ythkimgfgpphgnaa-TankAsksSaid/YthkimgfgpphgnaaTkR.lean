/- The iterator of what a tank can hold. -/
import Derived.Test.YthkimgfgpphgnaaTkQ
namespace Go.Proofs.Ythkimgfgpphgnaa.T
open Go.RowKit Go.Proofs Go.Eng
set_option maxRecDepth 100000
set_option linter.unusedVariables false
set_option linter.unusedSimpArgs false



theorem Lg.Ok.hold_sm {l : Lg} (h : l.Ok) {k : Nat} (hk : k ≤ l.es.length) (hj : ∀ j, j < k → (l.hold j).empty = false) (he : (l.hold k).empty = false) : (l.hold k).Sm := by
  have h1 := h.hold_bd k hk hj
  have hf := h.tk.full_bd
  unfold Sn.empty at he
  simp only [decide_eq_false_iff_not, Int.not_lt] at he
  unfold Sn.Sm
  omega
def Lg.times (l : Lg) : Nat := l.steps 0 l.es.length
theorem Lg.steps_pos (l : Lg) (k m : Nat) : 1 ≤ l.steps k m := by
  cases m with
  | zero => exact Nat.le_refl _
  | succ m => unfold Lg.steps; split <;> omega

theorem Lg.steps_more (l : Lg) {k m : Nat} (he : (l.hold k).empty = false) : l.steps k (m + 1) = 1 + l.steps (k + 1) m := by
  rw [Lg.steps, he]; rfl
theorem Lg.steps_end (l : Lg) {k m : Nat} (he : (l.hold k).empty = true) : l.steps k m = 1 := by
  cases m with
  | zero => rfl
  | succ m => rw [Lg.steps, he]; rfl
theorem Sn.empty_cells (s : Sn) : s.empty = decide (s.lo > s.hi) := rfl

theorem holding_it (l : Lg) (w0 : World) (ds0 out0 : List Deferred) (bx bk g : Nat) (a : Option Addr) (cap : Nat) (ae : Option Addr) (cape : Nat) (hok : l.Ok) (hx : Ints w0 a l.tk.n cap l.tk.pints) (he : Ens w0 ae l.es.length cape l.es) :
    It ⟨Try.prog, w0, ds0, out0⟩ 140 [.pointer (some ⟨bx, 0, none⟩)] (fun k => [.int .i64 (k : Int), .agg (l.hold k).cells.toArray]) l.times
      [(bx, CB [.pointer (some ⟨bk, 0, none⟩)] 108), (bk, CB (bookCells g l a cap ae cape) 119), (g, CB (gaugeCells l.tk a cap) 98)] := by
  intro lp J Jx hY G hJ
  have h0 : 0 < l.times := l.steps_pos 0 _
  have hn := hok.n12
  have he0 : (l.hold 0).empty = false := by
    have := Sn.inB_iff.1 hok.start
    show decide (l.start.hi < l.start.lo) = false
    simp only [decide_eq_false_iff_not]; omega
  have hF := wide_wide
  refine Cs_start (args := [_, _]) Try.func140 (by rfl) Try.ntmps140 (by rfl) ?_
  refine W_seq ?_
  refine W_region_lit (fun ds => ?_)
  refine WS_det hF (by rfl) (y_load1 (by rfl) Try.isAgg108 (Mem.own1 0 (by rfl) (by rfl))) ?_
  refine WS_det hF (by rfl) (by first | exact y_nilCheck (by rfl) | exact y_nilCheckF (by rfl)) ?_
  refine WS_det hF (by rfl) (y_fieldAddr (by rfl) fa119_1) ?_
  refine WS_det hF (by rfl) (y_fieldAddr (by rfl) fa46_1) ?_
  refine WS_det hF (by rfl) (y_loadN (by rfl) Try.isAgg26 Try.sizeOf26 (Mem.own (us := [.int .i64 _, .int .i64 _]) 1 (by rfl) (by rfl)) (by rfl)) ?_
  refine WS_new hF (by rfl) (y_alloc Try.zeroValue26 (by rfl)) (fun b1 => ?_)
  refine WS_store hF (i := 0) (by rfl) (by rfl) Try.sizeOf26 (by rfl) (by rfl) (by rfl) (by first | decide | exact Nat.le_of_ble_eq_true rfl | simp) ?_
  refine WS_nil ?_
  refine Then_normal ?_
  refine W_seq ?_
  refine W_seq ?_
  refine W_region_lit (fun ds => ?_)
  refine WS_det hF (by rfl) (y_move (c := _) (by rfl)) ?_
  refine WS_det hF (by rfl) (y_loadN (by rfl) Try.isAgg26 Try.sizeOf26 (Mem.own (us := [.int .i64 _, .int .i64 _]) 0 (by rfl) (by rfl)) (by rfl)) ?_
  refine WS_yield (by rfl) (by rfl) (by rfl) (hY 0 h0 ds [_, _, _, _] G hJ) ?_
  rintro yb _ ⟨G1, rfl, hb⟩
  refine WS_det hF (by rfl) (y_not (by rfl)) ?_
  refine WS_nil ?_
  refine Then_normal ?_
  refine W_cond (by rfl) (fun c1 => ?_) (fun c1 => ?_)
  ·
    try simp only [Bool.not_eq_true', Bool.not_eq_false', decide_eq_true_eq, decide_eq_false_iff_not, ne_eq, Classical.not_not, Int.not_lt, Int.not_le] at c1
    obtain ⟨rfl, hj⟩ | ⟨_, hj⟩ := hb
    · cases c1
    refine W_ret ?_
    refine Then_ret ?_
    refine Fin_ret [] ((bx, _) :: (bk, _) :: (g, _) :: G1) Try.results140 trivial (HSub.sub (by repeat (first | exact List.Sublist.refl _ | exact List.nil_sublist _ | apply List.Sublist.cons_cons | apply List.Sublist.cons))) ?_
    exact ⟨G1, rfl, .inr ⟨0, h0, hj⟩⟩
  ·
    try simp only [Bool.not_eq_true', Bool.not_eq_false', decide_eq_true_eq, decide_eq_false_iff_not, ne_eq, Classical.not_not, Int.not_lt, Int.not_le] at c1
    obtain ⟨_, hj⟩ | ⟨rfl, hj⟩ := hb
    case inr => cases c1
    refine W_skip ?_
    refine Then_normal ?_
    refine W_seq ?_
    refine W_region_lit (fun ds => ?_)
    refine WS_det hF (by rfl) (y_load1 (by rfl) Try.isAgg108 (Mem.own1 1 (by rfl) (by rfl))) ?_
    refine WS_det hF (by rfl) (by first | exact y_nilCheck (by rfl) | exact y_nilCheckF (by rfl)) ?_
    refine WS_det hF (by rfl) (y_fieldAddr (by rfl) fa119_1) ?_
    refine WS_det hF (by rfl) (y_fieldAddr (by rfl) fa46_2) ?_
    refine WS_det hF (by rfl) (y_load1 (by rfl) Try.isAgg44 (Mem.own1 2 (by rfl) (by rfl))) ?_
    refine WS_det hF (by rfl) (y_len (by rfl) Try.runUnderlying44) ?_
    refine WS_det hF (by rfl) (y_move (c := .int .i64 _) (by rfl)) ?_
    refine WS_nil ?_
    refine Then_normal ?_
    refine W_block ?_
    refine W_loop (γ := Nat × List Blk) (fun p => p.1 ≤ l.es.length ∧ (∀ j, j ≤ p.1 → (l.hold j).empty = false) ∧ l.times = p.1 + l.steps p.1 (l.es.length - p.1) ∧ J (p.1 + 1) p.2) (fun p => [(0, .func (.yield lp) #[] #[]), (1, .pointer (some ⟨bx, 0, none⟩)), (3, .pointer (some ⟨b1, 0, none⟩)), (19, .int .i64 (l.es.length : Int)), (20, .int .i64 (p.1 : Int))]) (fun p => (b1, CB (l.hold p.1).cells 26) :: (bx, CB [.pointer (some ⟨bk, 0, none⟩)] 108) :: (bk, CB (bookCells g l a cap ae cape) 119) :: (g, CB (gaugeCells l.tk a cap) 98) :: p.2) (fun p => l.es.length - p.1) ((0, G1)) ⟨Nat.zero_le _, fun j hj => by obtain rfl : j = 0 := (by omega); exact he0, by show l.times = 0 + l.times; omega, hj⟩ (by repeat (first | exact trivial | refine ⟨by rfl, ?_⟩)) (List.Sublist.refl _) ?_
    rintro ⟨k, G2⟩ e ⟨hk, hne, htm, hj2⟩
    refine W_seq ?_
    refine W_region_lit (fun ds => ?_)
    refine WS_det hF (by rfl) (y_lss (by rfl) (by rfl)) ?_
    refine WS_nil ?_
    refine Then_normal ?_
    refine W_seq ?_
    refine W_cond (by rfl) (fun c3 => ?_) (fun c3 => ?_)
    ·
      try simp only [Bool.not_eq_true', Bool.not_eq_false', decide_eq_true_eq, decide_eq_false_iff_not, ne_eq, Classical.not_not, Int.not_lt, Int.not_le] at c3
      have hk1 : k + 1 < l.times := by
        rw [htm, show l.es.length - k = (l.es.length - (k + 1)) + 1 by omega, l.steps_more (hne k (Nat.le_refl _))]
        have := l.steps_pos (k + 1) (l.es.length - (k + 1))
        omega
      refine W_skip ?_
      refine Then_normal ?_
      refine W_seq ?_
      refine W_block ?_
      refine W_seq ?_
      refine W_region_lit (fun ds => ?_)
      refine WS_det hF (by rfl) (y_move (c := .int .i64 _) (by rfl)) ?_
      refine WS_det hF (by rfl) (y_assign (c := .int .i64 _) (by rfl)) ?_
      refine WS_nil ?_
      refine Then_normal ?_
      refine W_seq ?_
      refine W_region_lit (fun ds => ?_)
      refine WS_det hF (by rfl) (y_load1 (by rfl) Try.isAgg108 (Mem.own1 1 (by rfl) (by rfl))) ?_
      refine WS_det hF (by rfl) (y_move (c := .int .i64 _) (by rfl)) ?_
      refine WS_det hF (by rfl) (y_loadN (by rfl) Try.isAgg26 Try.sizeOf26 (Mem.own (us := [.int .i64 _, .int .i64 _]) 0 (by rfl) (by rfl)) (by rfl)) ?_
      refine WS_det hF (by rfl) (y_callL (by rfl) (by rfl) Try.call103 (fun w hw => after_any bk l k (l.hold k) w (Bk.own (by repeat (first | exact List.mem_cons_self | apply List.mem_cons_of_mem)) (by repeat (first | exact List.mem_cons_self | apply List.mem_cons_of_mem)) hok hx he w hw) (by omega) (hok.hold_sm (by omega) (fun j hj => hne j (by omega)) (hne k (Nat.le_refl _))))) ?_
      refine WS_store hF (i := 0) (by rfl) (by rfl) Try.sizeOf26 (by rfl) (by rfl) (by rfl) (by first | decide | exact Nat.le_of_ble_eq_true rfl | simp) ?_
      refine WS_nil ?_
      refine Then_normal ?_
      refine W_seq ?_
      refine W_region_lit (fun ds => ?_)
      refine WS_det hF (by rfl) (y_move (c := _) (by rfl)) ?_
      refine WS_det hF (by rfl) (y_move (c := .int .i64 _) (by rfl)) ?_
      refine WS_det hF (by rfl) (y_add (by rfl) (by rfl) (by unfold I64; omega)) ?_
      refine WS_det hF (by rfl) (y_loadN (by rfl) Try.isAgg26 Try.sizeOf26 (Mem.own (us := [.int .i64 _, .int .i64 _]) 0 (by rfl) (by rfl)) (by rfl)) ?_
      refine WS_yield (by rfl) (by rfl) (by rfl) (hY (k + 1) hk1 ds [_, _, _, _] G2 hj2) ?_
      rintro yb _ ⟨G3, rfl, hb⟩
      refine WS_det hF (by rfl) (y_not (by rfl)) ?_
      refine WS_det hF (by rfl) (y_move (c := .bool _) (by rfl)) ?_
      refine WS_split 33 (by rfl) (fun g6_6 => ?_) (fun g6_6 => ?_)
      ·
        try simp only [Bool.not_eq_true', Bool.not_eq_false', decide_eq_true_eq, decide_eq_false_iff_not, ne_eq, Classical.not_not, Int.not_lt, Int.not_le] at g6_6
        obtain ⟨rfl, hj3⟩ | ⟨_, hj3⟩ := hb
        · cases g6_6
        refine WS_no hF (by rfl) ?_
        refine WS_no hF (by rfl) ?_
        refine WS_det hF (by rfl) (by first | exact y_pick_t (c := .bool _) (by rfl) (by rfl) | exact y_pick_f (c := .bool _) (by rfl) (by rfl)) ?_
        refine WS_nil ?_
        refine Then_normal ?_
        refine W_cond (by rfl) (fun c6 => ?_) (fun c6 => ?_)
        ·
          try simp only [Bool.not_eq_true', Bool.not_eq_false', decide_eq_true_eq, decide_eq_false_iff_not, ne_eq, Classical.not_not, Int.not_lt, Int.not_le] at c6
          refine W_ret ?_
          refine InB_ret ?_
          refine Then_ret ?_
          refine Loop_ret ?_
          refine InB_ret ?_
          refine Fin_ret [] ((bx, _) :: (bk, _) :: (g, _) :: G3) Try.results140 trivial (HSub.sub (by repeat (first | exact List.Sublist.refl _ | exact List.nil_sublist _ | apply List.Sublist.cons_cons | apply List.Sublist.cons))) ?_
          exact ⟨G3, rfl, .inr ⟨k + 1, hk1, hj3⟩⟩
        · cases c6
      ·
        try simp only [Bool.not_eq_true', Bool.not_eq_false', decide_eq_true_eq, decide_eq_false_iff_not, ne_eq, Classical.not_not, Int.not_lt, Int.not_le] at g6_6
        obtain ⟨_, hj3⟩ | ⟨rfl, hj3⟩ := hb
        case inr => cases g6_6
        refine WS_det hF (by rfl) (y_loadN (by rfl) Try.isAgg26 Try.sizeOf26 (Mem.own (us := [.int .i64 _, .int .i64 _]) 0 (by rfl) (by rfl)) (by rfl)) ?_
        refine WS_det hF (by rfl) (y_callL (by rfl) (by rfl) Try.call74 (fun w hw => empty_any (l.hold (k + 1)).lo (l.hold (k + 1)).hi w)) ?_
        refine WS_det hF (by rfl) (by first | exact y_pick_t (c := .bool _) (by rfl) (by rfl) | exact y_pick_f (c := .bool _) (by rfl) (by rfl)) ?_
        refine WS_nil ?_
        refine Then_normal ?_
        refine W_cond (by rfl) (fun c6 => ?_) (fun c6 => ?_)
        ·
          try simp only [Bool.not_eq_true', Bool.not_eq_false', decide_eq_true_eq, decide_eq_false_iff_not, ne_eq, Classical.not_not, Int.not_lt, Int.not_le] at c6
          refine W_ret ?_
          refine InB_ret ?_
          refine Then_ret ?_
          refine Loop_ret ?_
          refine InB_ret ?_
          refine Fin_ret [] ((bx, _) :: (bk, _) :: (g, _) :: G3) Try.results140 trivial (HSub.sub (by repeat (first | exact List.Sublist.refl _ | exact List.nil_sublist _ | apply List.Sublist.cons_cons | apply List.Sublist.cons))) ?_
          refine ⟨G3, rfl, .inl ?_⟩
          rw [htm, show l.es.length - k = (l.es.length - (k + 1)) + 1 by omega, l.steps_more (hne k (Nat.le_refl _)), l.steps_end (by unfold Sn.empty; simp only [decide_eq_true_eq]; omega)]
          rw [show k + (1 + 1) = k + 1 + 1 by omega]
          exact hj3
        ·
          try simp only [Bool.not_eq_true', Bool.not_eq_false', decide_eq_true_eq, decide_eq_false_iff_not, ne_eq, Classical.not_not, Int.not_lt, Int.not_le] at c6
          have hne1 : ∀ j, j ≤ k + 1 → (l.hold j).empty = false := fun j hj => by
            obtain hj | rfl : j ≤ k ∨ j = k + 1 := by omega
            · exact hne j hj
            · unfold Sn.empty; simp only [decide_eq_false_iff_not]; omega
          have htm1 : l.times = (k + 1) + l.steps (k + 1) (l.es.length - (k + 1)) := by
            rw [htm, show l.es.length - k = (l.es.length - (k + 1)) + 1 by omega, l.steps_more (hne k (Nat.le_refl _))]; omega
          refine W_skip ?_
          refine InB_normal ?_
          refine Then_normal ?_
          refine W_region_lit (fun ds => ?_)
          refine WS_det hF (by rfl) (y_add (by rfl) (by rfl) (by unfold I64; omega)) ?_
          refine WS_det hF (by rfl) (y_move (c := .int .i64 _) (by rfl)) ?_
          refine WS_nil ?_
          exact Loop_next (k + 1, G3) ⟨by omega, hne1, htm1, hj3⟩ (by repeat (first | exact trivial | refine ⟨by rfl, ?_⟩)) (by repeat (first | exact List.Sublist.refl _ | exact List.nil_sublist _ | apply List.Sublist.cons_cons | apply List.Sublist.cons)) (by simp only; omega)
    ·
      try simp only [Bool.not_eq_true', Bool.not_eq_false', decide_eq_true_eq, decide_eq_false_iff_not, ne_eq, Classical.not_not, Int.not_lt, Int.not_le] at c3
      refine W_exit ?_
      refine Then_exit ?_
      refine Loop_exit ?_
      refine InB_same ?_
      refine Fin_norm [] ((bx, _) :: (bk, _) :: (g, _) :: G2) Try.results140 trivial (HSub.sub (by repeat (first | exact List.Sublist.refl _ | exact List.nil_sublist _ | apply List.Sublist.cons_cons | apply List.Sublist.cons))) ?_
      refine ⟨G2, rfl, .inl ?_⟩
      obtain rfl : k = l.es.length := by omega
      rw [htm, Nat.sub_self]; exact hj2
end Go.Proofs.Ythkimgfgpphgnaa.T
