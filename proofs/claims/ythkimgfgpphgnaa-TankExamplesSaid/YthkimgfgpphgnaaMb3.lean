/- What leaks altogether: the closure that moves all sums. -/
import Derived.Test.YthkimgfgpphgnaaMb2
import Derived.Laws.Bits64b
set_option linter.unusedVariables false
set_option linter.unusedSimpArgs false
/- What is known of a log: the walk of asked. -/
namespace Go.Proofs.Ythkimgfgpphgnaa.T
open Go.RowKit Go.Proofs Go.Eng
set_option maxRecDepth 100000
set_option linter.unusedVariables false
set_option linter.unusedSimpArgs false

theorem bd127_0 {x0 : Option Addr} : ∀ w, (Instr.build 127 #[(0, .pointer x0)]).run Try.prog w = .ok (.agg #[.pointer x0, .slice none 0 0, .slice none 0 0, .slice none 0 0]) w := fun w => by kernel_rfl
theorem bs90_1_0 {x0_0 : Int} {x0_1 : Int} : ∀ w, (Instr.buildSlice 90 1 #[(0, .agg #[.int .i64 x0_0, .int .i64 x0_1])]).run Try.prog w = .ok (.slice (some ⟨w.heap.size, 0, none⟩) 1 1) (w.alloc (CB [.int .i64 x0_0, .int .i64 x0_1] 26)) := fun w => by kernel_rfl
theorem fa127_1 : ∀ b o w, (Instr.fieldAt 127 (.pointer (some ⟨b, o, none⟩)) 1).run Try.prog w = .ok (.pointer (some ⟨b, o + 1, none⟩)) w := fun b o w => by kernel_rfl
theorem fa127_2 : ∀ b o w, (Instr.fieldAt 127 (.pointer (some ⟨b, o, none⟩)) 2).run Try.prog w = .ok (.pointer (some ⟨b, o + 2, none⟩)) w := fun b o w => by kernel_rfl
theorem fa127_3 : ∀ b o w, (Instr.fieldAt 127 (.pointer (some ⟨b, o, none⟩)) 3).run Try.prog w = .ok (.pointer (some ⟨b, o + 3, none⟩)) w := fun b o w => by kernel_rfl

def Lg.holdsB (l : Lg) : Bool := (List.range (l.es.length + 1)).all fun k => !(l.hold k).empty
theorem Lg.holdsB_iff (l : Lg) : l.holdsB = true ↔ ∀ k, k ≤ l.es.length → (l.hold k).empty = false := by
  unfold Lg.holdsB
  simp only [List.all_eq_true, List.mem_range, Bool.not_eq_true']
  constructor
  · intro h k hk; exact h k (by omega)
  · intro h k hk; exact h k (by omega)
def Lg.aerr (l : Lg) : Int := if l.err = 0 then if l.holdsB then 0 else 8 else l.err
theorem Lg.steps_le (l : Lg) : ∀ m k, l.steps k m ≤ m + 1
  | 0, _ => Nat.le_refl _
  | m + 1, k => by
    have := Lg.steps_le l m (k + 1)
    unfold Lg.steps
    split <;> omega
theorem Lg.steps_full (l : Lg) : ∀ m k, (∀ j, k ≤ j → j < k + l.steps k m → (l.hold j).empty = false) → l.steps k m = m + 1
  | 0, _, _ => rfl
  | m + 1, k, h => by
    have hk := h k (Nat.le_refl _) (by have := l.steps_pos k (m + 1); omega)
    rw [l.steps_more hk] at h ⊢
    rw [Lg.steps_full l m (k + 1) fun j h1 h2 => h j (by omega) (by omega)]
    omega
theorem Lg.times_le (l : Lg) : l.times ≤ l.es.length + 1 := l.steps_le _ _
theorem Lg.times_full (l : Lg) (h : ∀ j, j < l.times → (l.hold j).empty = false) : l.times = l.es.length + 1 := l.steps_full _ _ fun j _ h2 => h j (by unfold Lg.times; omega)
def knownCells (bk fb : Nat) (capf : Nat) (ab bb n : Nat) : List Value := [.pointer (some ⟨bk, 0, none⟩), .slice (some ⟨fb, 0, none⟩) (n + 1) capf, .slice (some ⟨ab, 0, none⟩) (n + 1) (n + 1), .slice (some ⟨bb, 0, none⟩) n n]
/-- The blocks of what is known. -/
def KB (l : Lg) (a : Option Addr) (cap : Nat) (ae : Option Addr) (cape : Nat) (kb : Nat) (Hn : List Blk) : Prop :=
  ∃ bk g fb capf junk ab bb, Hn = [(kb, CB (knownCells bk fb capf ab bb l.es.length) 127), (fb, CB (snRow l.hold (l.es.length + 1) ++ junk) 26), (ab, CB (snRow l.aft (l.es.length + 1)) 26), (bb, CB (snRow l.ahd l.es.length) 26), (bk, CB (bookCells g l a cap ae cape) 119), (g, CB (gaugeCells l.tk a cap) 98)]
def AskV (l : Lg) (a : Option Addr) (cap : Nat) (ae : Option Addr) (cape : Nat) (v : Value) (Hn : List Blk) : Prop :=
  ∃ p, v = .tuple #[.pointer p, .int .i64 l.aerr] ∧ (l.aerr = 0 → ∃ kb, p = some ⟨kb, 0, none⟩ ∧ KB l a cap ae cape kb Hn) ∧ (l.aerr ≠ 0 → Hn = [])
theorem Tk.entsB_get (t : Tk) : ∀ (es : List En) (day : Int), t.entsB day es = true → ∀ k, k < es.length → t.entB (if k = 0 then day else (es.getD (k - 1) En.z).day) (es.getD k En.z) = true
  | [], _, _, k, hk => by simp at hk
  | x :: es, day, h, k, hk => by
    unfold Tk.entsB at h
    rw [Bool.and_eq_true] at h
    cases k with
    | zero => simpa using h.1
    | succ k =>
      have := Tk.entsB_get t es x.day h.2 k (by simpa using hk)
      cases k with
      | zero => simpa using this
      | succ k => simpa using this
theorem Lg.ok_of (l : Lg) (h : l.err = 0) : l.Ok := by
  unfold Lg.err at h
  split at h
  · rename_i ht
    split at h
    · rename_i hl
      unfold Lg.okB at hl
      simp only [Bool.and_eq_true, decide_eq_true_eq] at hl
      obtain ⟨⟨h1, h2⟩, h3⟩ := hl
      have hg := l.tk.entsB_get l.es 0 h3
      have hd : ∀ k, k < l.es.length → inB (l.dayAt k) 3652 [(l.e k).day] = true ∧ inB 1 3 [(l.e k).kind] = true ∧ (l.e k).size.inB (l.tk.most (l.e k).kind) = true := fun k hk => by
        have := hg k hk
        unfold Tk.entB at this
        simp only [Bool.and_eq_true] at this
        exact ⟨this.1.1, this.1.2, this.2⟩
      have hday : ∀ k, k < l.es.length → 0 ≤ l.dayAt k ∧ l.dayAt k ≤ (l.e k).day ∧ (l.e k).day ≤ 3652 := by
        intro k
        induction k with
        | zero => intro hk; have := inB1.1 (hd 0 hk).1; exact ⟨Int.le_refl _, this⟩
        | succ k ih =>
          intro hk
          have h4 := inB1.1 (hd (k + 1) hk).1
          have h5 := ih (by omega)
          refine ⟨?_, h4⟩
          show 0 ≤ (l.e (k + 1 - 1)).day
          rw [Nat.add_sub_cancel]; omega
      refine ⟨Tk.ok_iff.1 ht, h1, h2, fun k hk => ?_, fun k hk => ?_, fun k hk => inB1.1 (hd k hk).2.1, fun k hk => (hd k hk).2.2⟩
      · have := hday k hk; omega
      · have := (hday (k + 1) hk).2.1
        exact this
    · cases h
  · cases h

theorem asked_any (l : Lg) (a : Option Addr) (cap : Nat) (ae : Option Addr) (cape : Nat) (w : World) (hn : l.tk.n ≤ 1000000) (hx : Ints w a l.tk.n cap l.tk.pints) (he : Ens w ae l.es.length cape l.es) :
    Ct Try.prog 88 #[.agg #[.slice a l.tk.n cap, .int .i64 l.tk.leak, .int .i64 l.tk.foot, .int .i64 l.start.lo, .int .i64 l.start.hi, .slice ae l.es.length cape]] w (AskV l a cap ae cape) := by
  have hF := wide_wide
  refine Ct_start (args := [_]) Try.func88 (by rfl) Try.ntmps88 (by rfl) ?_
  refine W_seq ?_
  refine W_region_lit (fun ds => ?_)
  refine WS_new hF (by rfl) (y_box (by rfl)) (fun b1 => ?_)
  refine WS_new hF (by rfl) (y_alloc Try.zeroValue123 (by rfl)) (fun b2 => ?_)
  refine WS_new hF (by rfl) (y_alloc Try.zeroValue31 (by rfl)) (fun b3 => ?_)
  refine WS_nil ?_
  refine Then_normal ?_
  refine W_seq ?_
  refine W_region_lit (fun ds => ?_)
  refine WS_det hF (by rfl) (y_loadN (by rfl) Try.isAgg46 Try.sizeOf46 (Mem.own (us := [.slice _ _ _, .int .i64 _, .int .i64 _, .int .i64 _, .int .i64 _, .slice _ _ _]) 2 (by rfl) (by rfl)) (by rfl)) ?_
  refine WS_gen hF (by rfl) (y_callL (by rfl) (by rfl) Try.call77 (fun w hw => opened_any l a cap ae cape w hn (hx.st w hw) (he.st w hw))) ?_
  rintro _ Hg ⟨p, rfl, hg1, hg2⟩
  refine WS_det hF (by rfl) (y_move (c := .tuple _) (by rfl)) ?_
  refine WS_det hF (by rfl) (y_extract (c := .pointer _) (by rfl) (by rfl)) ?_
  refine WS_det hF (by rfl) (y_extract (c := .int .i64 _) (by rfl) (by rfl)) ?_
  refine WS_det hF (by rfl) (y_assign (c := .pointer _) (by rfl)) ?_
  refine WS_det hF (by rfl) (y_assign (c := .int .i64 _) (by rfl)) ?_
  refine WS_nil ?_
  refine Then_normal ?_
  refine W_seq ?_
  refine W_seq ?_
  refine W_region_lit (fun ds => ?_)
  refine WS_det hF (by rfl) (y_move (c := .int .i64 _) (by rfl)) ?_
  refine WS_det hF (by rfl) (y_neq (by rfl) (by rfl)) ?_
  refine WS_nil ?_
  refine Then_normal ?_
  refine W_cond (by rfl) (fun c2 => ?_) (fun c2 => ?_)
  ·
    try simp only [Bool.not_eq_true', Bool.not_eq_false', decide_eq_true_eq, decide_eq_false_iff_not, ne_eq, Classical.not_not, Int.not_lt, Int.not_le] at c2
    obtain rfl := hg2 c2
    refine W_seq ?_
    refine W_region_lit (fun ds => ?_)
    refine WS_det hF (by rfl) (y_move (c := .int .i64 _) (by rfl)) ?_
    refine WS_store hF (i := 1) (by rfl) (by rfl) Try.sizeOf123 (by rfl) (by rfl) (by rfl) (by first | decide | exact Nat.le_of_ble_eq_true rfl | simp) ?_
    refine WS_store hF (i := 0) (by rfl) (by rfl) Try.sizeOf31 (by rfl) (by rfl) (by rfl) (by first | decide | exact Nat.le_of_ble_eq_true rfl | simp) ?_
    refine WS_nil ?_
    refine Then_normal ?_
    refine W_ret ?_
    refine Then_ret ?_
    refine Fin_ret [_, _] [] Try.results88 ⟨lv1 (by rfl) Try.isAgg123 (Mem.own1 1 (by rfl) (by rfl)), lv1 (by rfl) Try.isAgg31 (Mem.own1 0 (by rfl) (by rfl)), trivial⟩ HSub.nil ?_
    have ha : l.aerr = l.err := if_neg c2
    refine ⟨none, by rw [ha]; rfl, fun h => absurd (ha ▸ h) c2, fun _ => rfl⟩
  ·
    try simp only [Bool.not_eq_true', Bool.not_eq_false', decide_eq_true_eq, decide_eq_false_iff_not, ne_eq, Classical.not_not, Int.not_lt, Int.not_le] at c2
    obtain ⟨g, bk, rfl, rfl⟩ := hg1 c2
    have hok := l.ok_of c2
    have hn12 := hok.n12
    have htl := l.times_le
    refine W_skip ?_
    refine Then_normal ?_
    refine W_seq ?_
    refine W_region_lit (fun ds => ?_)
    refine WS_det hF (by rfl) (y_move (c := .pointer _) (by rfl)) ?_
    refine WS_det hF (by rfl) (y_buildL bd127_0 (by rfl)) ?_
    refine WS_new hF (by rfl) (y_box (by rfl)) (fun b4 => ?_)
    refine WS_new hF (by rfl) (y_alloc Try.zeroValue123 (by rfl)) (fun b5 => ?_)
    refine WS_store hF (i := 0) (by rfl) (by rfl) Try.sizeOf123 (by rfl) (by rfl) (by rfl) (by first | decide | exact Nat.le_of_ble_eq_true rfl | simp) ?_
    refine WS_nil ?_
    refine Then_normal ?_
    refine W_seq ?_
    refine W_seq ?_
    refine W_region_lit (fun ds => ?_)
    refine WS_det hF (by rfl) (y_move (c := .pointer _) (by rfl)) ?_
    refine WS_gen hF (by rfl) (y_callL (by rfl) (by rfl) Try.call125 (fun w hw => holding_any bk w)) ?_
    rintro _ _ ⟨bx, rfl, rfl⟩
    refine WS_nil ?_
    refine Then_normal ?_
    refine W_block ?_
    refine W_range hF (by rfl) (encs := (fun k => [.int .i64 (k : Int), .agg (l.hold k).cells.toArray])) (N := l.times) (H0 := [(bx, CB [.pointer (some ⟨bk, 0, none⟩)] 108), (bk, CB (bookCells g l a cap ae cape) 119), (g, CB (gaugeCells l.tk a cap) 98)]) (G0 := [_, _, _, _]) (fun k G => ∃ fa fcap Hf, G = (b4, CB [.pointer (some ⟨bk, 0, none⟩), .slice fa k fcap, .slice none 0 0, .slice none 0 0] 127) :: (b5, CB [.pointer (some ⟨b4, 0, none⟩)] 123) :: (b2, CB [.pointer none] 123) :: (b3, CB [.int .i64 0] 31) :: Hf ∧ Row 26 2 fa k fcap (snRow l.hold k) Hf ∧ ∀ j, j < k → (l.hold j).empty = false) (fun c k G => c = .ret ∧ (l.hold (k - 1)).empty = true ∧ G = [(b2, CB [.pointer none] 123), (b3, CB [.int .i64 8] 31)]) (by rfl) Try.call140 (by rfl) (fun _ => rfl) (fun ds => holding_it l _ _ _ bx bk g a cap ae cape hok hx he) (⟨none, 0, [], rfl, Row.nil 26 2, fun j hj => by omega⟩) ((SubP.hsub (SubP.pick 0 (by rfl) (SubP.pick 2 (by rfl) (SubP.pick 2 (by rfl) (SubP.pick 1 (by rfl) (SubP.pick 0 (by rfl) (SubP.pick 1 (by rfl) (SubP.pick 0 (by rfl) (SubP.nil)))))))))) ?_ ?_ ?_
    · rintro k hk G hj out lpr R R'
      have hF := wide_inRound wide_wide lpr
      obtain ⟨fa, fcap, Hf, rfl, hrow, hne⟩ := hj
      refine W_region_lit (fun ds => ?_)
      refine WS_new hF (by rfl) (y_alloc Try.zeroValue26 (by rfl)) (fun b6 => ?_)
      refine WS_store hF (i := 0) (by rfl) (by rfl) Try.sizeOf26 (by rfl) (by rfl) (by rfl) (by first | decide | exact Nat.le_of_ble_eq_true rfl | simp) ?_
      refine WS_nil ?_
      refine Then_normal ?_
      refine ⟨(_ :: _ :: _ :: _ :: _ :: Hf), rfl, ?_⟩
      refine W_block ?_
      refine W_seq ?_
      apply W_drawZ 7 0 hF Trymixed [] [] [] (by rfl) (by decide +kernel) (by decide) (by rfl) (by rfl) (by rfl) (by rfl) (by rfl) Try.isAgg123 HSub.refl
      intro ds
      refine P_det (by rfl) (Over_nil (y_load1 (by rfl) Try.isAgg123 (Mem.own1 2 (by rfl) (by rfl)))) ?_
      refine P_det (by rfl) (Over_nil (y_load1 (by rfl) Try.isAgg123 (Mem.own1 2 (by rfl) (by rfl)))) ?_
      refine P_det (by rfl) (Over_nil (by first | exact y_nilCheck (by rfl) | exact y_nilCheckF (by rfl))) ?_
      refine P_det (by rfl) (Over_nil (y_fieldAddr (by rfl) fa127_1)) ?_
      refine P_det (by rfl) (Over_nil (y_load1 (by rfl) Try.isAgg90 (Mem.own1 1 (by rfl) (by rfl)))) ?_
      refine P_det (by rfl) (Over_nil (y_loadN (by rfl) Try.isAgg26 Try.sizeOf26 (Mem.own (us := [.int .i64 _, .int .i64 _]) 0 (by rfl) (by rfl)) (by rfl))) ?_
      refine P_new (by rfl) (by rfl) (Over_nil (y_buildSliceL bs90_1_0 (by rfl))) ?_
      refine PW_end (by rfl) ?_
      refine OverAll_cons (fun w30 l30 => ?_)
      refine OverAll_nil ?_
      rintro ⟨-, h30⟩
      obtain ⟨b7, rfl, rfl⟩ := h30
      refine ⟨?_, fun xz => ?_⟩
      ·
        refine WS_append hF (H1 := [_, _, _, _, _, _]) (by rfl) (by rfl) (by rfl) Try.underlying90 infSpan (by rfl) (by rfl) hrow (.inr ⟨_, _, rfl, Mem.own (us := [.int _ _, .int _ _]) 0 (by rfl) (by rfl)⟩) (by rfl) (by rfl) (by omega) (by omega) ?_
        intro fa2 fcap2 Hf2 hrow2
        refine WS_det hF (by rfl) (by first | exact y_nilCheck (by rfl) | exact y_nilCheckF (by rfl)) ?_
        refine WS_det hF (by rfl) (y_fieldAddr (by rfl) fa127_1) ?_
        refine WS_store hF (i := 2) (by rfl) (by rfl) Try.sizeOf90 (by rfl) (by rfl) (by rfl) (by first | decide | exact Nat.le_of_ble_eq_true rfl | simp) ?_
        refine WS_nil ?_
        refine Then_normal ?_
        refine W_seq ?_
        refine W_region_lit (fun ds => ?_)
        refine WS_det hF (by rfl) (y_loadN (by rfl) Try.isAgg26 Try.sizeOf26 (Mem.own (us := [.int .i64 _, .int .i64 _]) 1 (by rfl) (by rfl)) (by rfl)) ?_
        refine WS_det hF (by rfl) (y_callL (by rfl) (by rfl) Try.call74 (fun w hw => empty_any (l.hold k).lo (l.hold k).hi w)) ?_
        refine WS_nil ?_
        refine Then_normal ?_
        refine W_cond (by rfl) (fun c8 => ?_) (fun c8 => ?_)
        ·
          try simp only [Bool.not_eq_true', Bool.not_eq_false', decide_eq_true_eq, decide_eq_false_iff_not, ne_eq, Classical.not_not, Int.not_lt, Int.not_le] at c8
          refine W_seq ?_
          refine W_region_lit (fun ds => ?_)
          refine WS_store hF (i := 4) (by rfl) (by rfl) Try.sizeOf123 (by rfl) (by rfl) (by rfl) (by first | decide | exact Nat.le_of_ble_eq_true rfl | simp) ?_
          refine WS_store hF (i := 5) (by rfl) (by rfl) Try.sizeOf31 (by rfl) (by rfl) (by rfl) (by first | decide | exact Nat.le_of_ble_eq_true rfl | simp) ?_
          refine WS_nil ?_
          refine Then_normal ?_
          refine W_ret ?_
          refine InB_ret ?_
          refine ⟨[_, _], (SubP.hsub (SubP.pick 4 (by rfl) (SubP.pick 4 (by rfl) (by exact SubP.drop (SubP.drop (SubP.drop (SubP.drop (SubP.dropL (X := Hf2) (SubP.refl))))))))), rfl, ?_, rfl⟩
          show (l.hold k).empty = true
          unfold Sn.empty; simp only [decide_eq_true_eq]; omega
        ·
          try simp only [Bool.not_eq_true', Bool.not_eq_false', decide_eq_true_eq, decide_eq_false_iff_not, ne_eq, Classical.not_not, Int.not_lt, Int.not_le] at c8
          refine W_skip ?_
          refine InB_normal ?_
          refine ⟨_ :: _ :: _ :: _ :: Hf2, (SubP.hsub (SubP.pick 2 (by rfl) (SubP.pick 2 (by rfl) (SubP.pick 2 (by rfl) (SubP.pick 2 (by rfl) (by exact SubP.drop (SubP.drop (SubP.refl)))))))), fa2, fcap2, Hf2, rfl, ?_, ?_⟩
          · rw [snRow, rowOf_succ]; exact hrow2
          · intro j hj
            obtain hj | rfl : j < k ∨ j = k := by omega
            · exact hne j hj
            · unfold Sn.empty; simp only [decide_eq_false_iff_not]; omega
      ·
        refine WS_append hF (H1 := [_, _, _, _, _, _]) (by rfl) (by rfl) (by rfl) Try.underlying90 infSpan (by rfl) (by rfl) hrow (.inr ⟨_, _, rfl, Mem.own (us := [.int _ _, .int _ _]) 0 (by rfl) (by rfl)⟩) (by rfl) (by rfl) (by omega) (by omega) ?_
        intro fa2 fcap2 Hf2 hrow2
        refine WS_det hF (by rfl) (y_load1 (by rfl) Try.isAgg123 (Mem.own1 3 (by rfl) (by rfl))) ?_
        refine WS_det hF (by rfl) (by first | exact y_nilCheck (by rfl) | exact y_nilCheckF (by rfl)) ?_
        refine WS_det hF (by rfl) (y_fieldAddr (by rfl) fa127_1) ?_
        refine WS_store hF (i := 2) (by rfl) (by rfl) Try.sizeOf90 (by rfl) (by rfl) (by rfl) (by first | decide | exact Nat.le_of_ble_eq_true rfl | simp) ?_
        refine WS_nil ?_
        refine Then_normal ?_
        refine W_seq ?_
        refine W_region_lit (fun ds => ?_)
        refine WS_det hF (by rfl) (y_loadN (by rfl) Try.isAgg26 Try.sizeOf26 (Mem.own (us := [.int .i64 _, .int .i64 _]) 1 (by rfl) (by rfl)) (by rfl)) ?_
        refine WS_det hF (by rfl) (y_callL (by rfl) (by rfl) Try.call74 (fun w hw => empty_any (l.hold k).lo (l.hold k).hi w)) ?_
        refine WS_nil ?_
        refine Then_normal ?_
        refine W_cond (by rfl) (fun c8 => ?_) (fun c8 => ?_)
        ·
          try simp only [Bool.not_eq_true', Bool.not_eq_false', decide_eq_true_eq, decide_eq_false_iff_not, ne_eq, Classical.not_not, Int.not_lt, Int.not_le] at c8
          refine W_seq ?_
          refine W_region_lit (fun ds => ?_)
          refine WS_store hF (i := 4) (by rfl) (by rfl) Try.sizeOf123 (by rfl) (by rfl) (by rfl) (by first | decide | exact Nat.le_of_ble_eq_true rfl | simp) ?_
          refine WS_store hF (i := 5) (by rfl) (by rfl) Try.sizeOf31 (by rfl) (by rfl) (by rfl) (by first | decide | exact Nat.le_of_ble_eq_true rfl | simp) ?_
          refine WS_nil ?_
          refine Then_normal ?_
          refine W_ret ?_
          refine InB_ret ?_
          refine ⟨[_, _], (SubP.hsub (SubP.pick 4 (by rfl) (SubP.pick 4 (by rfl) (by exact SubP.drop (SubP.drop (SubP.drop (SubP.drop (SubP.dropL (X := Hf2) (SubP.refl))))))))), rfl, ?_, rfl⟩
          show (l.hold k).empty = true
          unfold Sn.empty; simp only [decide_eq_true_eq]; omega
        ·
          try simp only [Bool.not_eq_true', Bool.not_eq_false', decide_eq_true_eq, decide_eq_false_iff_not, ne_eq, Classical.not_not, Int.not_lt, Int.not_le] at c8
          refine W_skip ?_
          refine InB_normal ?_
          refine ⟨_ :: _ :: _ :: _ :: Hf2, (SubP.hsub (SubP.pick 2 (by rfl) (SubP.pick 2 (by rfl) (SubP.pick 2 (by rfl) (SubP.pick 2 (by rfl) (by exact SubP.drop (SubP.drop (SubP.refl)))))))), fa2, fcap2, Hf2, rfl, ?_, ?_⟩
          · rw [snRow, rowOf_succ]; exact hrow2
          · intro j hj
            obtain hj | rfl : j < k ∨ j = k := by omega
            · exact hne j hj
            · unfold Sn.empty; simp only [decide_eq_false_iff_not]; omega
    · rintro G hj
      obtain ⟨fa, fcap, Hf, rfl, hrow, hne⟩ := hj
      have htf := l.times_full hne
      rw [htf] at hrow hne
      rw [htf]
      obtain ⟨_, h0, _⟩ | ⟨fb, junk, rfl, rfl, hl1, hl2, hle⟩ := hrow
      · omega
      refine InB_normal ?_
      refine Then_normal ?_
      refine W_seq ?_
      apply W_drawMT 10 hF Trymixed [Pre.dep 1000000 b4 _ 41 _ _] [1000000] [1000000] (by rfl) (by decide +kernel) (by decide) (fun _ _ h => h.perm (perm_erase (i := 3) (by rfl)).symm)
      intro ds
      refine P_det (by rfl) (Over_out (by rfl) (Over_nil (y_load1 (by rfl) Try.isAgg123 (Mem.own1 3 (by rfl) (by rfl))))) ?_
      refine P_det (by rfl) (Over_out (by rfl) (Over_nil (y_load1 (by rfl) Try.isAgg123 (Mem.own1 3 (by rfl) (by rfl))))) ?_
      refine P_det (by rfl) (Over_out (by rfl) (Over_nil (y_move (c := .pointer _) (by rfl)))) ?_
      refine P_new (by rfl) (by rfl) (Over_out (by rfl) (Over_nil (y_callL (by rfl) (by rfl) Try.call128 (fun w hw => back_any bk l w (Bk.own (by repeat (first | exact List.mem_cons_self | apply List.mem_cons_of_mem)) (by repeat (first | exact List.mem_cons_self | apply List.mem_cons_of_mem)) hok hx he w hw))))) ?_
      refine P_ali [40] (fun e => e 40) (by rfl) (by rfl) (by rfl) (fun _ _ h => h 40 (List.mem_singleton.2 rfl)) (Over_in (by rfl) (Over_out (by rfl) (Over_nil (by intro vb9 l40 hb9; obtain ⟨ab, bb, rfl, rfl⟩ := hb9; exact (YD0_of (y_move (c := .tuple _) (by rfl))))))) ?_
      refine P_ali [36] (fun e => tupAt (e 36) 0) (by rfl) (by rfl) (by rfl) (fun _ _ h => congrArg (tupAt · 0) (h 36 (List.mem_singleton.2 rfl))) (Over_in (by rfl) (Over_in (by rfl) (Over_out (by rfl) (Over_nil (by intro vb11 l40 hb11; obtain ⟨ab, bb, rfl, rfl⟩ := hb11; rintro vb12 _ ⟨hvb12, rfl⟩; replace hvb12 : vb12 = .tuple _ := hvb12; subst hvb12; exact (YD0_of (y_extract (c := .slice _ _ _) (by rfl) (by rfl)))))))) ?_
      refine P_ali [36] (fun e => tupAt (e 36) 1) (by rfl) (by rfl) (by rfl) (fun _ _ h => congrArg (tupAt · 1) (h 36 (List.mem_singleton.2 rfl))) (Over_out (by rfl) (Over_in (by rfl) (Over_in (by rfl) (Over_out (by rfl) (Over_nil (by intro vb14 l40 hb14; obtain ⟨ab, bb, rfl, rfl⟩ := hb14; rintro vb15 _ ⟨hvb15, rfl⟩; replace hvb15 : vb15 = .tuple _ := hvb15; subst hvb15; exact (YD0_of (y_extract (c := .slice _ _ _) (by rfl) (by rfl))))))))) ?_
      refine P_det (by rfl) (Over_out (by rfl) (Over_out (by rfl) (Over_out (by rfl) (Over_out (by rfl) (Over_out (by rfl) (Over_nil (by first | exact y_nilCheck (by rfl) | exact y_nilCheckF (by rfl)))))))) ?_
      refine P_det (by rfl) (Over_out (by rfl) (Over_out (by rfl) (Over_out (by rfl) (Over_out (by rfl) (Over_out (by rfl) (Over_nil (y_fieldAddr (by rfl) fa127_2))))))) ?_
      refine P_st 1000000 4 (by rfl) (by rfl) (by rfl) (by rfl) (by rfl) (Over_out (by rfl) (Over_in (by rfl) (Over_in (by rfl) (Over_in (by rfl) (Over_nil (by intro vb17 l40 hb17; obtain ⟨ab, bb, rfl, rfl⟩ := hb17; rintro vb18 _ ⟨hvb18, rfl⟩; replace hvb18 : vb18 = .tuple _ := hvb18; subst hvb18; rintro vb19 _ ⟨hvb19, rfl⟩; replace hvb19 : vb19 = .slice _ _ _ := hvb19; subst hvb19; exact (st_preD (fun _ => by rfl) (by rfl) (by rfl) Try.sizeOf90 (by rfl) (by rfl) (by first | decide | exact Nat.le_of_ble_eq_true rfl | simp)))))))) ?_
      refine PW_end (by rfl) ?_
      refine OverAll_cons (fun w42 l42 => ?_)
      refine OverAll_cons (fun w41 l41 => ?_)
      refine OverAll_cons (fun w36 l36 => ?_)
      refine OverAll_cons (fun w40 l40 => ?_)
      refine OverAll_cons (fun w1000000 l1000000 => ?_)
      refine OverAll_nil ?_
      rintro ⟨⟨⟨⟨⟨-, h42⟩, h41⟩, h36⟩, h40⟩, h1000000⟩
      obtain ⟨ab, bb, rfl, rfl⟩ := h40
      obtain ⟨h36, rfl⟩ := h36
      replace h36 : w36 = .tuple _ := h36
      subst h36
      obtain ⟨h41, rfl⟩ := h41
      replace h41 : w41 = .slice _ _ _ := h41
      subst h41
      obtain ⟨h42, rfl⟩ := h42
      replace h42 : w42 = .slice _ _ _ := h42
      subst h42
      obtain rfl := h1000000
      refine WS_det hF (by rfl) (by first | exact y_nilCheck (by rfl) | exact y_nilCheckF (by rfl)) ?_
      refine WS_det hF (by rfl) (y_fieldAddr (by rfl) fa127_3) ?_
      refine WS_store hF (i := 0) (by rfl) (by rfl) Try.sizeOf90 (by rfl) (by rfl) (by rfl) (by first | decide | exact Nat.le_of_ble_eq_true rfl | simp) ?_
      refine WS_nil ?_
      refine Then_normal ?_
      refine W_seq ?_
      refine W_region_lit (fun ds => ?_)
      refine WS_det hF (by rfl) (y_load1 (by rfl) Try.isAgg123 (Mem.own1 6 (by rfl) (by rfl))) ?_
      refine WS_store hF (i := 7) (by rfl) (by rfl) Try.sizeOf123 (by rfl) (by rfl) (by rfl) (by first | decide | exact Nat.le_of_ble_eq_true rfl | simp) ?_
      refine WS_store hF (i := 8) (by rfl) (by rfl) Try.sizeOf31 (by rfl) (by rfl) (by rfl) (by first | decide | exact Nat.le_of_ble_eq_true rfl | simp) ?_
      refine WS_nil ?_
      refine Then_normal ?_
      refine W_ret ?_
      have hB : l.holdsB = true := l.holdsB_iff.2 fun k hk => hne k (by omega)
      have h0 : l.aerr = 0 := by unfold Lg.aerr; rw [if_pos c2, if_pos hB]
      refine Fin_ret [_, _] [(b4, _), (fb, _), (ab, _), (bb, _), (bk, _), (g, _)] Try.results88 ⟨lv1 (by rfl) Try.isAgg123 (Mem.own1 7 (by rfl) (by rfl)), lv1 (by rfl) Try.isAgg31 (Mem.own1 8 (by rfl) (by rfl)), trivial⟩ ((SubP.hsub (SubP.pick 0 (by rfl) (SubP.pick 8 (by rfl) (SubP.pick 0 (by rfl) (SubP.pick 0 (by rfl) (SubP.pick 1 (by rfl) (SubP.pick 1 (by rfl) (SubP.nil))))))))) ?_
      exact ⟨_, by rw [h0]; rfl, fun _ => ⟨b4, rfl, bk, g, fb, fcap, junk, ab, bb, rfl⟩, fun h => absurd h0 h⟩
    · rintro c k G hk hj
      obtain ⟨rfl, hemp, rfl⟩ := hj
      refine W_ret ?_
      refine InB_ret ?_
      refine Then_ret ?_
      refine Fin_ret [_, _] [] Try.results88 ⟨lv1 (by rfl) Try.isAgg123 (Mem.own1 3 (by rfl) (by rfl)), lv1 (by rfl) Try.isAgg31 (Mem.own1 4 (by rfl) (by rfl)), trivial⟩ HSub.nil ?_
      have hB : l.holdsB = false := by
        cases hb : l.holdsB with
        | false => rfl
        | true => rw [Nat.add_sub_cancel, l.holdsB_iff.1 hb k (by omega)] at hemp; cases hemp
      have h8 : l.aerr = 8 := by unfold Lg.aerr; rw [if_pos c2, hB]; rfl
      exact ⟨none, by rw [h8]; rfl, fun h => by omega, fun _ => rfl⟩
end Go.Proofs.Ythkimgfgpphgnaa.T

/- What is known, in memory; at, last; whether it holds some pints, when, what may be drawn, the room. -/
namespace Go.Proofs.Ythkimgfgpphgnaa.T
open Go.RowKit Go.Proofs Go.Eng
set_option maxRecDepth 100000
set_option linter.unusedVariables false
set_option linter.unusedSimpArgs false

theorem fa127_0 : ∀ b o w, (Instr.fieldAt 127 (.pointer (some ⟨b, o, none⟩)) 0).run Try.prog w = .ok (.pointer (some ⟨b, o + 0, none⟩)) w := fun b o w => by kernel_rfl

theorem Lg.aerr0 (l : Lg) (h : l.aerr = 0) : l.err = 0 ∧ ∀ k, k ≤ l.es.length → (l.hold k).empty = false := by
  unfold Lg.aerr at h
  split at h
  · split at h
    · rename_i h1 h2; exact ⟨h1, l.holdsB_iff.1 h2⟩
    · cases h
  · rename_i h1; exact absurd h h1
def Lg.at (l : Lg) (i : Nat) : Sn := (l.hold i).met (l.aft i)
def Lg.last (l : Lg) : Sn := l.at l.es.length
/-- What is known, in memory. -/
structure Kn (w : World) (kb : Nat) (l : Lg) : Prop where
  ok : l.Ok
  ne : ∀ k, k ≤ l.es.length → (l.hold k).empty = false
  ex : ∃ bk fb capf ab bb, At w kb 0 (knownCells bk fb capf ab bb l.es.length) ∧ At w fb 0 (snRow l.hold (l.es.length + 1)) ∧ At w ab 0 (snRow l.aft (l.es.length + 1)) ∧ At w bb 0 (snRow l.ahd l.es.length) ∧ Bk w bk l
theorem Kn.below {w w' : World} {kb : Nat} {l : Lg} (h : Kn w kb l) (hb : Below w.heap.size w w') : Kn w' kb l := by
  obtain ⟨hok, hne, bk, fb, capf, ab, bb, h1, h2, h3, h4, h5⟩ := h
  exact ⟨hok, hne, bk, fb, capf, ab, bb, At.old hb h1, At.old hb h2, At.old hb h3, At.old hb h4, h5.below hb⟩
theorem Kn.st {C : Ctx} {H : List Blk} {kb : Nat} {l : Lg} (h : Kn C.w0 kb l) (w : World) (hw : St C H w) : Kn w kb l := h.below hw.1
def knBlocks (l : Lg) (a : Option Addr) (cap : Nat) (ae : Option Addr) (cape kb bk g fb capf : Nat) (junk : List Value) (ab bb : Nat) : List Blk :=
  [(kb, CB (knownCells bk fb capf ab bb l.es.length) 127), (fb, CB (snRow l.hold (l.es.length + 1) ++ junk) 26), (ab, CB (snRow l.aft (l.es.length + 1)) 26), (bb, CB (snRow l.ahd l.es.length) 26), (bk, CB (bookCells g l a cap ae cape) 119), (g, CB (gaugeCells l.tk a cap) 98)]
theorem At.block {C : Ctx} {H : List Blk} {b : Nat} {vs rest : List Value} {T : TypeId} (hm : (b, CB (vs ++ rest) T) ∈ H) (w : World) (hw : St C H w) : At w b 0 vs := by
  obtain ⟨i, hi, hii⟩ := List.mem_iff_getElem.1 hm
  exact Mem.own (rest := rest) i ((List.getElem?_eq_getElem hi).trans (congrArg some hii)) (by rw [List.drop_zero]) w hw
theorem At.block0 {C : Ctx} {H : List Blk} {b : Nat} {vs : List Value} {T : TypeId} (hm : (b, CB vs T) ∈ H) (w : World) (hw : St C H w) : At w b 0 vs := by
  have : (b, CB (vs ++ []) T) ∈ H := by rwa [List.append_nil]
  exact At.block this w hw
theorem Kn.own {C : Ctx} {H : List Blk} {l : Lg} {a : Option Addr} {cap : Nat} {ae : Option Addr} {cape kb bk g fb capf : Nat} {junk : List Value} {ab bb : Nat} (hs : (knBlocks l a cap ae cape kb bk g fb capf junk ab bb).Sublist H)
    (h0 : l.aerr = 0) (hx : Ints C.w0 a l.tk.n cap l.tk.pints) (he : Ens C.w0 ae l.es.length cape l.es) (w : World) (hw : St C H w) : Kn w kb l := by
  obtain ⟨h1, h2⟩ := l.aerr0 h0
  have hm : ∀ x ∈ knBlocks l a cap ae cape kb bk g fb capf junk ab bb, x ∈ H := fun x hx => hs.subset hx
  unfold knBlocks at hm
  simp only [List.forall_mem_cons] at hm
  obtain ⟨m1, m2, m3, m4, m5, m6, _⟩ := hm
  exact ⟨l.ok_of h1, h2, bk, fb, capf, ab, bb, At.block0 m1 w hw, At.block m2 w hw, At.block0 m3 w hw, At.block0 m4 w hw, Bk.own m5 m6 (l.ok_of h1) hx he w hw⟩
theorem At.rowOf {w : World} {b : Nat} {α : Type} {enc : α → List Value} {sz : Nat} (hz : ∀ x, (enc x).length = sz) {f : Nat → α} {n k o : Nat} (h : At w b 0 (rowOf enc f n)) (hk : k < n) (ho : o = k * sz) : At w b o (enc (f k)) := by
  subst ho
  obtain ⟨t, ht⟩ := rowOf_drop hz f hk
  refine At.of fun j v hv => ?_
  have hg : (Eng.rowOf enc f n)[k * sz + j]? = some v := rowOf_get hz f hk hv
  have := h.get (k * sz + j) v hg
  rw [Nat.zero_add] at this
  exact this

theorem at_any (kb : Nat) (l : Lg) (i : Nat) (w : World) (hK : Kn w kb l) (hi : i ≤ l.es.length) :
    Ct Try.prog 92 #[.pointer (some ⟨kb, 0, none⟩), .int .i64 (i : Int)] w fun v _ => v = .agg (l.at i).cells.toArray := by
  obtain ⟨hok, hne, bk, fb, capf, ab, bb, h1, h2, h3, h4, h5⟩ := hK
  have e1 : At w fb (0 + i * 2) (l.hold i).cells := At.rowOf sn_len h2 (by omega) (by omega)
  have e2 : At w ab (0 + i * 2) (l.aft i).cells := At.rowOf sn_len h3 (by omega) (by omega)
  have hF := wide_wide
  refine Ct_start (args := [_, _]) Try.func92 (by rfl) Try.ntmps92 (by rfl) ?_
  refine W_seq ?_
  refine W_region_lit (fun ds => ?_)
  refine WS_new hF (by rfl) (y_alloc Try.zeroValue26 (by rfl)) (fun b1 => ?_)
  refine WS_nil ?_
  refine Then_normal ?_
  refine W_seq ?_
  apply W_draw1 hF Trymixed [1000000] (i := 0) (by rfl) (by decide +kernel)
  intro ds
  refine P_det (by rfl) (Over_out (by rfl) (Over_nil (y_move (c := .pointer _) (by rfl)))) ?_
  refine P_det (by rfl) (Over_out (by rfl) (Over_nil (by first | exact y_nilCheck (by rfl) | exact y_nilCheckF (by rfl)))) ?_
  refine P_det (by rfl) (Over_out (by rfl) (Over_nil (y_fieldAddr (by rfl) fa127_1))) ?_
  refine P_det (by rfl) (Over_out (by rfl) (Over_nil (y_load1 (by rfl) Try.isAgg90 (by first | exact Mem.old1 (by assumption) | exact Mem.oldAt1 (by assumption) (by rfl) | exact Mem.old (by assumption) | exact Mem.oldAtL1 (by assumption) (by rfl) (by rfl))))) ?_
  refine P_det (by rfl) (Over_out (by rfl) (Over_nil (y_move (c := .int .i64 _) (by rfl)))) ?_
  refine P_det (by rfl) (Over_out (by rfl) (Over_nil (y_index (k := i) (by rfl) (by rfl) (by first | rfl | omega) (by first | decide | omega) Try.runUnderlying90 Try.sizeOf26))) ?_
  refine P_det (by rfl) (Over_out (by rfl) (Over_nil (y_loadN (by rfl) Try.isAgg26 Try.sizeOf26 (by first | exact Mem.old (by assumption) | exact Mem.oldAt (us := [.int .i64 _, .int .i64 _]) (by assumption) (by rfl) | exact Mem.oldAtL (us := [.int .i64 _, .int .i64 _]) (by assumption) (by rfl) (by rfl)) (by rfl)))) ?_
  refine P_det (by rfl) (Over_out (by rfl) (Over_nil (y_move (c := .pointer _) (by rfl)))) ?_
  refine P_det (by rfl) (Over_out (by rfl) (Over_nil (by first | exact y_nilCheck (by rfl) | exact y_nilCheckF (by rfl)))) ?_
  refine P_det (by rfl) (Over_out (by rfl) (Over_nil (y_fieldAddr (by rfl) fa127_2))) ?_
  refine P_det (by rfl) (Over_out (by rfl) (Over_nil (y_load1 (by rfl) Try.isAgg90 (by first | exact Mem.old1 (by assumption) | exact Mem.oldAt1 (by assumption) (by rfl) | exact Mem.old (by assumption) | exact Mem.oldAtL1 (by assumption) (by rfl) (by rfl))))) ?_
  refine P_det (by rfl) (Over_out (by rfl) (Over_nil (y_move (c := .int .i64 _) (by rfl)))) ?_
  refine P_det (by rfl) (Over_out (by rfl) (Over_nil (y_index (k := i) (by rfl) (by rfl) (by first | rfl | omega) (by first | decide | omega) Try.runUnderlying90 Try.sizeOf26))) ?_
  refine P_det (by rfl) (Over_out (by rfl) (Over_nil (y_loadN (by rfl) Try.isAgg26 Try.sizeOf26 (by first | exact Mem.old (by assumption) | exact Mem.oldAt (us := [.int .i64 _, .int .i64 _]) (by assumption) (by rfl) | exact Mem.oldAtL (us := [.int .i64 _, .int .i64 _]) (by assumption) (by rfl) (by rfl)) (by rfl)))) ?_
  refine P_det (by rfl) (Over_out (by rfl) (Over_nil (y_callL (by rfl) (by rfl) Try.call109 (fun w hw => met_any _ _ _ _ w)))) ?_
  refine P_st 1000000 0 (by rfl) (by rfl) (by rfl) (by rfl) (by rfl) (Over_nil (st_pre (fun _ => by rfl) (fun _ => by rfl) Try.sizeOf26 (by rfl) (by rfl) (by first | decide | exact Nat.le_of_ble_eq_true rfl | simp))) ?_
  refine PW_end (by rfl) ?_
  refine OverAll_cons (fun w1000000 l1000000 => ?_)
  refine OverAll_nil ?_
  rintro ⟨-, h1000000⟩
  obtain rfl := h1000000
  refine Then_normal ?_
  refine W_ret ?_
  refine Fin_ret [_] [] Try.results92 ⟨lvN (by rfl) Try.isAgg26 Try.sizeOf26 (Mem.own (us := [.int .i64 _, .int .i64 _]) 0 (by rfl) (by rfl)) (by rfl), trivial⟩ HSub.nil ?_
  rfl
theorem last_any (kb : Nat) (l : Lg) (w : World) (hK : Kn w kb l) :
    Ct Try.prog 89 #[.pointer (some ⟨kb, 0, none⟩)] w fun v _ => v = .agg l.last.cells.toArray := by
  have hK0 := hK
  obtain ⟨hok, hne, bk, fb, capf, ab, bb, h1, h2, h3, h4, _, g, a, cap, ae, cape, h5, _⟩ := hK
  have hF := wide_wide
  refine Ct_start (args := [_]) Try.func89 (by rfl) Try.ntmps89 (by rfl) ?_
  refine W_seq ?_
  refine W_region_lit (fun ds => ?_)
  refine WS_new hF (by rfl) (y_alloc Try.zeroValue26 (by rfl)) (fun b1 => ?_)
  refine WS_nil ?_
  refine Then_normal ?_
  refine W_seq ?_
  refine W_region_lit (fun ds => ?_)
  refine WS_det hF (by rfl) (y_move (c := .pointer _) (by rfl)) ?_
  refine WS_det hF (by rfl) (y_move (c := .pointer _) (by rfl)) ?_
  refine WS_det hF (by rfl) (by first | exact y_nilCheck (by rfl) | exact y_nilCheckF (by rfl)) ?_
  refine WS_det hF (by rfl) (y_fieldAddr (by rfl) fa127_0) ?_
  refine WS_det hF (by rfl) (y_load1 (by rfl) Try.isAgg108 (by first | exact Mem.old1 (by assumption) | exact Mem.oldAt1 (by assumption) (by rfl) | exact Mem.old (by assumption) | exact Mem.oldAtL1 (by assumption) (by rfl) (by rfl))) ?_
  refine WS_det hF (by rfl) (by first | exact y_nilCheck (by rfl) | exact y_nilCheckF (by rfl)) ?_
  refine WS_det hF (by rfl) (y_fieldAddr (by rfl) fa119_1) ?_
  refine WS_det hF (by rfl) (y_fieldAddr (by rfl) fa46_2) ?_
  refine WS_det hF (by rfl) (y_load1 (by rfl) Try.isAgg44 (by first | exact Mem.old1 (by assumption) | exact Mem.oldAt1 (by assumption) (by rfl) | exact Mem.old (by assumption) | exact Mem.oldAtL1 (by assumption) (by rfl) (by rfl))) ?_
  refine WS_det hF (by rfl) (y_len (by rfl) Try.runUnderlying44) ?_
  refine WS_det hF (by rfl) (y_callL (by rfl) (by rfl) Try.call92 (fun w hw => at_any kb l l.es.length w (hK0.st w hw) (Nat.le_refl _))) ?_
  refine WS_store hF (i := 0) (by rfl) (by rfl) Try.sizeOf26 (by rfl) (by rfl) (by rfl) (by first | decide | exact Nat.le_of_ble_eq_true rfl | simp) ?_
  refine WS_nil ?_
  refine Then_normal ?_
  refine W_ret ?_
  refine Fin_ret [_] [] Try.results89 ⟨lvN (by rfl) Try.isAgg26 Try.sizeOf26 (Mem.own (us := [.int .i64 _, .int .i64 _]) 0 (by rfl) (by rfl)) (by rfl), trivial⟩ HSub.nil ?_
  rfl
theorem change_any (a b : Sn) (w : World) (ha : a.Sm) (hb : b.Sm) : Ct Try.prog 96 #[.agg a.cells.toArray, .agg b.cells.toArray] w fun v _ => v = .agg (a.sub b).cells.toArray := by
  unfold Sn.Sm at ha hb
  have hF := wide_wide
  refine Ct_start (args := [_, _]) Try.func96 (by rfl) Try.ntmps96 (by rfl) ?_
  refine W_seq ?_
  refine W_region_lit (fun ds => ?_)
  refine WS_new hF (by rfl) (y_box (by rfl)) (fun b1 => ?_)
  refine WS_new hF (by rfl) (y_box (by rfl)) (fun b2 => ?_)
  refine WS_new hF (by rfl) (y_alloc Try.zeroValue26 (by rfl)) (fun b3 => ?_)
  refine WS_nil ?_
  refine Then_normal ?_
  refine W_seq ?_
  refine W_region_lit (fun ds => ?_)
  refine WS_det hF (by rfl) (y_fieldAddr (by rfl) fa26_0) ?_
  refine WS_det hF (by rfl) (y_load1 (by rfl) Try.isAgg3 (Mem.own1 2 (by rfl) (by rfl))) ?_
  refine WS_det hF (by rfl) (y_fieldAddr (by rfl) fa26_1) ?_
  refine WS_det hF (by rfl) (y_load1 (by rfl) Try.isAgg3 (Mem.own1 1 (by rfl) (by rfl))) ?_
  refine WS_det hF (by rfl) (y_sub (by rfl) (by rfl) (by unfold I64; omega)) ?_
  refine WS_det hF (by rfl) (y_fieldAddr (by rfl) fa26_1) ?_
  refine WS_det hF (by rfl) (y_load1 (by rfl) Try.isAgg3 (Mem.own1 2 (by rfl) (by rfl))) ?_
  refine WS_det hF (by rfl) (y_fieldAddr (by rfl) fa26_0) ?_
  refine WS_det hF (by rfl) (y_load1 (by rfl) Try.isAgg3 (Mem.own1 1 (by rfl) (by rfl))) ?_
  refine WS_det hF (by rfl) (y_sub (by rfl) (by rfl) (by unfold I64; omega)) ?_
  refine WS_det hF (by rfl) (y_buildL bd26_0_1 (by rfl)) ?_
  refine WS_store hF (i := 0) (by rfl) (by rfl) Try.sizeOf26 (by rfl) (by rfl) (by rfl) (by first | decide | exact Nat.le_of_ble_eq_true rfl | simp) ?_
  refine WS_nil ?_
  refine Then_normal ?_
  refine W_ret ?_
  refine Fin_ret [_] [] Try.results96 ⟨lvN (by rfl) Try.isAgg26 Try.sizeOf26 (Mem.own (us := [.int .i64 _, .int .i64 _]) 0 (by rfl) (by rfl)) (by rfl), trivial⟩ HSub.nil ?_
  rfl
end Go.Proofs.Ythkimgfgpphgnaa.T

/- Whether the tank holds some pints, when, what may be drawn, the room, and what it holds: the walks. -/
namespace Go.Proofs.Ythkimgfgpphgnaa.T
open Go.RowKit Go.Proofs Go.Eng
set_option maxRecDepth 100000
set_option linter.unusedVariables false
set_option linter.unusedSimpArgs false

theorem fd26_0 {x_0 : Int} {x_1 : Int} : ∀ w, (Instr.field 26 (.agg #[.int .i64 x_0, .int .i64 x_1]) 0).run Try.prog w = .ok (.int .i64 x_0) w := fun w => by kernel_rfl


theorem Lg.Ok.at_bd {l : Lg} (h : l.Ok) (hne : ∀ k, k ≤ l.es.length → (l.hold k).empty = false) {i : Nat} (hi : i ≤ l.es.length) : 0 ≤ (l.at i).lo ∧ (l.at i).hi ≤ l.tk.full ∧ (l.at i).lo ≤ 10000000 ∧ -10000000 ≤ (l.at i).hi := by
  have h1 := h.hold_bd i hi fun j hj => hne j (by omega)
  have h2 := h.aft_bd hi
  unfold Lg.at Sn.met
  simp only
  omega
theorem Lg.Ok.last_bd {l : Lg} (h : l.Ok) (hne : ∀ k, k ≤ l.es.length → (l.hold k).empty = false) : 0 ≤ l.last.lo ∧ l.last.hi ≤ l.tk.full ∧ l.last.lo ≤ 10000000 ∧ -10000000 ≤ l.last.hi := h.at_bd hne (Nat.le_refl _)

def Lg.sureV (l : Lg) (p : Int) : Value :=
  if l.aerr = 0 then if inB 0 l.tk.full [p] then if p ≤ l.last.lo then .tuple #[.int .u8 2, .int .i64 0] else if l.last.hi < p then .tuple #[.int .u8 0, .int .i64 0] else .tuple #[.int .u8 1, .int .i64 0] else .tuple #[.int .u8 0, .int .i64 2] else .tuple #[.int .u8 0, .int .i64 l.aerr]
theorem sure_any (l : Lg) (a : Option Addr) (cap : Nat) (ae : Option Addr) (cape : Nat) (p : Int) (w : World) (hn : l.tk.n ≤ 1000000) (hx : Ints w a l.tk.n cap l.tk.pints) (he : Ens w ae l.es.length cape l.es) : Ct Try.prog 31 #[.agg #[.slice a l.tk.n cap, .int .i64 l.tk.leak, .int .i64 l.tk.foot, .int .i64 l.start.lo, .int .i64 l.start.hi, .slice ae l.es.length cape], .int .i64 p] w fun v _ => v = l.sureV p := by
  have hF := wide_wide
  refine Ct_start (args := [_, _]) Try.func31 (by rfl) Try.ntmps31 (by rfl) ?_
  refine W_seq ?_
  refine W_region_lit (fun ds => ?_)
  refine WS_new hF (by rfl) (y_box (by rfl)) (fun b1 => ?_)
  refine WS_det hF (by rfl) (y_assign (c := .int .u8 _) (by rfl)) ?_
  refine WS_det hF (by rfl) (y_assign (c := .int .i64 _) (by rfl)) ?_
  refine WS_nil ?_
  refine Then_normal ?_
  refine W_seq ?_
  refine W_region_lit (fun ds => ?_)
  refine WS_det hF (by rfl) (y_loadN (by rfl) Try.isAgg46 Try.sizeOf46 (Mem.own (us := [.slice _ _ _, .int .i64 _, .int .i64 _, .int .i64 _, .int .i64 _, .slice _ _ _]) 0 (by rfl) (by rfl)) (by rfl)) ?_
  refine WS_gen hF (by rfl) (y_callL (by rfl) (by rfl) Try.call88 (fun w hw => asked_any l a cap ae cape w hn (hx.st w hw) (he.st w hw))) ?_
  rintro _ Hg ⟨p, rfl, hg1, hg2⟩
  refine WS_det hF (by rfl) (y_move (c := .tuple _) (by rfl)) ?_
  refine WS_det hF (by rfl) (y_extract (c := .pointer _) (by rfl) (by rfl)) ?_
  refine WS_det hF (by rfl) (y_extract (c := .int .i64 _) (by rfl) (by rfl)) ?_
  refine WS_det hF (by rfl) (y_assign (c := .pointer _) (by rfl)) ?_
  refine WS_det hF (by rfl) (y_assign (c := .int .i64 _) (by rfl)) ?_
  refine WS_nil ?_
  refine Then_normal ?_
  refine W_seq ?_
  refine W_seq ?_
  refine W_region_lit (fun ds => ?_)
  refine WS_det hF (by rfl) (y_move (c := .int .i64 _) (by rfl)) ?_
  refine WS_det hF (by rfl) (y_neq (by rfl) (by rfl)) ?_
  refine WS_nil ?_
  refine Then_normal ?_
  refine W_cond (by rfl) (fun c2 => ?_) (fun c2 => ?_)
  ·
    try simp only [Bool.not_eq_true', Bool.not_eq_false', decide_eq_true_eq, decide_eq_false_iff_not, ne_eq, Classical.not_not, Int.not_lt, Int.not_le] at c2
    obtain rfl := hg2 c2
    refine W_seq ?_
    refine W_region_lit (fun ds => ?_)
    refine WS_det hF (by rfl) (y_move (c := .int .i64 _) (by rfl)) ?_
    refine WS_det hF (by rfl) (y_assign (c := .int .u8 _) (by rfl)) ?_
    refine WS_det hF (by rfl) (y_assign (c := .int .i64 _) (by rfl)) ?_
    refine WS_nil ?_
    refine Then_normal ?_
    refine W_ret ?_
    refine Then_ret ?_
    refine Fin_ret [.int .u8 _, .int .i64 _] [] Try.results31 ⟨by rfl, by rfl, trivial⟩ HSub.nil ?_
    show Value.tuple _ = _
    unfold Lg.sureV
    rw [if_neg c2]
  ·
    try simp only [Bool.not_eq_true', Bool.not_eq_false', decide_eq_true_eq, decide_eq_false_iff_not, ne_eq, Classical.not_not, Int.not_lt, Int.not_le] at c2
    obtain ⟨kb, rfl, bk, g, fb, capf, junk, ab, bb, rfl⟩ := hg1 c2
    have hok := l.ok_of (l.aerr0 c2).1
    have hne := (l.aerr0 c2).2
    have hfull := hok.tk.full_bd
    have hlb := hok.last_bd hne
    refine W_skip ?_
    refine Then_normal ?_
    refine W_seq ?_
    refine W_seq ?_
    refine W_region_lit (fun ds => ?_)
    refine WS_det hF (by rfl) (y_move (c := .pointer _) (by rfl)) ?_
    refine WS_det hF (by rfl) (by first | exact y_nilCheck (by rfl) | exact y_nilCheckF (by rfl)) ?_
    refine WS_det hF (by rfl) (y_fieldAddr (by rfl) fa127_0) ?_
    refine WS_det hF (by rfl) (y_load1 (by rfl) Try.isAgg108 (Mem.own1 0 (by rfl) (by rfl))) ?_
    refine WS_det hF (by rfl) (by first | exact y_nilCheck (by rfl) | exact y_nilCheckF (by rfl)) ?_
    refine WS_det hF (by rfl) (y_fieldAddr (by rfl) fa119_0) ?_
    refine WS_det hF (by rfl) (y_load1 (by rfl) Try.isAgg93 (Mem.own1 4 (by rfl) (by rfl))) ?_
    refine WS_det hF (by rfl) (by first | exact y_nilCheck (by rfl) | exact y_nilCheckF (by rfl)) ?_
    refine WS_det hF (by rfl) (y_fieldAddr (by rfl) fa98_1) ?_
    refine WS_det hF (by rfl) (y_load1 (by rfl) Try.isAgg3 (Mem.own1 5 (by rfl) (by rfl))) ?_
    refine WS_det hF (by rfl) (y_move (c := .int .i64 _) (by rfl)) ?_
    refine WS_newS hF (by rfl) (y_buildSliceL bs22_1_0 (by rfl)) (fun b2 => ?_)
    refine WS_det hF (by rfl) (y_callL (by rfl) (by rfl) Try.call65 (fun w hw => in_any _ _ _ _ _ _ w (by decide) (by first | exact Ints.one 0 rfl w hw | exact Ints.two 0 rfl w hw))) ?_
    refine WS_det hF (by rfl) (y_not (by rfl)) ?_
    refine WS_nil ?_
    refine Then_normal ?_
    refine W_cond (by rfl) (fun c4 => ?_) (fun c4 => ?_)
    ·
      try simp only [Bool.not_eq_true', Bool.not_eq_false', decide_eq_true_eq, decide_eq_false_iff_not, ne_eq, Classical.not_not, Int.not_lt, Int.not_le] at c4
      refine W_seq ?_
      refine W_region_lit (fun ds => ?_)
      refine WS_det hF (by rfl) (y_assign (c := .int .u8 _) (by rfl)) ?_
      refine WS_det hF (by rfl) (y_assign (c := .int .i64 _) (by rfl)) ?_
      refine WS_nil ?_
      refine Then_normal ?_
      refine W_ret ?_
      refine Then_ret ?_
      refine Fin_ret [.int .u8 _, .int .i64 _] [] Try.results31 ⟨by rfl, by rfl, trivial⟩ HSub.nil ?_
      show Value.tuple _ = _
      unfold Lg.sureV
      rw [if_pos c2, c4]; rfl
    ·
      try simp only [Bool.not_eq_true', Bool.not_eq_false', decide_eq_true_eq, decide_eq_false_iff_not, ne_eq, Classical.not_not, Int.not_lt, Int.not_le] at c4
      refine W_skip ?_
      refine Then_normal ?_
      refine W_seq ?_
      refine W_seq ?_
      refine W_region_lit (fun ds => ?_)
      refine WS_det hF (by rfl) (y_move (c := .pointer _) (by rfl)) ?_
      refine WS_det hF (by rfl) (y_callL (by rfl) (by rfl) Try.call89 (fun w hw => last_any kb l w (Kn.own (a := a) (cap := cap) (ae := ae) (cape := cape) (bk := bk) (g := g) (fb := fb) (capf := capf) (junk := junk) (ab := ab) (bb := bb) (by unfold knBlocks; repeat (first | exact List.Sublist.refl _ | exact List.nil_sublist _ | apply List.Sublist.cons_cons | apply List.Sublist.cons)) c2 hx he w hw))) ?_
      refine WS_new hF (by rfl) (y_alloc Try.zeroValue26 (by rfl)) (fun b3 => ?_)
      refine WS_store hF (i := 0) (by rfl) (by rfl) Try.sizeOf26 (by rfl) (by rfl) (by rfl) (by first | decide | exact Nat.le_of_ble_eq_true rfl | simp) ?_
      refine WS_nil ?_
      refine Then_normal ?_
      refine W_block ?_
      refine W_seq ?_
      refine W_region_lit (fun ds => ?_)
      refine WS_det hF (by rfl) (y_fieldAddr (by rfl) fa26_0) ?_
      refine WS_det hF (by rfl) (y_load1 (by rfl) Try.isAgg3 (Mem.own1 0 (by rfl) (by rfl))) ?_
      refine WS_det hF (by rfl) (y_move (c := .int .i64 _) (by rfl)) ?_
      refine WS_det hF (by rfl) (y_geq (by rfl) (by rfl)) ?_
      refine WS_det hF (by rfl) (y_assign (c := .bool _) (by rfl)) ?_
      refine WS_nil ?_
      refine Then_normal ?_
      refine W_cond (by rfl) (fun c7 => ?_) (fun c7 => ?_)
      ·
        try simp only [Bool.not_eq_true', Bool.not_eq_false', decide_eq_true_eq, decide_eq_false_iff_not, ne_eq, Classical.not_not, Int.not_lt, Int.not_le] at c7
        refine W_seq ?_
        refine W_region_lit (fun ds => ?_)
        refine WS_det hF (by rfl) (y_assign (c := .int .u8 _) (by rfl)) ?_
        refine WS_det hF (by rfl) (y_assign (c := .int .i64 _) (by rfl)) ?_
        refine WS_nil ?_
        refine Then_normal ?_
        refine W_ret ?_
        refine InB_ret ?_
        refine Then_ret ?_
        refine Fin_ret [.int .u8 _, .int .i64 _] [] Try.results31 ⟨by rfl, by rfl, trivial⟩ HSub.nil ?_
        show Value.tuple _ = _
        unfold Lg.sureV
        rw [if_pos c2, c4, if_pos rfl, if_pos (by omega)]
      ·
        try simp only [Bool.not_eq_true', Bool.not_eq_false', decide_eq_true_eq, decide_eq_false_iff_not, ne_eq, Classical.not_not, Int.not_lt, Int.not_le] at c7
        refine W_seq ?_
        refine W_region_lit (fun ds => ?_)
        refine WS_det hF (by rfl) (y_fieldAddr (by rfl) fa26_1) ?_
        refine WS_det hF (by rfl) (y_load1 (by rfl) Try.isAgg3 (Mem.own1 0 (by rfl) (by rfl))) ?_
        refine WS_det hF (by rfl) (y_move (c := .int .i64 _) (by rfl)) ?_
        refine WS_det hF (by rfl) (y_lss (by rfl) (by rfl)) ?_
        refine WS_det hF (by rfl) (y_assign (c := .bool _) (by rfl)) ?_
        refine WS_nil ?_
        refine Then_normal ?_
        refine W_cond (by rfl) (fun c9 => ?_) (fun c9 => ?_)
        ·
          try simp only [Bool.not_eq_true', Bool.not_eq_false', decide_eq_true_eq, decide_eq_false_iff_not, ne_eq, Classical.not_not, Int.not_lt, Int.not_le] at c9
          refine W_seq ?_
          refine W_region_lit (fun ds => ?_)
          refine WS_det hF (by rfl) (y_assign (c := .int .u8 _) (by rfl)) ?_
          refine WS_det hF (by rfl) (y_assign (c := .int .i64 _) (by rfl)) ?_
          refine WS_nil ?_
          refine Then_normal ?_
          refine W_ret ?_
          refine InB_ret ?_
          refine Then_ret ?_
          refine Fin_ret [.int .u8 _, .int .i64 _] [] Try.results31 ⟨by rfl, by rfl, trivial⟩ HSub.nil ?_
          show Value.tuple _ = _
          unfold Lg.sureV
          rw [if_pos c2, c4, if_pos rfl, if_neg (by omega), if_pos (by omega)]
        ·
          try simp only [Bool.not_eq_true', Bool.not_eq_false', decide_eq_true_eq, decide_eq_false_iff_not, ne_eq, Classical.not_not, Int.not_lt, Int.not_le] at c9
          refine W_skip ?_
          refine InB_normal ?_
          refine Then_normal ?_
          refine W_seq ?_
          refine W_region_lit (fun ds => ?_)
          refine WS_det hF (by rfl) (y_assign (c := .int .u8 _) (by rfl)) ?_
          refine WS_det hF (by rfl) (y_assign (c := .int .i64 _) (by rfl)) ?_
          refine WS_nil ?_
          refine Then_normal ?_
          refine W_ret ?_
          refine Fin_ret [.int .u8 _, .int .i64 _] [] Try.results31 ⟨by rfl, by rfl, trivial⟩ HSub.nil ?_
          show Value.tuple _ = _
          unfold Lg.sureV
          rw [if_pos c2, c4, if_pos rfl, if_neg (by omega), if_neg (by omega)]
def firstN (f : Nat → Bool) (n : Nat) : Option Nat := (List.range n).find? f
theorem firstN_some {f : Nat → Bool} {n k : Nat} (hk : k < n) (h1 : f k = true) (h0 : ∀ j, j < k → f j = false) : firstN f n = some k := by
  unfold firstN
  rw [List.find?_range_eq_some]
  exact ⟨h1, by simpa using hk, fun j hj => by simp [h0 j hj]⟩
theorem firstN_none {f : Nat → Bool} {n : Nat} (h0 : ∀ j, j < n → f j = false) : firstN f n = none := by
  unfold firstN
  rw [List.find?_eq_none]
  intro j hj
  rw [h0 j (by simpa using hj)]; simp
def Lg.whenV (l : Lg) (p : Int) : Value :=
  if l.aerr = 0 then if inB 0 l.tk.full [p] then match firstN (fun i => decide (p ≤ (l.at i).lo)) (l.es.length + 1) with
    | some i => .tuple #[.int .i64 (i : Int), .int .i64 0]
    | none => .tuple #[.int .i64 0, .int .i64 6] else .tuple #[.int .i64 0, .int .i64 2] else .tuple #[.int .i64 0, .int .i64 l.aerr]
theorem when_any (l : Lg) (a : Option Addr) (cap : Nat) (ae : Option Addr) (cape : Nat) (p : Int) (w : World) (hn : l.tk.n ≤ 1000000) (hx : Ints w a l.tk.n cap l.tk.pints) (he : Ens w ae l.es.length cape l.es) : Ct Try.prog 33 #[.agg #[.slice a l.tk.n cap, .int .i64 l.tk.leak, .int .i64 l.tk.foot, .int .i64 l.start.lo, .int .i64 l.start.hi, .slice ae l.es.length cape], .int .i64 p] w fun v _ => v = l.whenV p := by
  have hF := wide_wide
  refine Ct_start (args := [_, _]) Try.func33 (by rfl) Try.ntmps33 (by rfl) ?_
  refine W_seq ?_
  refine W_region_lit (fun ds => ?_)
  refine WS_new hF (by rfl) (y_box (by rfl)) (fun b1 => ?_)
  refine WS_det hF (by rfl) (y_assign (c := .int .i64 _) (by rfl)) ?_
  refine WS_det hF (by rfl) (y_assign (c := .int .i64 _) (by rfl)) ?_
  refine WS_nil ?_
  refine Then_normal ?_
  refine W_seq ?_
  refine W_region_lit (fun ds => ?_)
  refine WS_det hF (by rfl) (y_loadN (by rfl) Try.isAgg46 Try.sizeOf46 (Mem.own (us := [.slice _ _ _, .int .i64 _, .int .i64 _, .int .i64 _, .int .i64 _, .slice _ _ _]) 0 (by rfl) (by rfl)) (by rfl)) ?_
  refine WS_gen hF (by rfl) (y_callL (by rfl) (by rfl) Try.call88 (fun w hw => asked_any l a cap ae cape w hn (hx.st w hw) (he.st w hw))) ?_
  rintro _ Hg ⟨p, rfl, hg1, hg2⟩
  refine WS_det hF (by rfl) (y_move (c := .tuple _) (by rfl)) ?_
  refine WS_det hF (by rfl) (y_extract (c := .pointer _) (by rfl) (by rfl)) ?_
  refine WS_det hF (by rfl) (y_extract (c := .int .i64 _) (by rfl) (by rfl)) ?_
  refine WS_det hF (by rfl) (y_assign (c := .pointer _) (by rfl)) ?_
  refine WS_det hF (by rfl) (y_assign (c := .int .i64 _) (by rfl)) ?_
  refine WS_nil ?_
  refine Then_normal ?_
  refine W_seq ?_
  refine W_seq ?_
  refine W_region_lit (fun ds => ?_)
  refine WS_det hF (by rfl) (y_move (c := .int .i64 _) (by rfl)) ?_
  refine WS_det hF (by rfl) (y_neq (by rfl) (by rfl)) ?_
  refine WS_nil ?_
  refine Then_normal ?_
  refine W_cond (by rfl) (fun c2 => ?_) (fun c2 => ?_)
  ·
    try simp only [Bool.not_eq_true', Bool.not_eq_false', decide_eq_true_eq, decide_eq_false_iff_not, ne_eq, Classical.not_not, Int.not_lt, Int.not_le] at c2
    obtain rfl := hg2 c2
    refine W_seq ?_
    refine W_region_lit (fun ds => ?_)
    refine WS_det hF (by rfl) (y_move (c := .int .i64 _) (by rfl)) ?_
    refine WS_det hF (by rfl) (y_assign (c := .int .i64 _) (by rfl)) ?_
    refine WS_det hF (by rfl) (y_assign (c := .int .i64 _) (by rfl)) ?_
    refine WS_nil ?_
    refine Then_normal ?_
    refine W_ret ?_
    refine Then_ret ?_
    refine Fin_ret [.int .i64 _, .int .i64 _] [] Try.results33 ⟨by rfl, by rfl, trivial⟩ HSub.nil ?_
    show Value.tuple _ = _
    unfold Lg.whenV
    rw [if_neg c2]
  ·
    try simp only [Bool.not_eq_true', Bool.not_eq_false', decide_eq_true_eq, decide_eq_false_iff_not, ne_eq, Classical.not_not, Int.not_lt, Int.not_le] at c2
    obtain ⟨kb, rfl, bk, g, fb, capf, junk, ab, bb, rfl⟩ := hg1 c2
    have hok := l.ok_of (l.aerr0 c2).1
    have hne := (l.aerr0 c2).2
    have hfull := hok.tk.full_bd
    have hlb := hok.last_bd hne
    have h12 := hok.n12
    refine W_skip ?_
    refine Then_normal ?_
    refine W_seq ?_
    refine W_seq ?_
    refine W_region_lit (fun ds => ?_)
    refine WS_det hF (by rfl) (y_move (c := .pointer _) (by rfl)) ?_
    refine WS_det hF (by rfl) (by first | exact y_nilCheck (by rfl) | exact y_nilCheckF (by rfl)) ?_
    refine WS_det hF (by rfl) (y_fieldAddr (by rfl) fa127_0) ?_
    refine WS_det hF (by rfl) (y_load1 (by rfl) Try.isAgg108 (Mem.own1 0 (by rfl) (by rfl))) ?_
    refine WS_det hF (by rfl) (by first | exact y_nilCheck (by rfl) | exact y_nilCheckF (by rfl)) ?_
    refine WS_det hF (by rfl) (y_fieldAddr (by rfl) fa119_0) ?_
    refine WS_det hF (by rfl) (y_load1 (by rfl) Try.isAgg93 (Mem.own1 4 (by rfl) (by rfl))) ?_
    refine WS_det hF (by rfl) (by first | exact y_nilCheck (by rfl) | exact y_nilCheckF (by rfl)) ?_
    refine WS_det hF (by rfl) (y_fieldAddr (by rfl) fa98_1) ?_
    refine WS_det hF (by rfl) (y_load1 (by rfl) Try.isAgg3 (Mem.own1 5 (by rfl) (by rfl))) ?_
    refine WS_det hF (by rfl) (y_move (c := .int .i64 _) (by rfl)) ?_
    refine WS_newS hF (by rfl) (y_buildSliceL bs22_1_0 (by rfl)) (fun b2 => ?_)
    refine WS_det hF (by rfl) (y_callL (by rfl) (by rfl) Try.call65 (fun w hw => in_any _ _ _ _ _ _ w (by decide) (by first | exact Ints.one 0 rfl w hw | exact Ints.two 0 rfl w hw))) ?_
    refine WS_det hF (by rfl) (y_not (by rfl)) ?_
    refine WS_nil ?_
    refine Then_normal ?_
    refine W_cond (by rfl) (fun c4 => ?_) (fun c4 => ?_)
    ·
      try simp only [Bool.not_eq_true', Bool.not_eq_false', decide_eq_true_eq, decide_eq_false_iff_not, ne_eq, Classical.not_not, Int.not_lt, Int.not_le] at c4
      refine W_seq ?_
      refine W_region_lit (fun ds => ?_)
      refine WS_det hF (by rfl) (y_assign (c := .int .i64 _) (by rfl)) ?_
      refine WS_det hF (by rfl) (y_assign (c := .int .i64 _) (by rfl)) ?_
      refine WS_nil ?_
      refine Then_normal ?_
      refine W_ret ?_
      refine Then_ret ?_
      refine Fin_ret [.int .i64 _, .int .i64 _] [] Try.results33 ⟨by rfl, by rfl, trivial⟩ HSub.nil ?_
      show Value.tuple _ = _
      unfold Lg.whenV
      rw [if_pos c2, c4]; rfl
    ·
      try simp only [Bool.not_eq_true', Bool.not_eq_false', decide_eq_true_eq, decide_eq_false_iff_not, ne_eq, Classical.not_not, Int.not_lt, Int.not_le] at c4
      refine W_skip ?_
      refine Then_normal ?_
      refine W_seq ?_
      refine W_seq ?_
      refine W_region_lit (fun ds => ?_)
      refine WS_det hF (by rfl) (y_move (c := .pointer _) (by rfl)) ?_
      refine WS_det hF (by rfl) (by first | exact y_nilCheck (by rfl) | exact y_nilCheckF (by rfl)) ?_
      refine WS_det hF (by rfl) (y_fieldAddr (by rfl) fa127_1) ?_
      refine WS_det hF (by rfl) (y_load1 (by rfl) Try.isAgg90 (Mem.own1 1 (by rfl) (by rfl))) ?_
      refine WS_det hF (by rfl) (y_len (by rfl) Try.runUnderlying90) ?_
      refine WS_det hF (by rfl) (y_move (c := .int .i64 _) (by rfl)) ?_
      refine WS_nil ?_
      refine Then_normal ?_
      refine W_block ?_
      refine W_loop (γ := Nat) (fun k => k ≤ l.es.length + 1 ∧ ∀ j, j < k → decide (p ≤ (l.at j).lo) = false) (fun k => [(1, .int .i64 p), (6, .pointer (some ⟨kb, 0, none⟩)), (35, .int .i64 ((l.es.length + 1 : Nat) : Int)), (36, .int .i64 (k : Int))]) (fun _ => _) (fun k => l.es.length + 1 - k) (0) ⟨Nat.zero_le _, fun j hj => by omega⟩ (by repeat (first | exact trivial | refine ⟨by rfl, ?_⟩)) (List.Sublist.refl _) ?_
      rintro k e ⟨hk, hne2⟩
      refine W_seq ?_
      refine W_region_lit (fun ds => ?_)
      refine WS_det hF (by rfl) (y_lss (by rfl) (by rfl)) ?_
      refine WS_nil ?_
      refine Then_normal ?_
      refine W_seq ?_
      refine W_cond (by rfl) (fun c7 => ?_) (fun c7 => ?_)
      ·
        try simp only [Bool.not_eq_true', Bool.not_eq_false', decide_eq_true_eq, decide_eq_false_iff_not, ne_eq, Classical.not_not, Int.not_lt, Int.not_le] at c7
        refine W_skip ?_
        refine Then_normal ?_
        refine W_seq ?_
        refine W_block ?_
        refine W_seq ?_
        refine W_region_lit (fun ds => ?_)
        refine WS_det hF (by rfl) (y_move (c := .int .i64 _) (by rfl)) ?_
        refine WS_det hF (by rfl) (y_assign (c := .int .i64 _) (by rfl)) ?_
        refine WS_nil ?_
        refine Then_normal ?_
        refine W_seq ?_
        refine W_region_lit (fun ds => ?_)
        refine WS_det hF (by rfl) (y_move (c := .pointer _) (by rfl)) ?_
        refine WS_det hF (by rfl) (y_move (c := .int .i64 _) (by rfl)) ?_
        refine WS_det hF (by rfl) (y_callL (by rfl) (by rfl) Try.call92 (fun w hw => at_any kb l k w (Kn.own (a := a) (cap := cap) (ae := ae) (cape := cape) (bk := bk) (g := g) (fb := fb) (capf := capf) (junk := junk) (ab := ab) (bb := bb) (by unfold knBlocks; repeat (first | exact List.Sublist.refl _ | exact List.nil_sublist _ | apply List.Sublist.cons_cons | apply List.Sublist.cons)) c2 hx he w hw) (by omega))) ?_
        refine WS_det hF (by rfl) (y_field (by rfl) fd26_0) ?_
        refine WS_det hF (by rfl) (y_move (c := .int .i64 _) (by rfl)) ?_
        refine WS_det hF (by rfl) (y_geq (by rfl) (by rfl)) ?_
        refine WS_nil ?_
        refine Then_normal ?_
        refine W_cond (by rfl) (fun c9 => ?_) (fun c9 => ?_)
        ·
          try simp only [Bool.not_eq_true', Bool.not_eq_false', decide_eq_true_eq, decide_eq_false_iff_not, ne_eq, Classical.not_not, Int.not_lt, Int.not_le] at c9
          refine W_seq ?_
          refine W_region_lit (fun ds => ?_)
          refine WS_det hF (by rfl) (y_move (c := .int .i64 _) (by rfl)) ?_
          refine WS_det hF (by rfl) (y_assign (c := .int .i64 _) (by rfl)) ?_
          refine WS_det hF (by rfl) (y_assign (c := .int .i64 _) (by rfl)) ?_
          refine WS_nil ?_
          refine Then_normal ?_
          refine W_ret ?_
          refine InB_ret ?_
          refine Then_ret ?_
          refine Loop_ret ?_
          refine InB_ret ?_
          refine Then_ret ?_
          refine Fin_ret [.int .i64 _, .int .i64 _] [] Try.results33 ⟨by rfl, by rfl, trivial⟩ HSub.nil ?_
          show Value.tuple _ = _
          unfold Lg.whenV
          rw [if_pos c2, c4, if_pos rfl, firstN_some (k := k) (by omega) (by simp only [decide_eq_true_eq]; omega) hne2]
        ·
          try simp only [Bool.not_eq_true', Bool.not_eq_false', decide_eq_true_eq, decide_eq_false_iff_not, ne_eq, Classical.not_not, Int.not_lt, Int.not_le] at c9
          have hne3 : ∀ j, j < k + 1 → decide (p ≤ (l.at j).lo) = false := fun j hj => by
            obtain hj | rfl : j < k ∨ j = k := by omega
            · exact hne2 j hj
            · simp only [decide_eq_false_iff_not]; omega
          refine W_skip ?_
          refine InB_normal ?_
          refine Then_normal ?_
          refine W_region_lit (fun ds => ?_)
          refine WS_det hF (by rfl) (y_add (by rfl) (by rfl) (by unfold I64; omega)) ?_
          refine WS_det hF (by rfl) (y_move (c := .int .i64 _) (by rfl)) ?_
          refine WS_nil ?_
          exact Loop_next (k + 1) ⟨by omega, hne3⟩ (by repeat (first | exact trivial | refine ⟨by rfl, ?_⟩)) (by repeat (first | exact List.Sublist.refl _ | exact List.nil_sublist _ | apply List.Sublist.cons_cons | apply List.Sublist.cons)) (by omega)
      ·
        try simp only [Bool.not_eq_true', Bool.not_eq_false', decide_eq_true_eq, decide_eq_false_iff_not, ne_eq, Classical.not_not, Int.not_lt, Int.not_le] at c7
        refine W_exit ?_
        refine Then_exit ?_
        refine Loop_exit ?_
        refine InB_same ?_
        refine Then_normal ?_
        refine W_seq ?_
        refine W_region_lit (fun ds => ?_)
        refine WS_det hF (by rfl) (y_assign (c := .int .i64 _) (by rfl)) ?_
        refine WS_det hF (by rfl) (y_assign (c := .int .i64 _) (by rfl)) ?_
        refine WS_nil ?_
        refine Then_normal ?_
        refine W_ret ?_
        refine Fin_ret [.int .i64 _, .int .i64 _] [] Try.results33 ⟨by rfl, by rfl, trivial⟩ HSub.nil ?_
        show Value.tuple _ = _
        unfold Lg.whenV
        rw [if_pos c2, c4, if_pos rfl, firstN_none fun j hj => hne2 j (by omega)]
def Sn.fl (s : Sn) (f : Int) : Sn := ⟨max 0 (s.lo - f), max 0 (s.hi - f)⟩
def Lg.readyV (l : Lg) : Value :=
  if l.aerr = 0 then .tuple #[.agg (l.last.fl (l.tk.up l.tk.foot)).cells.toArray, .int .i64 0] else .tuple #[.agg Sn.z.cells.toArray, .int .i64 l.aerr]
theorem ready_any (l : Lg) (a : Option Addr) (cap : Nat) (ae : Option Addr) (cape : Nat) (w : World) (hn : l.tk.n ≤ 1000000) (hx : Ints w a l.tk.n cap l.tk.pints) (he : Ens w ae l.es.length cape l.es) : Ct Try.prog 35 #[.agg #[.slice a l.tk.n cap, .int .i64 l.tk.leak, .int .i64 l.tk.foot, .int .i64 l.start.lo, .int .i64 l.start.hi, .slice ae l.es.length cape]] w fun v _ => v = l.readyV := by
  have hF := wide_wide
  refine Ct_start (args := [_]) Try.func35 (by rfl) Try.ntmps35 (by rfl) ?_
  refine W_seq ?_
  refine W_region_lit (fun ds => ?_)
  refine WS_new hF (by rfl) (y_box (by rfl)) (fun b1 => ?_)
  refine WS_new hF (by rfl) (y_alloc Try.zeroValue26 (by rfl)) (fun b2 => ?_)
  refine WS_det hF (by rfl) (y_assign (c := .int .i64 _) (by rfl)) ?_
  refine WS_nil ?_
  refine Then_normal ?_
  refine W_seq ?_
  refine W_region_lit (fun ds => ?_)
  refine WS_det hF (by rfl) (y_loadN (by rfl) Try.isAgg46 Try.sizeOf46 (Mem.own (us := [.slice _ _ _, .int .i64 _, .int .i64 _, .int .i64 _, .int .i64 _, .slice _ _ _]) 1 (by rfl) (by rfl)) (by rfl)) ?_
  refine WS_gen hF (by rfl) (y_callL (by rfl) (by rfl) Try.call88 (fun w hw => asked_any l a cap ae cape w hn (hx.st w hw) (he.st w hw))) ?_
  rintro _ Hg ⟨p, rfl, hg1, hg2⟩
  refine WS_det hF (by rfl) (y_move (c := .tuple _) (by rfl)) ?_
  refine WS_det hF (by rfl) (y_extract (c := .pointer _) (by rfl) (by rfl)) ?_
  refine WS_det hF (by rfl) (y_extract (c := .int .i64 _) (by rfl) (by rfl)) ?_
  refine WS_det hF (by rfl) (y_assign (c := .pointer _) (by rfl)) ?_
  refine WS_det hF (by rfl) (y_assign (c := .int .i64 _) (by rfl)) ?_
  refine WS_nil ?_
  refine Then_normal ?_
  refine W_seq ?_
  refine W_seq ?_
  refine W_region_lit (fun ds => ?_)
  refine WS_det hF (by rfl) (y_move (c := .int .i64 _) (by rfl)) ?_
  refine WS_det hF (by rfl) (y_neq (by rfl) (by rfl)) ?_
  refine WS_nil ?_
  refine Then_normal ?_
  refine W_cond (by rfl) (fun c2 => ?_) (fun c2 => ?_)
  ·
    try simp only [Bool.not_eq_true', Bool.not_eq_false', decide_eq_true_eq, decide_eq_false_iff_not, ne_eq, Classical.not_not, Int.not_lt, Int.not_le] at c2
    obtain rfl := hg2 c2
    refine W_seq ?_
    refine W_region_lit (fun ds => ?_)
    refine WS_det hF (by rfl) (y_buildL bd26 (by rfl)) ?_
    refine WS_det hF (by rfl) (y_move (c := .int .i64 _) (by rfl)) ?_
    refine WS_store hF (i := 0) (by rfl) (by rfl) Try.sizeOf26 (by rfl) (by rfl) (by rfl) (by first | decide | exact Nat.le_of_ble_eq_true rfl | simp) ?_
    refine WS_det hF (by rfl) (y_assign (c := .int .i64 _) (by rfl)) ?_
    refine WS_nil ?_
    refine Then_normal ?_
    refine W_ret ?_
    refine Then_ret ?_
    refine Fin_ret [_, .int .i64 _] [] Try.results35 ⟨lvN (by rfl) Try.isAgg26 Try.sizeOf26 (Mem.own (us := [.int .i64 _, .int .i64 _]) 0 (by rfl) (by rfl)) (by rfl), by rfl, trivial⟩ HSub.nil ?_
    show Value.tuple _ = _
    unfold Lg.readyV
    rw [if_neg c2]; rfl
  ·
    try simp only [Bool.not_eq_true', Bool.not_eq_false', decide_eq_true_eq, decide_eq_false_iff_not, ne_eq, Classical.not_not, Int.not_lt, Int.not_le] at c2
    obtain ⟨kb, rfl, bk, g, fb, capf, junk, ab, bb, rfl⟩ := hg1 c2
    have hok := l.ok_of (l.aerr0 c2).1
    have hne := (l.aerr0 c2).2
    have hfull := hok.tk.full_bd
    have hlb := hok.last_bd hne
    have hf0 := hok.tk.foot0
    have hf1 := hok.tk.foot1
    have hup := hok.tk.eight_bd hf0 hf1
    have hfe : 0 ≤ l.tk.up l.tk.foot ∧ l.tk.up l.tk.foot ≤ 100000 := by unfold Tk.up; omega
    refine W_skip ?_
    refine Then_normal ?_
    refine W_seq ?_
    refine W_draw0 hF Trymixed [6] (by decide +kernel) (fun ds => ?_)
    refine P_det (by rfl) (Over_nil (y_move (c := .pointer _) (by rfl))) ?_
    refine P_det (by rfl) (Over_nil (y_callL (by rfl) (by rfl) Try.call89 (fun w hw => last_any kb l w (Kn.own (a := a) (cap := cap) (ae := ae) (cape := cape) (bk := bk) (g := g) (fb := fb) (capf := capf) (junk := junk) (ab := ab) (bb := bb) (by unfold knBlocks; repeat (first | exact List.Sublist.refl _ | exact List.nil_sublist _ | apply List.Sublist.cons_cons | apply List.Sublist.cons)) c2 hx he w hw)))) ?_
    refine P_det (by rfl) (Over_nil (y_move (c := .pointer _) (by rfl))) ?_
    refine P_det (by rfl) (Over_nil (by first | exact y_nilCheck (by rfl) | exact y_nilCheckF (by rfl))) ?_
    refine P_det (by rfl) (Over_nil (y_fieldAddr (by rfl) fa127_0)) ?_
    refine P_det (by rfl) (Over_nil (y_load1 (by rfl) Try.isAgg108 (Mem.own1 0 (by rfl) (by rfl)))) ?_
    refine P_det (by rfl) (Over_nil (by first | exact y_nilCheck (by rfl) | exact y_nilCheckF (by rfl))) ?_
    refine P_det (by rfl) (Over_nil (y_fieldAddr (by rfl) fa119_0)) ?_
    refine P_det (by rfl) (Over_nil (y_load1 (by rfl) Try.isAgg93 (Mem.own1 4 (by rfl) (by rfl)))) ?_
    refine P_det (by rfl) (Over_nil (y_move (c := .pointer _) (by rfl))) ?_
    refine P_det (by rfl) (Over_nil (by first | exact y_nilCheck (by rfl) | exact y_nilCheckF (by rfl))) ?_
    refine P_det (by rfl) (Over_nil (y_fieldAddr (by rfl) fa127_0)) ?_
    refine P_det (by rfl) (Over_nil (y_load1 (by rfl) Try.isAgg108 (Mem.own1 0 (by rfl) (by rfl)))) ?_
    refine P_det (by rfl) (Over_nil (by first | exact y_nilCheck (by rfl) | exact y_nilCheckF (by rfl))) ?_
    refine P_det (by rfl) (Over_nil (y_fieldAddr (by rfl) fa119_0)) ?_
    refine P_det (by rfl) (Over_nil (y_load1 (by rfl) Try.isAgg93 (Mem.own1 4 (by rfl) (by rfl)))) ?_
    refine P_det (by rfl) (Over_nil (by first | exact y_nilCheck (by rfl) | exact y_nilCheckF (by rfl))) ?_
    refine P_det (by rfl) (Over_nil (y_fieldAddr (by rfl) fa98_0)) ?_
    refine P_det (by rfl) (Over_nil (y_fieldAddr (by rfl) fa24_2)) ?_
    refine P_det (by rfl) (Over_nil (y_load1 (by rfl) Try.isAgg3 (Mem.own1 5 (by rfl) (by rfl)))) ?_
    refine P_det (by rfl) (Over_nil (y_callL (by rfl) (by rfl) Try.call94 (fun w hw => up_any g 0 l.tk l.tk.foot w (Gg.own (by repeat (first | exact List.mem_cons_self | apply List.mem_cons_of_mem)) (Tk.ok_iff.2 hok.tk) hx w hw) hf0 hf1))) ?_
    apply P_newS _ (by rfl) (by rfl) (by rfl) (Over_nil (y_alloc Try.zeroValue26 (by rfl)))
    refine P_st 6 0 (by rfl) (by rfl) (by rfl) (by rfl) (by rfl) (Over_nil (st_new (fun _ => by rfl) Try.sizeOf26 (by rfl) (by rfl) (by first | decide | exact Nat.le_of_ble_eq_true rfl | simp))) ?_
    refine P_det (by rfl) (Over_out (by rfl) (Over_nil (y_assign (c := .int .i64 _) (by rfl)))) ?_
    refine PW_end (by rfl) ?_
    refine OverAll_cons (fun w6 l6 => ?_)
    refine OverAll_nil ?_
    rintro ⟨-, h6⟩
    obtain ⟨b3, rfl, rfl⟩ := h6
    refine Then_normal ?_
    refine W_seq ?_
    refine W_region_lit (fun ds => ?_)
    refine WS_det hF (by rfl) (y_fieldAddr (by rfl) fa26_0) ?_
    refine WS_det hF (by rfl) (y_load1 (by rfl) Try.isAgg3 (Mem.own1 0 (by rfl) (by rfl))) ?_
    refine WS_det hF (by rfl) (y_move (c := .int .i64 _) (by rfl)) ?_
    refine WS_det hF (by rfl) (y_sub (by rfl) (by rfl) (by unfold I64; omega)) ?_
    refine WS_det hF (by rfl) (y_max (by rfl) (by rfl)) ?_
    refine WS_det hF (by rfl) (y_fieldAddr (by rfl) fa26_1) ?_
    refine WS_det hF (by rfl) (y_load1 (by rfl) Try.isAgg3 (Mem.own1 0 (by rfl) (by rfl))) ?_
    refine WS_det hF (by rfl) (y_move (c := .int .i64 _) (by rfl)) ?_
    refine WS_det hF (by rfl) (y_sub (by rfl) (by rfl) (by unfold I64; omega)) ?_
    refine WS_det hF (by rfl) (y_max (by rfl) (by rfl)) ?_
    refine WS_det hF (by rfl) (y_buildL bd26_0_1 (by rfl)) ?_
    refine WS_store hF (i := 7) (by rfl) (by rfl) Try.sizeOf26 (by rfl) (by rfl) (by rfl) (by first | decide | exact Nat.le_of_ble_eq_true rfl | simp) ?_
    refine WS_det hF (by rfl) (y_assign (c := .int .i64 _) (by rfl)) ?_
    refine WS_nil ?_
    refine Then_normal ?_
    refine W_ret ?_
    refine Fin_ret [_, .int .i64 _] [] Try.results35 ⟨lvN (by rfl) Try.isAgg26 Try.sizeOf26 (Mem.own (us := [.int .i64 _, .int .i64 _]) 7 (by rfl) (by rfl)) (by rfl), by rfl, trivial⟩ HSub.nil ?_
    show Value.tuple _ = _
    unfold Lg.readyV
    rw [if_pos c2]; rfl
def Lg.roomV (l : Lg) : Value :=
  if l.aerr = 0 then .tuple #[.agg (Sn.sub ⟨l.tk.full, l.tk.full⟩ l.last).cells.toArray, .int .i64 0] else .tuple #[.agg Sn.z.cells.toArray, .int .i64 l.aerr]
theorem room_any (l : Lg) (a : Option Addr) (cap : Nat) (ae : Option Addr) (cape : Nat) (w : World) (hn : l.tk.n ≤ 1000000) (hx : Ints w a l.tk.n cap l.tk.pints) (he : Ens w ae l.es.length cape l.es) : Ct Try.prog 37 #[.agg #[.slice a l.tk.n cap, .int .i64 l.tk.leak, .int .i64 l.tk.foot, .int .i64 l.start.lo, .int .i64 l.start.hi, .slice ae l.es.length cape]] w fun v _ => v = l.roomV := by
  have hF := wide_wide
  refine Ct_start (args := [_]) Try.func37 (by rfl) Try.ntmps37 (by rfl) ?_
  refine W_seq ?_
  refine W_region_lit (fun ds => ?_)
  refine WS_new hF (by rfl) (y_box (by rfl)) (fun b1 => ?_)
  refine WS_new hF (by rfl) (y_alloc Try.zeroValue26 (by rfl)) (fun b2 => ?_)
  refine WS_det hF (by rfl) (y_assign (c := .int .i64 _) (by rfl)) ?_
  refine WS_nil ?_
  refine Then_normal ?_
  refine W_seq ?_
  refine W_region_lit (fun ds => ?_)
  refine WS_det hF (by rfl) (y_loadN (by rfl) Try.isAgg46 Try.sizeOf46 (Mem.own (us := [.slice _ _ _, .int .i64 _, .int .i64 _, .int .i64 _, .int .i64 _, .slice _ _ _]) 1 (by rfl) (by rfl)) (by rfl)) ?_
  refine WS_gen hF (by rfl) (y_callL (by rfl) (by rfl) Try.call88 (fun w hw => asked_any l a cap ae cape w hn (hx.st w hw) (he.st w hw))) ?_
  rintro _ Hg ⟨p, rfl, hg1, hg2⟩
  refine WS_det hF (by rfl) (y_move (c := .tuple _) (by rfl)) ?_
  refine WS_det hF (by rfl) (y_extract (c := .pointer _) (by rfl) (by rfl)) ?_
  refine WS_det hF (by rfl) (y_extract (c := .int .i64 _) (by rfl) (by rfl)) ?_
  refine WS_det hF (by rfl) (y_assign (c := .pointer _) (by rfl)) ?_
  refine WS_det hF (by rfl) (y_assign (c := .int .i64 _) (by rfl)) ?_
  refine WS_nil ?_
  refine Then_normal ?_
  refine W_seq ?_
  refine W_seq ?_
  refine W_region_lit (fun ds => ?_)
  refine WS_det hF (by rfl) (y_move (c := .int .i64 _) (by rfl)) ?_
  refine WS_det hF (by rfl) (y_neq (by rfl) (by rfl)) ?_
  refine WS_nil ?_
  refine Then_normal ?_
  refine W_cond (by rfl) (fun c2 => ?_) (fun c2 => ?_)
  ·
    try simp only [Bool.not_eq_true', Bool.not_eq_false', decide_eq_true_eq, decide_eq_false_iff_not, ne_eq, Classical.not_not, Int.not_lt, Int.not_le] at c2
    obtain rfl := hg2 c2
    refine W_seq ?_
    refine W_region_lit (fun ds => ?_)
    refine WS_det hF (by rfl) (y_buildL bd26 (by rfl)) ?_
    refine WS_det hF (by rfl) (y_move (c := .int .i64 _) (by rfl)) ?_
    refine WS_store hF (i := 0) (by rfl) (by rfl) Try.sizeOf26 (by rfl) (by rfl) (by rfl) (by first | decide | exact Nat.le_of_ble_eq_true rfl | simp) ?_
    refine WS_det hF (by rfl) (y_assign (c := .int .i64 _) (by rfl)) ?_
    refine WS_nil ?_
    refine Then_normal ?_
    refine W_ret ?_
    refine Then_ret ?_
    refine Fin_ret [_, .int .i64 _] [] Try.results37 ⟨lvN (by rfl) Try.isAgg26 Try.sizeOf26 (Mem.own (us := [.int .i64 _, .int .i64 _]) 0 (by rfl) (by rfl)) (by rfl), by rfl, trivial⟩ HSub.nil ?_
    show Value.tuple _ = _
    unfold Lg.roomV
    rw [if_neg c2]; rfl
  ·
    try simp only [Bool.not_eq_true', Bool.not_eq_false', decide_eq_true_eq, decide_eq_false_iff_not, ne_eq, Classical.not_not, Int.not_lt, Int.not_le] at c2
    obtain ⟨kb, rfl, bk, g, fb, capf, junk, ab, bb, rfl⟩ := hg1 c2
    have hok := l.ok_of (l.aerr0 c2).1
    have hne := (l.aerr0 c2).2
    have hfull := hok.tk.full_bd
    have hlb := hok.last_bd hne
    refine W_skip ?_
    refine Then_normal ?_
    refine W_seq ?_
    apply W_draw1 hF Trymixed [1000000] (i := 6) (by rfl) (by decide +kernel)
    intro ds
    refine P_det (by rfl) (Over_out (by rfl) (Over_nil (y_move (c := .pointer _) (by rfl)))) ?_
    refine P_det (by rfl) (Over_out (by rfl) (Over_nil (by first | exact y_nilCheck (by rfl) | exact y_nilCheckF (by rfl)))) ?_
    refine P_det (by rfl) (Over_out (by rfl) (Over_nil (y_fieldAddr (by rfl) fa127_0))) ?_
    refine P_det (by rfl) (Over_out (by rfl) (Over_nil (y_load1 (by rfl) Try.isAgg108 (Mem.own1 0 (by rfl) (by rfl))))) ?_
    refine P_det (by rfl) (Over_out (by rfl) (Over_nil (by first | exact y_nilCheck (by rfl) | exact y_nilCheckF (by rfl)))) ?_
    refine P_det (by rfl) (Over_out (by rfl) (Over_nil (y_fieldAddr (by rfl) fa119_0))) ?_
    refine P_det (by rfl) (Over_out (by rfl) (Over_nil (y_load1 (by rfl) Try.isAgg93 (Mem.own1 4 (by rfl) (by rfl))))) ?_
    refine P_det (by rfl) (Over_out (by rfl) (Over_nil (by first | exact y_nilCheck (by rfl) | exact y_nilCheckF (by rfl)))) ?_
    refine P_det (by rfl) (Over_out (by rfl) (Over_nil (y_fieldAddr (by rfl) fa98_1))) ?_
    refine P_det (by rfl) (Over_out (by rfl) (Over_nil (y_load1 (by rfl) Try.isAgg3 (Mem.own1 5 (by rfl) (by rfl))))) ?_
    refine P_det (by rfl) (Over_out (by rfl) (Over_nil (y_move (c := .pointer _) (by rfl)))) ?_
    refine P_det (by rfl) (Over_out (by rfl) (Over_nil (by first | exact y_nilCheck (by rfl) | exact y_nilCheckF (by rfl)))) ?_
    refine P_det (by rfl) (Over_out (by rfl) (Over_nil (y_fieldAddr (by rfl) fa127_0))) ?_
    refine P_det (by rfl) (Over_out (by rfl) (Over_nil (y_load1 (by rfl) Try.isAgg108 (Mem.own1 0 (by rfl) (by rfl))))) ?_
    refine P_det (by rfl) (Over_out (by rfl) (Over_nil (by first | exact y_nilCheck (by rfl) | exact y_nilCheckF (by rfl)))) ?_
    refine P_det (by rfl) (Over_out (by rfl) (Over_nil (y_fieldAddr (by rfl) fa119_0))) ?_
    refine P_det (by rfl) (Over_out (by rfl) (Over_nil (y_load1 (by rfl) Try.isAgg93 (Mem.own1 4 (by rfl) (by rfl))))) ?_
    refine P_det (by rfl) (Over_out (by rfl) (Over_nil (by first | exact y_nilCheck (by rfl) | exact y_nilCheckF (by rfl)))) ?_
    refine P_det (by rfl) (Over_out (by rfl) (Over_nil (y_fieldAddr (by rfl) fa98_1))) ?_
    refine P_det (by rfl) (Over_out (by rfl) (Over_nil (y_load1 (by rfl) Try.isAgg3 (Mem.own1 5 (by rfl) (by rfl))))) ?_
    refine P_det (by rfl) (Over_out (by rfl) (Over_nil (y_buildL bd26_0_1 (by rfl)))) ?_
    refine P_det (by rfl) (Over_out (by rfl) (Over_nil (y_move (c := .pointer _) (by rfl)))) ?_
    refine P_det (by rfl) (Over_out (by rfl) (Over_nil (y_callL (by rfl) (by rfl) Try.call89 (fun w hw => last_any kb l w (Kn.own (a := a) (cap := cap) (ae := ae) (cape := cape) (bk := bk) (g := g) (fb := fb) (capf := capf) (junk := junk) (ab := ab) (bb := bb) (by unfold knBlocks; repeat (first | exact List.Sublist.refl _ | exact List.nil_sublist _ | apply List.Sublist.cons_cons | apply List.Sublist.cons)) c2 hx he w hw))))) ?_
    refine P_det (by rfl) (Over_out (by rfl) (Over_nil (y_callL (by rfl) (by rfl) Try.call96 (fun w hw => change_any ⟨l.tk.full, l.tk.full⟩ l.last w (by unfold Sn.Sm; simp only; omega) (by unfold Sn.Sm; omega))))) ?_
    refine P_st 1000000 0 (by rfl) (by rfl) (by rfl) (by rfl) (by rfl) (Over_nil (st_pre (fun _ => by rfl) (fun _ => by rfl) Try.sizeOf26 (by rfl) (by rfl) (by first | decide | exact Nat.le_of_ble_eq_true rfl | simp))) ?_
    refine P_det (by rfl) (Over_out (by rfl) (Over_nil (y_assign (c := .int .i64 _) (by rfl)))) ?_
    refine PW_end (by rfl) ?_
    refine OverAll_cons (fun w1000000 l1000000 => ?_)
    refine OverAll_nil ?_
    rintro ⟨-, h1000000⟩
    obtain rfl := h1000000
    refine Then_normal ?_
    refine W_ret ?_
    refine Fin_ret [_, .int .i64 _] [] Try.results37 ⟨lvN (by rfl) Try.isAgg26 Try.sizeOf26 (Mem.own (us := [.int .i64 _, .int .i64 _]) 0 (by rfl) (by rfl)) (by rfl), by rfl, trivial⟩ HSub.nil ?_
    show Value.tuple _ = _
    unfold Lg.roomV
    rw [if_pos c2]; rfl
end Go.Proofs.Ythkimgfgpphgnaa.T

/- The dip that tells most: the walk. -/
namespace Go.Proofs.Ythkimgfgpphgnaa.T
open Go.RowKit Go.Proofs Go.Eng
set_option maxRecDepth 100000
set_option linter.unusedVariables false
set_option linter.unusedSimpArgs false



def cmpI (x y : Int) : Int := if x < y then -1 else if y < x then 1 else 0
theorem compare_any (x y : Int) (w : World) : Ct Try.prog 101 #[.int .i64 x, .int .i64 y] w fun v _ => v = .int .i64 (cmpI x y) := by
  have hF := wide_wide
  refine Ct_start (args := [_, _]) Try.func101 (by rfl) Try.ntmps101 (by rfl) ?_
  refine W_seq ?_
  refine W_region_lit (fun ds => ?_)
  refine WS_det hF (by rfl) (y_assign (c := .int .i64 _) (by rfl)) ?_
  refine WS_nil ?_
  refine Then_normal ?_
  refine W_seq ?_
  refine W_region_lit (fun ds => ?_)
  refine WS_det hF (by rfl) (y_move (c := .int .i64 _) (by rfl)) ?_
  refine WS_det hF (by rfl) (y_callL (by rfl) (by rfl) Try.call129 (fun w hw => cnan_any _ w)) ?_
  refine WS_det hF (by rfl) (y_assign (c := .bool _) (by rfl)) ?_
  refine WS_nil ?_
  refine Then_normal ?_
  refine W_seq ?_
  refine W_region_lit (fun ds => ?_)
  refine WS_det hF (by rfl) (y_move (c := .int .i64 _) (by rfl)) ?_
  refine WS_det hF (by rfl) (y_callL (by rfl) (by rfl) Try.call129 (fun w hw => cnan_any _ w)) ?_
  refine WS_det hF (by rfl) (y_assign (c := .bool _) (by rfl)) ?_
  refine WS_nil ?_
  refine Then_normal ?_
  refine W_seq ?_
  refine W_seq ?_
  refine W_region_lit (fun ds => ?_)
  refine WS_det hF (by rfl) (y_move (c := .bool _) (by rfl)) ?_
  refine WS_nil ?_
  refine Then_normal ?_
  refine W_cond (by rfl) (fun c3 => ?_) (fun c3 => ?_)
  · cases c3
  ·
    try simp only [Bool.not_eq_true', Bool.not_eq_false', decide_eq_true_eq, decide_eq_false_iff_not, ne_eq, Classical.not_not, Int.not_lt, Int.not_le] at c3
    refine W_skip ?_
    refine Then_normal ?_
    refine W_seq ?_
    refine W_seq ?_
    refine W_region_lit (fun ds => ?_)
    refine WS_det hF (by rfl) (y_move (c := .bool _) (by rfl)) ?_
    refine WS_nil ?_
    refine Then_normal ?_
    refine W_cond (by rfl) (fun c7 => ?_) (fun c7 => ?_)
    · cases c7
    ·
      try simp only [Bool.not_eq_true', Bool.not_eq_false', decide_eq_true_eq, decide_eq_false_iff_not, ne_eq, Classical.not_not, Int.not_lt, Int.not_le] at c7
      refine W_skip ?_
      refine Then_normal ?_
      refine W_seq ?_
      refine W_seq ?_
      refine W_region_lit (fun ds => ?_)
      refine WS_det hF (by rfl) (y_move (c := .int .i64 _) (by rfl)) ?_
      refine WS_det hF (by rfl) (y_move (c := .int .i64 _) (by rfl)) ?_
      refine WS_det hF (by rfl) (y_lss (by rfl) (by rfl)) ?_
      refine WS_nil ?_
      refine Then_normal ?_
      refine W_cond (by rfl) (fun c9 => ?_) (fun c9 => ?_)
      ·
        try simp only [Bool.not_eq_true', Bool.not_eq_false', decide_eq_true_eq, decide_eq_false_iff_not, ne_eq, Classical.not_not, Int.not_lt, Int.not_le] at c9
        refine W_seq ?_
        refine W_region_lit (fun ds => ?_)
        refine WS_det hF (by rfl) (y_assign (c := .int .i64 _) (by rfl)) ?_
        refine WS_nil ?_
        refine Then_normal ?_
        refine W_ret ?_
        refine Then_ret ?_
        refine Fin_ret [.int .i64 _] [] Try.results101 ⟨by rfl, trivial⟩ HSub.nil ?_
        show Value.int _ _ = _
        unfold cmpI
        rw [if_pos (by omega)]
      ·
        try simp only [Bool.not_eq_true', Bool.not_eq_false', decide_eq_true_eq, decide_eq_false_iff_not, ne_eq, Classical.not_not, Int.not_lt, Int.not_le] at c9
        refine W_skip ?_
        refine Then_normal ?_
        refine W_seq ?_
        refine W_seq ?_
        refine W_region_lit (fun ds => ?_)
        refine WS_det hF (by rfl) (y_move (c := .int .i64 _) (by rfl)) ?_
        refine WS_det hF (by rfl) (y_move (c := .int .i64 _) (by rfl)) ?_
        refine WS_det hF (by rfl) (y_gtr (by rfl) (by rfl)) ?_
        refine WS_nil ?_
        refine Then_normal ?_
        refine W_cond (by rfl) (fun c11 => ?_) (fun c11 => ?_)
        ·
          try simp only [Bool.not_eq_true', Bool.not_eq_false', decide_eq_true_eq, decide_eq_false_iff_not, ne_eq, Classical.not_not, Int.not_lt, Int.not_le] at c11
          refine W_seq ?_
          refine W_region_lit (fun ds => ?_)
          refine WS_det hF (by rfl) (y_assign (c := .int .i64 _) (by rfl)) ?_
          refine WS_nil ?_
          refine Then_normal ?_
          refine W_ret ?_
          refine Then_ret ?_
          refine Fin_ret [.int .i64 _] [] Try.results101 ⟨by rfl, trivial⟩ HSub.nil ?_
          show Value.int _ _ = _
          unfold cmpI
          rw [if_neg (by omega), if_pos (by omega)]
        ·
          try simp only [Bool.not_eq_true', Bool.not_eq_false', decide_eq_true_eq, decide_eq_false_iff_not, ne_eq, Classical.not_not, Int.not_lt, Int.not_le] at c11
          refine W_skip ?_
          refine Then_normal ?_
          refine W_seq ?_
          refine W_region_lit (fun ds => ?_)
          refine WS_det hF (by rfl) (y_assign (c := .int .i64 _) (by rfl)) ?_
          refine WS_nil ?_
          refine Then_normal ?_
          refine W_ret ?_
          refine Fin_ret [.int .i64 _] [] Try.results101 ⟨by rfl, trivial⟩ HSub.nil ?_
          show Value.int _ _ = _
          unfold cmpI
          rw [if_neg (by omega), if_neg (by omega)]
def worstS (t : Tk) (s : Sn) (i : Int) : Int := max (min (max 0 (t.up i - s.lo)) (s.hi - s.lo + 1)) (s.hi - s.lo + 1 - min (max 0 (t.up i - s.lo)) (s.hi - s.lo + 1))
def Lg.worst (l : Lg) (i : Int) : Int := worstS l.tk l.last i
/-- The first index of the least value. -/
def bestN (f : Nat → Int) : Nat → Nat
  | 0 => 0
  | k + 1 => if f k < f (bestN f k) then k else bestN f k
theorem bestN_le (f : Nat → Int) : ∀ k, bestN f k ≤ k
  | 0 => Nat.le_refl _
  | k + 1 => by
    have := bestN_le f k
    unfold bestN
    split <;> omega
theorem bestN_lt (f : Nat → Int) : ∀ k, 0 < k → bestN f k < k
  | 0, h => by omega
  | k + 1, h => by
    have := bestN_le f k
    unfold bestN
    split <;> omega
/-- What the closures of Ask see. -/
structure Wo (w : World) (b5 b6 b7 kb : Nat) (l : Lg) : Prop where
  k : At w b5 0 [.pointer (some ⟨kb, 0, none⟩)]
  s : At w b6 0 l.last.cells
  f : At w b7 0 [.func (.func 97) #[] #[.pointer (some ⟨b5, 0, none⟩), .pointer (some ⟨b6, 0, none⟩)]]
  kn : Kn w kb l
theorem Wo.st {C : Ctx} {H : List Blk} {b5 b6 b7 kb : Nat} {l : Lg} (h : Wo C.w0 b5 b6 b7 kb l) (w : World) (hw : St C H w) : Wo w b5 b6 b7 kb l := ⟨At.old hw.1 h.k, At.old hw.1 h.s, At.old hw.1 h.f, h.kn.st w hw⟩

theorem ask1_any (b5 b6 b7 kb : Nat) (l : Lg) (i : Int) (w : World) (hW : Wo w b5 b6 b7 kb l) (h0 : 0 ≤ i) (h1 : i ≤ l.tk.height) :
    Ct Try.prog 97 #[.int .i64 i, .pointer (some ⟨b5, 0, none⟩), .pointer (some ⟨b6, 0, none⟩)] w fun v _ => v = .int .i64 (l.worst i) := by
  obtain ⟨k1, k2, _, hok, hne, bk, fb, capf, ab, bb, k3, _, _, _, _, g, a, cap, ae, cape, k4, hG, _⟩ := hW
  have hlb := hok.last_bd hne
  have hfull := hok.tk.full_bd
  have he := hok.tk.eight_bd h0 h1
  have hue : 0 ≤ l.tk.up i ∧ l.tk.up i ≤ 100000 := by unfold Tk.up; omega
  have hF := wide_wide
  refine Ct_start (args := [_, _, _]) Try.func97 (by rfl) Try.ntmps97 (by rfl) ?_
  refine W_seq ?_
  refine W_region_lit (fun ds => ?_)
  refine WS_det hF (by rfl) (y_assign (c := .int .i64 _) (by rfl)) ?_
  refine WS_nil ?_
  refine Then_normal ?_
  refine W_seq ?_
  refine W_draw0 hF Trymixed [] (by decide +kernel) (fun ds => ?_)
  refine P_det (by rfl) (Over_nil (y_load1 (by rfl) Try.isAgg123 (by first | exact Mem.old1 (by assumption) | exact Mem.oldAt1 (by assumption) (by rfl) | exact Mem.old (by assumption) | exact Mem.oldAtL1 (by assumption) (by rfl) (by rfl)))) ?_
  refine P_det (by rfl) (Over_nil (by first | exact y_nilCheck (by rfl) | exact y_nilCheckF (by rfl))) ?_
  refine P_det (by rfl) (Over_nil (y_fieldAddr (by rfl) fa127_0)) ?_
  refine P_det (by rfl) (Over_nil (y_load1 (by rfl) Try.isAgg108 (by first | exact Mem.old1 (by assumption) | exact Mem.oldAt1 (by assumption) (by rfl) | exact Mem.old (by assumption) | exact Mem.oldAtL1 (by assumption) (by rfl) (by rfl)))) ?_
  refine P_det (by rfl) (Over_nil (by first | exact y_nilCheck (by rfl) | exact y_nilCheckF (by rfl))) ?_
  refine P_det (by rfl) (Over_nil (y_fieldAddr (by rfl) fa119_0)) ?_
  refine P_det (by rfl) (Over_nil (y_load1 (by rfl) Try.isAgg93 (by first | exact Mem.old1 (by assumption) | exact Mem.oldAt1 (by assumption) (by rfl) | exact Mem.old (by assumption) | exact Mem.oldAtL1 (by assumption) (by rfl) (by rfl)))) ?_
  refine P_det (by rfl) (Over_nil (y_move (c := .int .i64 _) (by rfl))) ?_
  refine P_det (by rfl) (Over_nil (y_callL (by rfl) (by rfl) Try.call94 (fun w hw => up_any g 0 l.tk i w (hG.st w hw) h0 h1))) ?_
  refine P_det (by rfl) (Over_nil (y_fieldAddr (by rfl) fa26_0)) ?_
  refine P_det (by rfl) (Over_nil (y_load1 (by rfl) Try.isAgg3 (by first | exact Mem.old1 (by assumption) | exact Mem.oldAt1 (by assumption) (by rfl) | exact Mem.old (by assumption) | exact Mem.oldAtL1 (by assumption) (by rfl) (by rfl)))) ?_
  refine P_det (by rfl) (Over_nil (y_sub (by rfl) (by rfl) (by unfold I64; omega))) ?_
  refine P_det (by rfl) (Over_nil (y_max (by rfl) (by rfl))) ?_
  refine P_det (by rfl) (Over_nil (y_fieldAddr (by rfl) fa26_1)) ?_
  refine P_det (by rfl) (Over_nil (y_load1 (by rfl) Try.isAgg3 (by first | exact Mem.old1 (by assumption) | exact Mem.oldAt1 (by assumption) (by rfl) | exact Mem.old (by assumption) | exact Mem.oldAtL1 (by assumption) (by rfl) (by rfl)))) ?_
  refine P_det (by rfl) (Over_nil (y_fieldAddr (by rfl) fa26_0)) ?_
  refine P_det (by rfl) (Over_nil (y_load1 (by rfl) Try.isAgg3 (by first | exact Mem.old1 (by assumption) | exact Mem.oldAt1 (by assumption) (by rfl) | exact Mem.old (by assumption) | exact Mem.oldAtL1 (by assumption) (by rfl) (by rfl)))) ?_
  refine P_det (by rfl) (Over_nil (y_sub (by rfl) (by rfl) (by unfold I64; omega))) ?_
  refine P_det (by rfl) (Over_nil (y_add (by rfl) (by rfl) (by unfold I64; omega))) ?_
  refine P_det (by rfl) (Over_nil (y_min (by rfl) (by rfl))) ?_
  refine P_det (by rfl) (Over_nil (y_assign (c := .int .i64 _) (by rfl))) ?_
  refine PW_end (by rfl) ?_
  refine OverAll_nil ?_
  rintro -
  refine Then_normal ?_
  refine W_seq ?_
  refine W_region_lit (fun ds => ?_)
  refine WS_det hF (by rfl) (y_move (c := .int .i64 _) (by rfl)) ?_
  refine WS_det hF (by rfl) (y_fieldAddr (by rfl) fa26_1) ?_
  refine WS_det hF (by rfl) (y_load1 (by rfl) Try.isAgg3 (by first | exact Mem.old1 (by assumption) | exact Mem.oldAt1 (by assumption) (by rfl) | exact Mem.old (by assumption) | exact Mem.oldAtL1 (by assumption) (by rfl) (by rfl))) ?_
  refine WS_det hF (by rfl) (y_fieldAddr (by rfl) fa26_0) ?_
  refine WS_det hF (by rfl) (y_load1 (by rfl) Try.isAgg3 (by first | exact Mem.old1 (by assumption) | exact Mem.oldAt1 (by assumption) (by rfl) | exact Mem.old (by assumption) | exact Mem.oldAtL1 (by assumption) (by rfl) (by rfl))) ?_
  refine WS_det hF (by rfl) (y_sub (by rfl) (by rfl) (by unfold I64; omega)) ?_
  refine WS_det hF (by rfl) (y_add (by rfl) (by rfl) (by unfold I64; omega)) ?_
  refine WS_det hF (by rfl) (y_move (c := .int .i64 _) (by rfl)) ?_
  refine WS_det hF (by rfl) (y_sub (by rfl) (by rfl) (by unfold I64; omega)) ?_
  refine WS_det hF (by rfl) (y_max (by rfl) (by rfl)) ?_
  refine WS_det hF (by rfl) (y_assign (c := .int .i64 _) (by rfl)) ?_
  refine WS_nil ?_
  refine Then_normal ?_
  refine W_ret ?_
  refine Fin_ret [.int .i64 _] [] Try.results97 ⟨by rfl, trivial⟩ HSub.nil ?_
  rfl
theorem ask3_any (b5 b6 b7 kb : Nat) (l : Lg) (x y : Int) (w : World) (hW : Wo w b5 b6 b7 kb l) (h0 : 0 ≤ x) (h1 : x ≤ l.tk.height) (h2 : 0 ≤ y) (h3 : y ≤ l.tk.height) :
    Ct Try.prog 100 #[.int .i64 x, .int .i64 y, .pointer (some ⟨b7, 0, none⟩)] w fun v _ => v = .int .i64 (cmpI (l.worst x) (l.worst y)) := by
  have hW0 := hW
  obtain ⟨_, _, k3, _⟩ := hW
  have hF := wide_wide
  refine Ct_start (args := [_, _, _]) Try.func100 (by rfl) Try.ntmps100 (by rfl) ?_
  refine W_seq ?_
  refine W_region_lit (fun ds => ?_)
  refine WS_det hF (by rfl) (y_assign (c := .int .i64 _) (by rfl)) ?_
  refine WS_nil ?_
  refine Then_normal ?_
  refine W_seq ?_
  refine W_draw0 hF Trymixed [] (by decide +kernel) (fun ds => ?_)
  refine P_det (by rfl) (Over_nil (y_load1 (by rfl) Try.isAgg99 (by first | exact Mem.old1 (by assumption) | exact Mem.oldAt1 (by assumption) (by rfl) | exact Mem.old (by assumption) | exact Mem.oldAtL1 (by assumption) (by rfl) (by rfl)))) ?_
  refine P_det (by rfl) (Over_nil (y_move (c := .int .i64 _) (by rfl))) ?_
  refine P_det (by rfl) (Over_nil (y_callL (by rfl) (by rfl) Try.call97 (fun w hw => ask1_any b5 b6 b7 kb l x w (hW0.st w hw) h0 h1))) ?_
  refine P_det (by rfl) (Over_nil (y_load1 (by rfl) Try.isAgg99 (by first | exact Mem.old1 (by assumption) | exact Mem.oldAt1 (by assumption) (by rfl) | exact Mem.old (by assumption) | exact Mem.oldAtL1 (by assumption) (by rfl) (by rfl)))) ?_
  refine P_det (by rfl) (Over_nil (y_move (c := .int .i64 _) (by rfl))) ?_
  refine P_det (by rfl) (Over_nil (y_callL (by rfl) (by rfl) Try.call97 (fun w hw => ask1_any b5 b6 b7 kb l y w (hW0.st w hw) h2 h3))) ?_
  refine P_det (by rfl) (Over_nil (y_callL (by rfl) (by rfl) Try.call101 (fun w hw => compare_any _ _ w))) ?_
  refine P_det (by rfl) (Over_nil (y_assign (c := .int .i64 _) (by rfl))) ?_
  refine PW_end (by rfl) ?_
  refine OverAll_nil ?_
  rintro -
  refine Then_normal ?_
  refine W_ret ?_
  refine Fin_ret [.int .i64 _] [] Try.results100 ⟨by rfl, trivial⟩ HSub.nil ?_
  rfl
theorem ask2_it (w0 : World) (ds0 out0 : List Deferred) (b5 b6 b7 kb : Nat) (l : Lg) (hW : Wo w0 b5 b6 b7 kb l) :
    It ⟨Try.prog, w0, ds0, out0⟩ 99 [.pointer (some ⟨b5, 0, none⟩)] (fun k => [.int .i64 (k : Int)]) (8 * (l.tk.n - 1) + 1) [] := by
  intro lp J Jx hY G hJ
  obtain ⟨k1, _, _, hok, hne, bk, fb, capf, ab, bb, k3, _, _, _, _, g, a, cap, ae, cape, k4, ⟨_, a2, cap2, hg, _⟩, _⟩ := hW
  have hn2 := hok.tk.n2
  have hn21 := hok.tk.n21
  have hh : l.tk.height = 8 * ((l.tk.n : Int) - 1) := rfl
  have hF := wide_wide
  refine Cs_start (args := [_, _]) Try.func99 (by rfl) Try.ntmps99 (by rfl) ?_
  refine W_seq ?_
  refine W_region_lit (fun ds => ?_)
  refine WS_det hF (by rfl) (y_load1 (by rfl) Try.isAgg123 (by first | exact Mem.old1 (by assumption) | exact Mem.oldAt1 (by assumption) (by rfl) | exact Mem.old (by assumption) | exact Mem.oldAtL1 (by assumption) (by rfl) (by rfl))) ?_
  refine WS_det hF (by rfl) (by first | exact y_nilCheck (by rfl) | exact y_nilCheckF (by rfl)) ?_
  refine WS_det hF (by rfl) (y_fieldAddr (by rfl) fa127_0) ?_
  refine WS_det hF (by rfl) (y_load1 (by rfl) Try.isAgg108 (by first | exact Mem.old1 (by assumption) | exact Mem.oldAt1 (by assumption) (by rfl) | exact Mem.old (by assumption) | exact Mem.oldAtL1 (by assumption) (by rfl) (by rfl))) ?_
  refine WS_det hF (by rfl) (by first | exact y_nilCheck (by rfl) | exact y_nilCheckF (by rfl)) ?_
  refine WS_det hF (by rfl) (y_fieldAddr (by rfl) fa119_0) ?_
  refine WS_det hF (by rfl) (y_load1 (by rfl) Try.isAgg93 (by first | exact Mem.old1 (by assumption) | exact Mem.oldAt1 (by assumption) (by rfl) | exact Mem.old (by assumption) | exact Mem.oldAtL1 (by assumption) (by rfl) (by rfl))) ?_
  refine WS_det hF (by rfl) (by first | exact y_nilCheck (by rfl) | exact y_nilCheckF (by rfl)) ?_
  refine WS_det hF (by rfl) (y_fieldAddr (by rfl) fa98_2) ?_
  refine WS_det hF (by rfl) (y_load1 (by rfl) Try.isAgg3 (by first | exact Mem.old1 (by assumption) | exact Mem.oldAt1 (by assumption) (by rfl) | exact Mem.old (by assumption) | exact Mem.oldAtL1 (by assumption) (by rfl) (by rfl))) ?_
  refine WS_det hF (by rfl) (y_add (by rfl) (by rfl) (by unfold I64; omega)) ?_
  refine WS_det hF (by rfl) (y_move (c := .int .i64 _) (by rfl)) ?_
  refine WS_nil ?_
  refine Then_normal ?_
  refine W_block ?_
  refine W_loop (γ := Nat × List Blk) (fun p => p.1 ≤ 8 * (l.tk.n - 1) + 1 ∧ J p.1 p.2) (fun p => [(0, .func (.yield lp) #[] #[]), (14, .int .i64 (l.tk.height + 1)), (15, .int .i64 (p.1 : Int))]) (fun p => p.2) (fun p => 8 * (l.tk.n - 1) + 1 - p.1) ((0, G)) ⟨Nat.zero_le _, hJ⟩ (by repeat (first | exact trivial | refine ⟨by rfl, ?_⟩)) (List.Sublist.refl _) ?_
  rintro ⟨k, G2⟩ e ⟨hk, hj2⟩
  refine W_seq ?_
  refine W_region_lit (fun ds => ?_)
  refine WS_det hF (by rfl) (y_lss (by rfl) (by rfl)) ?_
  refine WS_nil ?_
  refine Then_normal ?_
  refine W_seq ?_
  refine W_cond (by rfl) (fun c1 => ?_) (fun c1 => ?_)
  ·
    try simp only [Bool.not_eq_true', Bool.not_eq_false', decide_eq_true_eq, decide_eq_false_iff_not, ne_eq, Classical.not_not, Int.not_lt, Int.not_le] at c1
    refine W_skip ?_
    refine Then_normal ?_
    refine W_seq ?_
    refine W_block ?_
    refine W_seq ?_
    refine W_region_lit (fun ds => ?_)
    refine WS_det hF (by rfl) (y_move (c := .int .i64 _) (by rfl)) ?_
    refine WS_det hF (by rfl) (y_assign (c := .int .i64 _) (by rfl)) ?_
    refine WS_nil ?_
    refine Then_normal ?_
    refine W_seq ?_
    refine W_region_lit (fun ds => ?_)
    refine WS_det hF (by rfl) (y_move (c := _) (by rfl)) ?_
    refine WS_det hF (by rfl) (y_move (c := .int .i64 _) (by rfl)) ?_
    refine WS_yield (by rfl) (by rfl) (by rfl) (hY k (by omega) ds [] G2 hj2) ?_
    rintro yb G3 ⟨G4, hGe, hb⟩
    replace hGe : G3 = G4 := hGe
    subst hGe
    refine WS_det hF (by rfl) (y_not (by rfl)) ?_
    refine WS_nil ?_
    refine Then_normal ?_
    refine W_cond (by rfl) (fun c3 => ?_) (fun c3 => ?_)
    ·
      try simp only [Bool.not_eq_true', Bool.not_eq_false', decide_eq_true_eq, decide_eq_false_iff_not, ne_eq, Classical.not_not, Int.not_lt, Int.not_le] at c3
      obtain ⟨rfl, hj3⟩ | ⟨_, hj3⟩ := hb
      · cases c3
      refine W_ret ?_
      refine InB_ret ?_
      refine Then_ret ?_
      refine Loop_ret ?_
      refine InB_ret ?_
      refine Fin_ret [] G3 Try.results99 trivial HSub.refl ?_
      exact ⟨G3, rfl, .inr ⟨k, by omega, hj3⟩⟩
    ·
      try simp only [Bool.not_eq_true', Bool.not_eq_false', decide_eq_true_eq, decide_eq_false_iff_not, ne_eq, Classical.not_not, Int.not_lt, Int.not_le] at c3
      obtain ⟨_, hj3⟩ | ⟨rfl, hj3⟩ := hb
      case inr => cases c3
      refine W_skip ?_
      refine InB_normal ?_
      refine Then_normal ?_
      refine W_region_lit (fun ds => ?_)
      refine WS_det hF (by rfl) (y_add (by rfl) (by rfl) (by unfold I64; omega)) ?_
      refine WS_det hF (by rfl) (y_move (c := .int .i64 _) (by rfl)) ?_
      refine WS_nil ?_
      exact Loop_next (k + 1, G3) ⟨by omega, hj3⟩ (by repeat (first | exact trivial | refine ⟨by rfl, ?_⟩)) (by repeat (first | exact List.Sublist.refl _ | exact List.nil_sublist _ | apply List.Sublist.cons_cons | apply List.Sublist.cons)) (by simp only; omega)
  ·
    try simp only [Bool.not_eq_true', Bool.not_eq_false', decide_eq_true_eq, decide_eq_false_iff_not, ne_eq, Classical.not_not, Int.not_lt, Int.not_le] at c1
    refine W_exit ?_
    refine Then_exit ?_
    refine Loop_exit ?_
    refine InB_same ?_
    refine Fin_norm [] G2 Try.results99 trivial HSub.refl ?_
    obtain rfl : k = 8 * (l.tk.n - 1) + 1 := by omega
    exact ⟨G2, rfl, .inl hj2⟩
end Go.Proofs.Ythkimgfgpphgnaa.T

/- The dip that tells most: first, and Ask. -/
namespace Go.Proofs.Ythkimgfgpphgnaa.T
open Go.RowKit Go.Proofs Go.Eng
set_option maxRecDepth 100000
set_option linter.unusedVariables false
set_option linter.unusedSimpArgs false



theorem cmpI_neg {x y : Int} : cmpI x y < 0 ↔ x < y := by unfold cmpI; split <;> (try split) <;> omega
def Lg.wN (l : Lg) (k : Nat) : Int := l.worst (k : Int)
def Lg.hN (l : Lg) : Nat := 8 * (l.tk.n - 1) + 1
def FJ (b1 b2 b3 b7 m : Nat) (f : Bool) : List Blk := [(b1, CB [.func (.func 100) #[] #[.pointer (some ⟨b7, 0, none⟩)]] 136), (b2, CB [.int .i64 (m : Nat)] 3), (b3, CB [.bool f] 4)]
theorem first_any (b5 b6 b7 kb : Nat) (l : Lg) (w : World) (hW : Wo w b5 b6 b7 kb l) :
    Ct Try.prog 98 #[.func (.func 99) #[] #[.pointer (some ⟨b5, 0, none⟩)], .func (.func 100) #[] #[.pointer (some ⟨b7, 0, none⟩)]] w
      fun v _ => v = .tuple #[.int .i64 (bestN l.wN l.hN : Nat), .bool true] := by
  have hn2 := hW.kn.ok.tk.n2
  have hn21 := hW.kn.ok.tk.n21
  have hh : l.tk.height = 8 * ((l.tk.n : Int) - 1) := rfl
  have hN : (l.hN : Int) = l.tk.height + 1 := by unfold Lg.hN; omega
  have hF := wide_wide
  refine Ct_start (args := [_, _]) Try.func98 (by rfl) Try.ntmps98 (by rfl) ?_
  refine W_seq ?_
  refine W_region_lit (fun ds => ?_)
  refine WS_new hF (by rfl) (y_box (by rfl)) (fun b1 => ?_)
  refine WS_det hF (by rfl) (y_assign (c := .int .i64 _) (by rfl)) ?_
  refine WS_det hF (by rfl) (y_assign (c := .bool _) (by rfl)) ?_
  refine WS_nil ?_
  refine Then_normal ?_
  refine W_seq ?_
  refine W_region_lit (fun ds => ?_)
  refine WS_new hF (by rfl) (y_alloc Try.zeroValue3 (by rfl)) (fun b2 => ?_)
  refine WS_nil ?_
  refine Then_normal ?_
  refine W_seq ?_
  refine W_region_lit (fun ds => ?_)
  refine WS_new hF (by rfl) (y_alloc Try.zeroValue4 (by rfl)) (fun b3 => ?_)
  refine WS_store hF (i := 0) (by rfl) (by rfl) Try.sizeOf4 (by rfl) (by rfl) (by rfl) (by first | decide | exact Nat.le_of_ble_eq_true rfl | simp) ?_
  refine WS_nil ?_
  refine Then_normal ?_
  refine W_seq ?_
  refine W_seq ?_
  refine W_region_lit (fun ds => ?_)
  refine WS_det hF (by rfl) (y_move (c := _) (by rfl)) ?_
  refine WS_nil ?_
  refine Then_normal ?_
  refine W_block ?_
  refine W_range hF (by rfl) (encs := (fun k => [.int .i64 (k : Int)])) (N := l.hN) (H0 := []) (G0 := [(b1, _), (b2, _), (b3, _)]) (fun k G => G = FJ b1 b2 b3 b7 (bestN l.wN k) (decide (0 < k))) (fun _ _ _ => False) (by rfl) Try.call99 (by rfl) (fun _ => rfl) (fun ds => ask2_it _ _ _ b5 b6 b7 kb l hW) (rfl) ((SubP.hsub (SubP.pick 2 (by rfl) (SubP.pick 1 (by rfl) (SubP.pick 0 (by rfl) (SubP.nil)))))) ?_ ?_ ?_
  · rintro k hk G hj out lpr R R'
    have hF := wide_inRound wide_wide lpr
    subst hj
    have hbl := bestN_le l.wN k
    have hkN : (k : Int) < l.tk.height + 1 := by omega
    refine W_region_lit (fun ds => ?_)
    refine WS_det hF (by rfl) (y_assign (c := .int .i64 _) (by rfl)) ?_
    refine WS_nil ?_
    refine Then_normal ?_
    refine ⟨[_, _, _], rfl, ?_⟩
    refine W_block ?_
    refine W_seq ?_
    refine W_region_lit (fun ds => ?_)
    refine WS_det hF (by rfl) (y_load1 (by rfl) Try.isAgg4 (Mem.own1 2 (by rfl) (by rfl))) ?_
    refine WS_det hF (by rfl) (y_not (by rfl)) ?_
    refine WS_det hF (by rfl) (y_move (c := .bool _) (by rfl)) ?_
    refine WS_split 13 (by rfl) (fun g5_2 => ?_) (fun g5_2 => ?_)
    ·
      try simp only [Bool.not_eq_true', Bool.not_eq_false', decide_eq_true_eq, decide_eq_false_iff_not, ne_eq, Classical.not_not, Int.not_lt, Int.not_le] at g5_2
      refine WS_no hF (by rfl) ?_
      refine WS_no hF (by rfl) ?_
      refine WS_no hF (by rfl) ?_
      refine WS_no hF (by rfl) ?_
      refine WS_no hF (by rfl) ?_
      refine WS_det hF (by rfl) (by first | exact y_pick_t (c := .bool _) (by rfl) (by rfl) | exact y_pick_f (c := .bool _) (by rfl) (by rfl)) ?_
      refine WS_nil ?_
      refine Then_normal ?_
      refine W_cond (by rfl) (fun c5 => ?_) (fun c5 => ?_)
      ·
        try simp only [Bool.not_eq_true', Bool.not_eq_false', decide_eq_true_eq, decide_eq_false_iff_not, ne_eq, Classical.not_not, Int.not_lt, Int.not_le] at c5
        refine W_region_lit (fun ds => ?_)
        refine WS_det hF (by rfl) (y_move (c := .int .i64 _) (by rfl)) ?_
        refine WS_store hF (i := 1) (by rfl) (by rfl) Try.sizeOf3 (by rfl) (by rfl) (by rfl) (by first | decide | exact Nat.le_of_ble_eq_true rfl | simp) ?_
        refine WS_store hF (i := 2) (by rfl) (by rfl) Try.sizeOf4 (by rfl) (by rfl) (by rfl) (by first | decide | exact Nat.le_of_ble_eq_true rfl | simp) ?_
        refine WS_nil ?_
        refine InB_normal ?_
        refine ⟨[_, _, _], (SubP.hsub (SubP.pick 0 (by rfl) (SubP.pick 0 (by rfl) (SubP.pick 0 (by rfl) (by exact SubP.refl))))), ?_⟩
        have hb : bestN l.wN (k + 1) = k := by
          obtain rfl : k = 0 := by omega
          unfold bestN; split <;> rfl
        show _ = FJ b1 b2 b3 b7 (bestN l.wN (k + 1)) (decide (0 < k + 1))
        rw [hb, show decide (0 < k + 1) = true by simp]
        rfl
      · cases c5
    ·
      try simp only [Bool.not_eq_true', Bool.not_eq_false', decide_eq_true_eq, decide_eq_false_iff_not, ne_eq, Classical.not_not, Int.not_lt, Int.not_le] at g5_2
      refine WS_det hF (by rfl) (y_load1 (by rfl) Try.isAgg136 (Mem.own1 0 (by rfl) (by rfl))) ?_
      refine WS_det hF (by rfl) (y_move (c := .int .i64 _) (by rfl)) ?_
      refine WS_det hF (by rfl) (y_load1 (by rfl) Try.isAgg3 (Mem.own1 1 (by rfl) (by rfl))) ?_
      refine WS_det hF (by rfl) (y_callL (by rfl) (by rfl) Try.call100 (fun w hw => ask3_any b5 b6 b7 kb l (k : Int) (bestN l.wN k : Nat) w (hW.st w hw) (by omega) (by omega) (by omega) (by omega))) ?_
      refine WS_det hF (by rfl) (y_lss (by rfl) (by rfl)) ?_
      refine WS_det hF (by rfl) (by first | exact y_pick_t (c := .bool _) (by rfl) (by rfl) | exact y_pick_f (c := .bool _) (by rfl) (by rfl)) ?_
      refine WS_nil ?_
      refine Then_normal ?_
      refine W_cond (by rfl) (fun c5 => ?_) (fun c5 => ?_)
      ·
        try simp only [Bool.not_eq_true', Bool.not_eq_false', decide_eq_true_eq, decide_eq_false_iff_not, ne_eq, Classical.not_not, Int.not_lt, Int.not_le] at c5
        refine W_region_lit (fun ds => ?_)
        refine WS_det hF (by rfl) (y_move (c := .int .i64 _) (by rfl)) ?_
        refine WS_store hF (i := 1) (by rfl) (by rfl) Try.sizeOf3 (by rfl) (by rfl) (by rfl) (by first | decide | exact Nat.le_of_ble_eq_true rfl | simp) ?_
        refine WS_store hF (i := 2) (by rfl) (by rfl) Try.sizeOf4 (by rfl) (by rfl) (by rfl) (by first | decide | exact Nat.le_of_ble_eq_true rfl | simp) ?_
        refine WS_nil ?_
        refine InB_normal ?_
        refine ⟨[_, _, _], (SubP.hsub (SubP.pick 0 (by rfl) (SubP.pick 0 (by rfl) (SubP.pick 0 (by rfl) (by exact SubP.refl))))), ?_⟩
        have hb : bestN l.wN (k + 1) = k := if_pos (cmpI_neg.1 c5)
        show _ = FJ b1 b2 b3 b7 (bestN l.wN (k + 1)) (decide (0 < k + 1))
        rw [hb, show decide (0 < k + 1) = true by simp]
        rfl
      ·
        try simp only [Bool.not_eq_true', Bool.not_eq_false', decide_eq_true_eq, decide_eq_false_iff_not, ne_eq, Classical.not_not, Int.not_lt, Int.not_le] at c5
        refine W_skip ?_
        refine InB_normal ?_
        refine ⟨[_, _, _], (SubP.hsub (SubP.pick 0 (by rfl) (SubP.pick 0 (by rfl) (SubP.pick 0 (by rfl) (by exact SubP.refl))))), ?_⟩
        have hb : bestN l.wN (k + 1) = bestN l.wN k := if_neg (fun h => absurd (show cmpI (l.worst (k : Int)) (l.worst (bestN l.wN k : Nat)) < 0 from cmpI_neg.2 h) (by omega))
        show _ = FJ b1 b2 b3 b7 (bestN l.wN (k + 1)) (decide (0 < k + 1))
        rw [hb, show decide (0 < k + 1) = true by simp, ← show decide (0 < k) = true by simp only [decide_eq_true_eq]; omega]
        rfl
  · rintro G hj
    subst hj
    refine InB_normal ?_
    refine Then_normal ?_
    refine W_seq ?_
    refine W_draw0 hF Trymixed [] (by decide +kernel) (fun ds => ?_)
    refine P_det (by rfl) (Over_nil (y_load1 (by rfl) Try.isAgg3 (Mem.own1 1 (by rfl) (by rfl)))) ?_
    refine P_det (by rfl) (Over_nil (y_load1 (by rfl) Try.isAgg4 (Mem.own1 2 (by rfl) (by rfl)))) ?_
    refine P_det (by rfl) (Over_nil (y_assign (c := .int .i64 _) (by rfl))) ?_
    refine P_det (by rfl) (Over_nil (y_assign (c := .bool _) (by rfl))) ?_
    refine PW_end (by rfl) ?_
    refine OverAll_nil ?_
    rintro -
    refine Then_normal ?_
    refine W_ret ?_
    refine Fin_ret [.int .i64 _, .bool _] [] Try.results98 ⟨by rfl, by rfl, trivial⟩ HSub.nil ?_
    have : decide (0 < l.hN) = true := by simp only [decide_eq_true_eq]; omega
    rw [← this]; rfl
  · rintro c k G hk hj
    exact hj.elim
def Lg.askV (l : Lg) : Value :=
  if l.aerr = 0 then if l.last.hi = l.last.lo then .tuple #[.int .i64 0, .int .i64 0, .int .i64 6] else .tuple #[.int .i64 (bestN l.wN l.hN : Nat), .int .i64 (l.wN (bestN l.wN l.hN)), .int .i64 0] else .tuple #[.int .i64 0, .int .i64 0, .int .i64 l.aerr]
theorem ask_any (l : Lg) (a : Option Addr) (cap : Nat) (ae : Option Addr) (cape : Nat) (w : World) (hn : l.tk.n ≤ 1000000) (hx : Ints w a l.tk.n cap l.tk.pints) (he : Ens w ae l.es.length cape l.es) : Ct Try.prog 39 #[.agg #[.slice a l.tk.n cap, .int .i64 l.tk.leak, .int .i64 l.tk.foot, .int .i64 l.start.lo, .int .i64 l.start.hi, .slice ae l.es.length cape]] w fun v _ => v = l.askV := by
  have hF := wide_wide
  refine Ct_start (args := [_]) Try.func39 (by rfl) Try.ntmps39 (by rfl) ?_
  refine W_seq ?_
  refine W_region_lit (fun ds => ?_)
  refine WS_new hF (by rfl) (y_box (by rfl)) (fun b1 => ?_)
  refine WS_det hF (by rfl) (y_assign (c := .int .i64 _) (by rfl)) ?_
  refine WS_det hF (by rfl) (y_assign (c := .int .i64 _) (by rfl)) ?_
  refine WS_det hF (by rfl) (y_assign (c := .int .i64 _) (by rfl)) ?_
  refine WS_nil ?_
  refine Then_normal ?_
  refine W_seq ?_
  refine W_region_lit (fun ds => ?_)
  refine WS_det hF (by rfl) (y_loadN (by rfl) Try.isAgg46 Try.sizeOf46 (Mem.own (us := [.slice _ _ _, .int .i64 _, .int .i64 _, .int .i64 _, .int .i64 _, .slice _ _ _]) 0 (by rfl) (by rfl)) (by rfl)) ?_
  refine WS_gen hF (by rfl) (y_callL (by rfl) (by rfl) Try.call88 (fun w hw => asked_any l a cap ae cape w hn (hx.st w hw) (he.st w hw))) ?_
  rintro _ Hg ⟨p, rfl, hg1, hg2⟩
  refine WS_det hF (by rfl) (y_move (c := .tuple _) (by rfl)) ?_
  refine WS_det hF (by rfl) (y_extract (c := .pointer _) (by rfl) (by rfl)) ?_
  refine WS_det hF (by rfl) (y_extract (c := .int .i64 _) (by rfl) (by rfl)) ?_
  refine WS_new hF (by rfl) (y_alloc Try.zeroValue123 (by rfl)) (fun b2 => ?_)
  refine WS_store hF (i := 0) (by rfl) (by rfl) Try.sizeOf123 (by rfl) (by rfl) (by rfl) (by first | decide | exact Nat.le_of_ble_eq_true rfl | simp) ?_
  refine WS_det hF (by rfl) (y_assign (c := .int .i64 _) (by rfl)) ?_
  refine WS_nil ?_
  refine Then_normal ?_
  refine W_seq ?_
  refine W_seq ?_
  refine W_region_lit (fun ds => ?_)
  refine WS_det hF (by rfl) (y_move (c := .int .i64 _) (by rfl)) ?_
  refine WS_det hF (by rfl) (y_neq (by rfl) (by rfl)) ?_
  refine WS_nil ?_
  refine Then_normal ?_
  refine W_cond (by rfl) (fun c2 => ?_) (fun c2 => ?_)
  ·
    try simp only [Bool.not_eq_true', Bool.not_eq_false', decide_eq_true_eq, decide_eq_false_iff_not, ne_eq, Classical.not_not, Int.not_lt, Int.not_le] at c2
    obtain rfl := hg2 c2
    refine W_seq ?_
    refine W_region_lit (fun ds => ?_)
    refine WS_det hF (by rfl) (y_move (c := .int .i64 _) (by rfl)) ?_
    refine WS_det hF (by rfl) (y_assign (c := .int .i64 _) (by rfl)) ?_
    refine WS_det hF (by rfl) (y_assign (c := .int .i64 _) (by rfl)) ?_
    refine WS_det hF (by rfl) (y_assign (c := .int .i64 _) (by rfl)) ?_
    refine WS_nil ?_
    refine Then_normal ?_
    refine W_ret ?_
    refine Then_ret ?_
    refine Fin_ret [.int .i64 _, .int .i64 _, .int .i64 _] [] Try.results39 ⟨by rfl, by rfl, by rfl, trivial⟩ HSub.nil ?_
    show Value.tuple _ = _
    unfold Lg.askV
    rw [if_neg c2]
  ·
    try simp only [Bool.not_eq_true', Bool.not_eq_false', decide_eq_true_eq, decide_eq_false_iff_not, ne_eq, Classical.not_not, Int.not_lt, Int.not_le] at c2
    obtain ⟨kb, rfl, bk, g, fb, capf, junk, ab, bb, rfl⟩ := hg1 c2
    have hok := l.ok_of (l.aerr0 c2).1
    have hne := (l.aerr0 c2).2
    have hfull := hok.tk.full_bd
    have hlb := hok.last_bd hne
    have hn2 := hok.tk.n2
    have hh : l.tk.height = 8 * ((l.tk.n : Int) - 1) := rfl
    have hN : (l.hN : Int) = l.tk.height + 1 := by unfold Lg.hN; omega
    have hbl := bestN_lt l.wN l.hN (by omega)
    refine W_skip ?_
    refine Then_normal ?_
    refine W_seq ?_
    refine W_region_lit (fun ds => ?_)
    refine WS_det hF (by rfl) (y_load1 (by rfl) Try.isAgg123 (Mem.own1 0 (by rfl) (by rfl))) ?_
    refine WS_det hF (by rfl) (y_callL (by rfl) (by rfl) Try.call89 (fun w hw => last_any kb l w (Kn.own (a := a) (cap := cap) (ae := ae) (cape := cape) (bk := bk) (g := g) (fb := fb) (capf := capf) (junk := junk) (ab := ab) (bb := bb) (by unfold knBlocks; repeat (first | exact List.Sublist.refl _ | exact List.nil_sublist _ | apply List.Sublist.cons_cons | apply List.Sublist.cons)) c2 hx he w hw))) ?_
    refine WS_new hF (by rfl) (y_alloc Try.zeroValue26 (by rfl)) (fun b3 => ?_)
    refine WS_store hF (i := 0) (by rfl) (by rfl) Try.sizeOf26 (by rfl) (by rfl) (by rfl) (by first | decide | exact Nat.le_of_ble_eq_true rfl | simp) ?_
    refine WS_nil ?_
    refine Then_normal ?_
    refine W_seq ?_
    refine W_seq ?_
    refine W_region_lit (fun ds => ?_)
    refine WS_det hF (by rfl) (y_loadN (by rfl) Try.isAgg26 Try.sizeOf26 (Mem.own (us := [.int .i64 _, .int .i64 _]) 0 (by rfl) (by rfl)) (by rfl)) ?_
    refine WS_det hF (by rfl) (y_fieldAddr (by rfl) fa26_0) ?_
    refine WS_det hF (by rfl) (y_load1 (by rfl) Try.isAgg3 (Mem.own1 0 (by rfl) (by rfl))) ?_
    refine WS_det hF (by rfl) (y_fieldAddr (by rfl) fa26_0) ?_
    refine WS_det hF (by rfl) (y_load1 (by rfl) Try.isAgg3 (Mem.own1 0 (by rfl) (by rfl))) ?_
    refine WS_det hF (by rfl) (y_buildL bd26_0_1 (by rfl)) ?_
    refine WS_det hF (by rfl) (y_eqlA (by rfl) (by rfl) eqA26) ?_
    refine WS_nil ?_
    refine Then_normal ?_
    refine W_cond (by rfl) (fun c5 => ?_) (fun c5 => ?_)
    ·
      try simp only [Bool.not_eq_true', Bool.not_eq_false', decide_eq_true_eq, decide_eq_false_iff_not, ne_eq, Classical.not_not, Int.not_lt, Int.not_le] at c5
      refine W_seq ?_
      refine W_region_lit (fun ds => ?_)
      refine WS_det hF (by rfl) (y_assign (c := .int .i64 _) (by rfl)) ?_
      refine WS_det hF (by rfl) (y_assign (c := .int .i64 _) (by rfl)) ?_
      refine WS_det hF (by rfl) (y_assign (c := .int .i64 _) (by rfl)) ?_
      refine WS_nil ?_
      refine Then_normal ?_
      refine W_ret ?_
      refine Then_ret ?_
      refine Fin_ret [.int .i64 _, .int .i64 _, .int .i64 _] [] Try.results39 ⟨by rfl, by rfl, by rfl, trivial⟩ HSub.nil ?_
      show Value.tuple _ = _
      unfold Lg.askV
      simp only [ieq_self, Bool.true_and, ieq_iff] at c5
      rw [if_pos c2, if_pos c5]
    ·
      try simp only [Bool.not_eq_true', Bool.not_eq_false', decide_eq_true_eq, decide_eq_false_iff_not, ne_eq, Classical.not_not, Int.not_lt, Int.not_le] at c5
      refine W_skip ?_
      refine Then_normal ?_
      refine W_seq ?_
      refine W_region_lit (fun ds => ?_)
      refine WS_det hF (by rfl) (y_makeFuncL (by rfl) (by rfl)) ?_
      refine WS_new hF (by rfl) (y_alloc Try.zeroValue99 (by rfl)) (fun b4 => ?_)
      refine WS_store hF (i := 0) (by rfl) (by rfl) Try.sizeOf99 (by rfl) (by rfl) (by rfl) (by first | decide | exact Nat.le_of_ble_eq_true rfl | simp) ?_
      refine WS_nil ?_
      refine Then_normal ?_
      refine W_seq ?_
      refine W_region_lit (fun ds => ?_)
      refine WS_det hF (by rfl) (y_makeFuncL (by rfl) (by rfl)) ?_
      refine WS_det hF (by rfl) (y_makeFuncL (by rfl) (by rfl)) ?_
      refine WS_det hF (by rfl) (y_callL (by rfl) (by rfl) Try.call98 (fun w hw => first_any b2 b3 b4 kb l w ⟨At.block0 (by repeat (first | exact List.mem_cons_self | apply List.mem_cons_of_mem)) w hw, At.block0 (by repeat (first | exact List.mem_cons_self | apply List.mem_cons_of_mem)) w hw, At.block0 (by repeat (first | exact List.mem_cons_self | apply List.mem_cons_of_mem)) w hw, (Kn.own (a := a) (cap := cap) (ae := ae) (cape := cape) (bk := bk) (g := g) (fb := fb) (capf := capf) (junk := junk) (ab := ab) (bb := bb) (by unfold knBlocks; repeat (first | exact List.Sublist.refl _ | exact List.nil_sublist _ | apply List.Sublist.cons_cons | apply List.Sublist.cons)) c2 hx he w hw)⟩)) ?_
      refine WS_det hF (by rfl) (y_move (c := .tuple _) (by rfl)) ?_
      refine WS_det hF (by rfl) (y_extract (c := .int .i64 _) (by rfl) (by rfl)) ?_
      refine WS_det hF (by rfl) (y_extract (c := .bool _) (by rfl) (by rfl)) ?_
      refine WS_det hF (by rfl) (y_assign (c := .int .i64 _) (by rfl)) ?_
      refine WS_det hF (by rfl) (y_assign (c := .bool _) (by rfl)) ?_
      refine WS_nil ?_
      refine Then_normal ?_
      refine W_seq ?_
      refine W_region_lit (fun ds => ?_)
      refine WS_det hF (by rfl) (y_move (c := .int .i64 _) (by rfl)) ?_
      refine WS_det hF (by rfl) (y_load1 (by rfl) Try.isAgg99 (Mem.own1 0 (by rfl) (by rfl))) ?_
      refine WS_det hF (by rfl) (y_move (c := .int .i64 _) (by rfl)) ?_
      refine WS_det hF (by rfl) (y_callL (by rfl) (by rfl) Try.call97 (fun w hw => ask1_any b2 b3 b4 kb l (bestN l.wN l.hN : Nat) w ⟨At.block0 (by repeat (first | exact List.mem_cons_self | apply List.mem_cons_of_mem)) w hw, At.block0 (by repeat (first | exact List.mem_cons_self | apply List.mem_cons_of_mem)) w hw, At.block0 (by repeat (first | exact List.mem_cons_self | apply List.mem_cons_of_mem)) w hw, (Kn.own (a := a) (cap := cap) (ae := ae) (cape := cape) (bk := bk) (g := g) (fb := fb) (capf := capf) (junk := junk) (ab := ab) (bb := bb) (by unfold knBlocks; repeat (first | exact List.Sublist.refl _ | exact List.nil_sublist _ | apply List.Sublist.cons_cons | apply List.Sublist.cons)) c2 hx he w hw)⟩ (by omega) (by omega))) ?_
      refine WS_det hF (by rfl) (y_assign (c := .int .i64 _) (by rfl)) ?_
      refine WS_det hF (by rfl) (y_assign (c := .int .i64 _) (by rfl)) ?_
      refine WS_det hF (by rfl) (y_assign (c := .int .i64 _) (by rfl)) ?_
      refine WS_nil ?_
      refine Then_normal ?_
      refine W_ret ?_
      refine Fin_ret [.int .i64 _, .int .i64 _, .int .i64 _] [] Try.results39 ⟨by rfl, by rfl, by rfl, trivial⟩ HSub.nil ?_
      show Value.tuple _ = _
      unfold Lg.askV
      have c5' : ¬ l.last.hi = l.last.lo := fun h => by simp [ieq, h] at c5
      rw [if_pos c2, if_neg c5']; rfl
end Go.Proofs.Ythkimgfgpphgnaa.T

/- The reference's logs: the walks, first part. -/
namespace Go.Proofs.Ythkimgfgpphgnaa.T
open Go.RowKit Go.Proofs Go.Eng
set_option maxRecDepth 100000
set_option linter.unusedVariables false
set_option linter.unusedSimpArgs false



end Go.Proofs.Ythkimgfgpphgnaa.T

/- The reference's logs: the walks, second part. -/
namespace Go.Proofs.Ythkimgfgpphgnaa.T
open Go.RowKit Go.Proofs Go.Eng
set_option maxRecDepth 100000
set_option linter.unusedVariables false
set_option linter.unusedSimpArgs false



def ForthV (l : Lg) (v : Value) (Hn : List Blk) : Prop :=
  ∃ fb m cap junk f, v = .tuple #[.slice (some ⟨fb, 0, none⟩) m cap, .bool l.holdsB] ∧ Hn = [(fb, CB (snRow f m ++ junk) 26)] ∧ (l.holdsB = true → m = l.es.length + 1 ∧ f = l.hold)
def RBackV (l : Lg) (v : Value) (Hn : List Blk) : Prop := ∃ ab, v = .slice (some ⟨ab, 0, none⟩) (l.es.length + 1) (l.es.length + 1) ∧ Hn = [(ab, CB (snRow l.aft (l.es.length + 1)) 26)]
end Go.Proofs.Ythkimgfgpphgnaa.T

/- The reference's asks: the walks. -/
namespace Go.Proofs.Ythkimgfgpphgnaa.T
open Go.RowKit Go.Proofs Go.Eng
set_option maxRecDepth 100000
set_option linter.unusedVariables false
set_option linter.unusedSimpArgs false



end Go.Proofs.Ythkimgfgpphgnaa.T

/- The reference's dip that tells most: the walks. -/
namespace Go.Proofs.Ythkimgfgpphgnaa.T
open Go.RowKit Go.Proofs Go.Eng
set_option maxRecDepth 100000
set_option linter.unusedVariables false
set_option linter.unusedSimpArgs false



end Go.Proofs.Ythkimgfgpphgnaa.T

/- Great, Twin, Same of logs: the walks; the law of asks. -/
namespace Go.Proofs.Ythkimgfgpphgnaa.T
open Go.RowKit Go.Proofs Go.Eng
set_option maxRecDepth 100000
set_option linter.unusedVariables false
set_option linter.unusedSimpArgs false

theorem a_ep48_0 {x_0 : Int} {x_1 : Int} {x_2 : Int} {x_3 : Int} : ∀ w, (part 3 #[.int .i64 x_0, .int .i64 x_1, .int .i64 x_2, .int .i64 x_3] 0).run Try.prog w = .ok (.int .i64 x_0) w := fun w => by kernel_rfl
theorem a_ep48_1 {x_0 : Int} {x_1 : Int} {x_2 : Int} {x_3 : Int} : ∀ w, (part 3 #[.int .i64 x_0, .int .i64 x_1, .int .i64 x_2, .int .i64 x_3] 1).run Try.prog w = .ok (.int .i64 x_1) w := fun w => by kernel_rfl
theorem a_ep48_2 {x_0 : Int} {x_1 : Int} {x_2 : Int} {x_3 : Int} : ∀ w, (part 26 #[.int .i64 x_0, .int .i64 x_1, .int .i64 x_2, .int .i64 x_3] 2).run Try.prog w = .ok (.agg #[.int .i64 x_2, .int .i64 x_3]) w := fun w => by kernel_rfl
theorem a_gneqA26 {x y : Operand} {x_0 : Int} {x_1 : Int} {y_0 : Int} {y_1 : Int} : ∀ w, (eqGuard .neq 26 x y (.agg #[.int .i64 x_0, .int .i64 x_1]) (.agg #[.int .i64 y_0, .int .i64 y_1])).run Try.prog w = .ok () w := fun w => by kernel_rfl
theorem a_gneqA48 {x y : Operand} {x_0 : Int} {x_1 : Int} {x_2 : Int} {x_3 : Int} {y_0 : Int} {y_1 : Int} {y_2 : Int} {y_3 : Int} : ∀ w, (eqGuard .neq 48 x y (.agg #[.int .i64 x_0, .int .i64 x_1, .int .i64 x_2, .int .i64 x_3]) (.agg #[.int .i64 y_0, .int .i64 y_1, .int .i64 y_2, .int .i64 y_3])).run Try.prog w = .ok () w := fun w => by kernel_rfl
theorem a_st48 : Try.prog.stoodInHeld 48 = false := by kernel_rfl
theorem eq26_9999 {x_0 : Int} {x_1 : Int} {y_0 : Int} {y_1 : Int} : ∀ w, (Op.equalIn 9999 26 (.agg #[.int .i64 x_0, .int .i64 x_1]) (.agg #[.int .i64 y_0, .int .i64 y_1])).run Try.prog w = .ok (ieq x_0 y_0 && ieq x_1 y_1) w := fun w => by
  unfold Op.equalIn
  rw [Sem.run_bind, Try.runUnderlying26]
  simp [a_st26, a_ep26_0, eq_int (d := 9997) Try.runUnderlying3, a_ep26_1, eq_int (d := 9997) Try.runUnderlying3]
  generalize ieq x_0 y_0 = b0
  generalize ieq x_1 y_1 = b1
  cases b0 <;> cases b1 <;> simp
theorem bd46_0_1_2 {x0_0a : Option Addr} {x0_0l x0_0c : Nat} {x0_1 : Int} {x0_2 : Int} {x1_0 : Int} {x1_1 : Int} {x2a : Option Addr} {x2l x2c : Nat} : ∀ w, (Instr.build 46 #[(0, .agg #[.slice x0_0a x0_0l x0_0c, .int .i64 x0_1, .int .i64 x0_2]), (1, .agg #[.int .i64 x1_0, .int .i64 x1_1]), (2, .slice x2a x2l x2c)]).run Try.prog w = .ok (.agg #[.slice x0_0a x0_0l x0_0c, .int .i64 x0_1, .int .i64 x0_2, .int .i64 x1_0, .int .i64 x1_1, .slice x2a x2l x2c]) w := fun w => by kernel_rfl
theorem eq48 {x_0 : Int} {x_1 : Int} {x_2 : Int} {x_3 : Int} {y_0 : Int} {y_1 : Int} {y_2 : Int} {y_3 : Int} : ∀ w, (Op.equalIn Op.maxDepth 48 (.agg #[.int .i64 x_0, .int .i64 x_1, .int .i64 x_2, .int .i64 x_3]) (.agg #[.int .i64 y_0, .int .i64 y_1, .int .i64 y_2, .int .i64 y_3])).run Try.prog w = .ok (ieq x_0 y_0 && ieq x_1 y_1 && ieq x_2 y_2 && ieq x_3 y_3) w := fun w => by
  unfold Op.maxDepth Op.equalIn
  rw [Sem.run_bind, Try.runUnderlying48]
  simp [a_st48, a_ep48_0, eq_int (d := 9998) Try.runUnderlying3, a_ep48_1, eq_int (d := 9998) Try.runUnderlying3, a_ep48_2, eq26_9999]
  generalize ieq x_0 y_0 = b0
  generalize ieq x_1 y_1 = b1
  generalize ieq x_2 y_2 = b2
  generalize ieq x_3 y_3 = b3
  cases b0 <;> cases b1 <;> cases b2 <;> cases b3 <;> simp
theorem bs44_0  : ∀ w, (Instr.buildSlice 44 0 #[]).run Try.prog w = .ok (.slice (some ⟨w.heap.size, 0, none⟩) 0 0) (w.alloc (CB [] 48)) := fun w => by kernel_rfl
theorem neqA26 {x y : Operand} {x_0 : Int} {x_1 : Int} {y_0 : Int} {y_1 : Int} : ∀ w, ((do eqGuard .neq 26 x y (.agg #[.int .i64 x_0, .int .i64 x_1]) (.agg #[.int .i64 y_0, .int .i64 y_1]); binOp .neq 26 (.agg #[.int .i64 x_0, .int .i64 x_1]) (.agg #[.int .i64 y_0, .int .i64 y_1])) : Sem Value).run Try.prog w = .ok (.bool (!(ieq x_0 y_0 && ieq x_1 y_1))) w := eq_topN a_gneqA26 eq26
theorem neqA48 {x y : Operand} {x_0 : Int} {x_1 : Int} {x_2 : Int} {x_3 : Int} {y_0 : Int} {y_1 : Int} {y_2 : Int} {y_3 : Int} : ∀ w, ((do eqGuard .neq 48 x y (.agg #[.int .i64 x_0, .int .i64 x_1, .int .i64 x_2, .int .i64 x_3]) (.agg #[.int .i64 y_0, .int .i64 y_1, .int .i64 y_2, .int .i64 y_3]); binOp .neq 48 (.agg #[.int .i64 x_0, .int .i64 x_1, .int .i64 x_2, .int .i64 x_3]) (.agg #[.int .i64 y_0, .int .i64 y_1, .int .i64 y_2, .int .i64 y_3])) : Sem Value).run Try.prog w = .ok (.bool (!(ieq x_0 y_0 && ieq x_1 y_1 && ieq x_2 y_2 && ieq x_3 y_3))) w := eq_topN a_gneqA48 eq48

theorem At.app {w : World} {b : Nat} : ∀ {us vs : List Value} {o : Nat}, At w b o us → At w b (o + us.length) vs → At w b o (us ++ vs)
  | [], vs, o, _, h => by simpa using h
  | u :: us, vs, o, h, h' => ⟨h.1, At.app (us := us) h.2 (by rw [show o + 1 + us.length = o + (u :: us).length by simp; omega]; exact h')⟩
section
variable {α : Type} {enc : α → List Value} {sz : Nat} {d : α} {w : World} {a : Option Addr} {n cap : Nat} {xs : List α}
theorem Rws.row (hz : ∀ x, (enc x).length = sz) {b o : Nat} (h : Rws enc sz d w (some ⟨b, o, none⟩) n cap xs) : ∀ m, m ≤ n → At w b o (rowOf enc (fun k => xs.getD k d) m)
  | 0, _ => trivial
  | m + 1, hm => by
    rw [rowOf_succ]
    refine At.app (Rws.row hz h m (by omega)) ?_
    rw [rowOf_len hz]
    exact h.at (k := m) (by omega)
theorem Rws.src (hz : ∀ x, (enc x).length = sz) {C : Ctx} {H : List Blk} (h : Rws enc sz d C.w0 a n cap xs) : Src C H a n (rowOf enc (fun k => xs.getD k d) n) := by
  by_cases hn : n = 0
  · subst hn; exact .inl ⟨rfl, rfl⟩
  · obtain ⟨b, o, rfl⟩ := h.adr (by omega)
    exact .inr ⟨b, o, rfl, Mem.old (Rws.row hz h n (Nat.le_refl _))⟩
theorem NewRow.rws (hz : ∀ x, (enc x).length = sz) {C : Ctx} {H Hn : List Blk} {T : TypeId} (h : NewRow T sz n (rowOf enc (fun k => xs.getD k d) n) (.slice a n cap) Hn) (hl : xs.length = n) (hs : Hn.Sublist H) (w : World) (hw : St C H w) : Rws enc sz d w a n cap xs := by
  obtain ⟨a', cap', he, hle, hc⟩ := h
  cases he
  refine ⟨hl, hle, fun k hk => ?_⟩
  rcases hc with ⟨hn, b, junk, rfl, rfl, hlen⟩ | ⟨hn, rfl, rfl⟩
  · refine ⟨b, 0, rfl, ?_⟩
    exact Mem.rowJ (junk := junk) (k := k) (o := 0 + k * sz) hz 0 rfl hk rfl (Nat.zero_add _) w (hw.sub hs)
  · omega
end
theorem en_len (x : En) : x.cells.length = 4 := rfl
theorem infEntry : (Try.prog.info? 48).map (fun i => (i.zero, i.size, i.bytes)) = some (some (.agg #[.int .i64 0, .int .i64 0, .int .i64 0, .int .i64 0]), 4, 32) := by kernel_rfl

/-- A log in new memory. -/
def TwinL (l : Lg) (v : Value) (Hn : List Blk) : Prop :=
  ∃ a cap ae cape H1 H2, v = .agg #[.slice a l.tk.n cap, .int .i64 l.tk.leak, .int .i64 l.tk.foot, .int .i64 l.start.lo, .int .i64 l.start.hi, .slice ae l.es.length cape] ∧ NewRow 3 1 l.tk.n (iv l.tk.pints) (.slice a l.tk.n cap) H1 ∧ NewRow 48 4 l.es.length (rowOf En.cells l.e l.es.length) (.slice ae l.es.length cape) H2 ∧ Hn = H1 ++ H2
end Go.Proofs.Ythkimgfgpphgnaa.T

/- The law of asks, walked. -/
namespace Go.Proofs.Ythkimgfgpphgnaa.T
open Go.RowKit Go.Proofs Go.Eng
set_option maxRecDepth 100000
set_option linter.unusedVariables false
set_option linter.unusedSimpArgs false



end Go.Proofs.Ythkimgfgpphgnaa.T

/- What the tank holds, the first truth, what was moved, what leaks behind a time: the walks. -/
namespace Go.Proofs.Ythkimgfgpphgnaa.T
open Go.RowKit Go.Proofs Go.Eng
set_option maxRecDepth 100000
set_option linter.unusedVariables false
set_option linter.unusedSimpArgs false



def Lg.holdsV (l : Lg) (i : Int) : Value :=
  if l.aerr = 0 then if inB 0 l.es.length [i] then .tuple #[.agg (l.at i.toNat).cells.toArray, .int .i64 0] else .tuple #[.agg Sn.z.cells.toArray, .int .i64 2] else .tuple #[.agg Sn.z.cells.toArray, .int .i64 l.aerr]
theorem holds_any (l : Lg) (a : Option Addr) (cap : Nat) (ae : Option Addr) (cape : Nat) (i : Int) (w : World) (hn : l.tk.n ≤ 1000000) (hx : Ints w a l.tk.n cap l.tk.pints) (he : Ens w ae l.es.length cape l.es) : Ct Try.prog 43 #[.agg #[.slice a l.tk.n cap, .int .i64 l.tk.leak, .int .i64 l.tk.foot, .int .i64 l.start.lo, .int .i64 l.start.hi, .slice ae l.es.length cape], .int .i64 i] w fun v _ => v = l.holdsV i := by
  have hF := wide_wide
  refine Ct_start (args := [_, _]) Try.func43 (by rfl) Try.ntmps43 (by rfl) ?_
  refine W_seq ?_
  refine W_region_lit (fun ds => ?_)
  refine WS_new hF (by rfl) (y_box (by rfl)) (fun b1 => ?_)
  refine WS_new hF (by rfl) (y_alloc Try.zeroValue26 (by rfl)) (fun b2 => ?_)
  refine WS_det hF (by rfl) (y_assign (c := .int .i64 _) (by rfl)) ?_
  refine WS_nil ?_
  refine Then_normal ?_
  refine W_seq ?_
  refine W_region_lit (fun ds => ?_)
  refine WS_det hF (by rfl) (y_loadN (by rfl) Try.isAgg46 Try.sizeOf46 (Mem.own (us := [.slice _ _ _, .int .i64 _, .int .i64 _, .int .i64 _, .int .i64 _, .slice _ _ _]) 1 (by rfl) (by rfl)) (by rfl)) ?_
  refine WS_gen hF (by rfl) (y_callL (by rfl) (by rfl) Try.call88 (fun w hw => asked_any l a cap ae cape w hn (hx.st w hw) (he.st w hw))) ?_
  rintro _ Hg ⟨p, rfl, hg1, hg2⟩
  refine WS_det hF (by rfl) (y_move (c := .tuple _) (by rfl)) ?_
  refine WS_det hF (by rfl) (y_extract (c := .pointer _) (by rfl) (by rfl)) ?_
  refine WS_det hF (by rfl) (y_extract (c := .int .i64 _) (by rfl) (by rfl)) ?_
  refine WS_det hF (by rfl) (y_assign (c := .pointer _) (by rfl)) ?_
  refine WS_det hF (by rfl) (y_assign (c := .int .i64 _) (by rfl)) ?_
  refine WS_nil ?_
  refine Then_normal ?_
  refine W_seq ?_
  refine W_seq ?_
  refine W_region_lit (fun ds => ?_)
  refine WS_det hF (by rfl) (y_move (c := .int .i64 _) (by rfl)) ?_
  refine WS_det hF (by rfl) (y_neq (by rfl) (by rfl)) ?_
  refine WS_nil ?_
  refine Then_normal ?_
  refine W_cond (by rfl) (fun c2 => ?_) (fun c2 => ?_)
  ·
    try simp only [Bool.not_eq_true', Bool.not_eq_false', decide_eq_true_eq, decide_eq_false_iff_not, ne_eq, Classical.not_not, Int.not_lt, Int.not_le] at c2
    obtain rfl := hg2 c2
    refine W_seq ?_
    refine W_region_lit (fun ds => ?_)
    refine WS_det hF (by rfl) (y_buildL bd26 (by rfl)) ?_
    refine WS_det hF (by rfl) (y_move (c := .int .i64 _) (by rfl)) ?_
    refine WS_store hF (i := 0) (by rfl) (by rfl) Try.sizeOf26 (by rfl) (by rfl) (by rfl) (by first | decide | exact Nat.le_of_ble_eq_true rfl | simp) ?_
    refine WS_det hF (by rfl) (y_assign (c := .int .i64 _) (by rfl)) ?_
    refine WS_nil ?_
    refine Then_normal ?_
    refine W_ret ?_
    refine Then_ret ?_
    refine Fin_ret [_, .int .i64 _] [] Try.results43 ⟨lvN (by rfl) Try.isAgg26 Try.sizeOf26 (Mem.own (us := [.int .i64 _, .int .i64 _]) 0 (by rfl) (by rfl)) (by rfl), by rfl, trivial⟩ HSub.nil ?_
    show Value.tuple _ = _
    unfold Lg.holdsV
    rw [if_neg c2]; rfl
  ·
    try simp only [Bool.not_eq_true', Bool.not_eq_false', decide_eq_true_eq, decide_eq_false_iff_not, ne_eq, Classical.not_not, Int.not_lt, Int.not_le] at c2
    obtain ⟨kb, rfl, bk, g, fb, capf, junk, ab, bb, rfl⟩ := hg1 c2
    have hok := l.ok_of (l.aerr0 c2).1
    have hne := (l.aerr0 c2).2
    have hfull := hok.tk.full_bd
    have hlb := hok.last_bd hne
    refine W_skip ?_
    refine Then_normal ?_
    refine W_seq ?_
    refine W_seq ?_
    refine W_region_lit (fun ds => ?_)
    refine WS_det hF (by rfl) (y_fieldAddr (by rfl) fa46_2) ?_
    refine WS_det hF (by rfl) (y_load1 (by rfl) Try.isAgg44 (Mem.own1 7 (by rfl) (by rfl))) ?_
    refine WS_det hF (by rfl) (y_len (by rfl) Try.runUnderlying44) ?_
    refine WS_det hF (by rfl) (y_move (c := .int .i64 _) (by rfl)) ?_
    refine WS_newS hF (by rfl) (y_buildSliceL bs22_1_0 (by rfl)) (fun b3 => ?_)
    refine WS_det hF (by rfl) (y_callL (by rfl) (by rfl) Try.call65 (fun w hw => in_any _ _ _ _ _ _ w (by decide) (by first | exact Ints.one 0 rfl w hw | exact Ints.two 0 rfl w hw))) ?_
    refine WS_det hF (by rfl) (y_not (by rfl)) ?_
    refine WS_nil ?_
    refine Then_normal ?_
    refine W_cond (by rfl) (fun c4 => ?_) (fun c4 => ?_)
    ·
      try simp only [Bool.not_eq_true', Bool.not_eq_false', decide_eq_true_eq, decide_eq_false_iff_not, ne_eq, Classical.not_not, Int.not_lt, Int.not_le] at c4
      refine W_seq ?_
      refine W_region_lit (fun ds => ?_)
      refine WS_det hF (by rfl) (y_buildL bd26 (by rfl)) ?_
      refine WS_store hF (i := 7) (by rfl) (by rfl) Try.sizeOf26 (by rfl) (by rfl) (by rfl) (by first | decide | exact Nat.le_of_ble_eq_true rfl | simp) ?_
      refine WS_det hF (by rfl) (y_assign (c := .int .i64 _) (by rfl)) ?_
      refine WS_nil ?_
      refine Then_normal ?_
      refine W_ret ?_
      refine Then_ret ?_
      refine Fin_ret [_, .int .i64 _] [] Try.results43 ⟨lvN (by rfl) Try.isAgg26 Try.sizeOf26 (Mem.own (us := [.int .i64 _, .int .i64 _]) 7 (by rfl) (by rfl)) (by rfl), by rfl, trivial⟩ HSub.nil ?_
      show Value.tuple _ = _
      unfold Lg.holdsV
      rw [if_pos c2, c4]; rfl
    ·
      try simp only [Bool.not_eq_true', Bool.not_eq_false', decide_eq_true_eq, decide_eq_false_iff_not, ne_eq, Classical.not_not, Int.not_lt, Int.not_le] at c4
      have hin := inB1.1 c4
      obtain ⟨k, rfl⟩ : ∃ k : Nat, i = (k : Int) := Int.eq_ofNat_of_zero_le hin.1
      refine W_skip ?_
      refine Then_normal ?_
      refine W_seq ?_
      refine W_region_lit (fun ds => ?_)
      refine WS_det hF (by rfl) (y_move (c := .pointer _) (by rfl)) ?_
      refine WS_det hF (by rfl) (y_move (c := .int .i64 _) (by rfl)) ?_
      refine WS_det hF (by rfl) (y_callL (by rfl) (by rfl) Try.call92 (fun w hw => at_any kb l k w (Kn.own (a := a) (cap := cap) (ae := ae) (cape := cape) (bk := bk) (g := g) (fb := fb) (capf := capf) (junk := junk) (ab := ab) (bb := bb) (by unfold knBlocks; repeat (first | exact List.Sublist.refl _ | exact List.nil_sublist _ | apply List.Sublist.cons_cons | apply List.Sublist.cons)) c2 hx he w hw) (by omega))) ?_
      refine WS_store hF (i := 7) (by rfl) (by rfl) Try.sizeOf26 (by rfl) (by rfl) (by rfl) (by first | decide | exact Nat.le_of_ble_eq_true rfl | simp) ?_
      refine WS_det hF (by rfl) (y_assign (c := .int .i64 _) (by rfl)) ?_
      refine WS_nil ?_
      refine Then_normal ?_
      refine W_ret ?_
      refine Fin_ret [_, .int .i64 _] [] Try.results43 ⟨lvN (by rfl) Try.isAgg26 Try.sizeOf26 (Mem.own (us := [.int .i64 _, .int .i64 _]) 7 (by rfl) (by rfl)) (by rfl), by rfl, trivial⟩ HSub.nil ?_
      show Value.tuple _ = _
      unfold Lg.holdsV
      rw [if_pos c2, c4, if_pos rfl, Int.toNat_natCast]; rfl
theorem before_m (bk : Nat) (l : Lg) (i : Nat) (m : Int) (s : Sn) (w : World) (hB : Bk w bk l) (hi : i < l.es.length) (hs : s.Sm) (hm : m = (i : Int)) :
    Ct Try.prog 108 #[.pointer (some ⟨bk, 0, none⟩), .int .i64 m, .agg s.cells.toArray] w fun v _ => v = .agg (l.before i s).cells.toArray := by
  subst hm; exact before_any bk l i s w hB hi hs
def Lg.moved (l : Lg) (k : Nat) : Sn := if (l.e k).kind = 2 then (l.e k).size.met ((l.before k (l.hold k)).sub (l.aft (k + 1))) else (l.e k).size.met ((l.aft (k + 1)).sub (l.before k (l.hold k)))
def Lg.movedV (l : Lg) (i : Int) : Value :=
  if l.aerr = 0 then if inB 1 l.es.length [i] && !decide ((l.e (i - 1).toNat).kind = 3) then .tuple #[.agg (l.moved (i - 1).toNat).cells.toArray, .int .i64 0] else .tuple #[.agg Sn.z.cells.toArray, .int .i64 2] else .tuple #[.agg Sn.z.cells.toArray, .int .i64 l.aerr]
theorem moved_any (l : Lg) (a : Option Addr) (cap : Nat) (ae : Option Addr) (cape : Nat) (i : Int) (w : World) (hn : l.tk.n ≤ 1000000) (hx : Ints w a l.tk.n cap l.tk.pints) (he : Ens w ae l.es.length cape l.es) : Ct Try.prog 47 #[.agg #[.slice a l.tk.n cap, .int .i64 l.tk.leak, .int .i64 l.tk.foot, .int .i64 l.start.lo, .int .i64 l.start.hi, .slice ae l.es.length cape], .int .i64 i] w fun v _ => v = l.movedV i := by
  have hF := wide_wide
  refine Ct_start (args := [_, _]) Try.func47 (by rfl) Try.ntmps47 (by rfl) ?_
  refine W_seq ?_
  refine W_region_lit (fun ds => ?_)
  refine WS_new hF (by rfl) (y_box (by rfl)) (fun b1 => ?_)
  refine WS_new hF (by rfl) (y_alloc Try.zeroValue26 (by rfl)) (fun b2 => ?_)
  refine WS_det hF (by rfl) (y_assign (c := .int .i64 _) (by rfl)) ?_
  refine WS_nil ?_
  refine Then_normal ?_
  refine W_seq ?_
  refine W_region_lit (fun ds => ?_)
  refine WS_det hF (by rfl) (y_loadN (by rfl) Try.isAgg46 Try.sizeOf46 (Mem.own (us := [.slice _ _ _, .int .i64 _, .int .i64 _, .int .i64 _, .int .i64 _, .slice _ _ _]) 1 (by rfl) (by rfl)) (by rfl)) ?_
  refine WS_gen hF (by rfl) (y_callL (by rfl) (by rfl) Try.call88 (fun w hw => asked_any l a cap ae cape w hn (hx.st w hw) (he.st w hw))) ?_
  rintro _ Hg ⟨p, rfl, hg1, hg2⟩
  refine WS_det hF (by rfl) (y_move (c := .tuple _) (by rfl)) ?_
  refine WS_det hF (by rfl) (y_extract (c := .pointer _) (by rfl) (by rfl)) ?_
  refine WS_det hF (by rfl) (y_extract (c := .int .i64 _) (by rfl) (by rfl)) ?_
  refine WS_det hF (by rfl) (y_assign (c := .pointer _) (by rfl)) ?_
  refine WS_det hF (by rfl) (y_assign (c := .int .i64 _) (by rfl)) ?_
  refine WS_nil ?_
  refine Then_normal ?_
  refine W_seq ?_
  refine W_seq ?_
  refine W_region_lit (fun ds => ?_)
  refine WS_det hF (by rfl) (y_move (c := .int .i64 _) (by rfl)) ?_
  refine WS_det hF (by rfl) (y_neq (by rfl) (by rfl)) ?_
  refine WS_nil ?_
  refine Then_normal ?_
  refine W_cond (by rfl) (fun c2 => ?_) (fun c2 => ?_)
  ·
    try simp only [Bool.not_eq_true', Bool.not_eq_false', decide_eq_true_eq, decide_eq_false_iff_not, ne_eq, Classical.not_not, Int.not_lt, Int.not_le] at c2
    obtain rfl := hg2 c2
    refine W_seq ?_
    refine W_region_lit (fun ds => ?_)
    refine WS_det hF (by rfl) (y_buildL bd26 (by rfl)) ?_
    refine WS_det hF (by rfl) (y_move (c := .int .i64 _) (by rfl)) ?_
    refine WS_store hF (i := 0) (by rfl) (by rfl) Try.sizeOf26 (by rfl) (by rfl) (by rfl) (by first | decide | exact Nat.le_of_ble_eq_true rfl | simp) ?_
    refine WS_det hF (by rfl) (y_assign (c := .int .i64 _) (by rfl)) ?_
    refine WS_nil ?_
    refine Then_normal ?_
    refine W_ret ?_
    refine Then_ret ?_
    refine Fin_ret [_, .int .i64 _] [] Try.results47 ⟨lvN (by rfl) Try.isAgg26 Try.sizeOf26 (Mem.own (us := [.int .i64 _, .int .i64 _]) 0 (by rfl) (by rfl)) (by rfl), by rfl, trivial⟩ HSub.nil ?_
    show Value.tuple _ = _
    unfold Lg.movedV
    rw [if_neg c2]; rfl
  ·
    try simp only [Bool.not_eq_true', Bool.not_eq_false', decide_eq_true_eq, decide_eq_false_iff_not, ne_eq, Classical.not_not, Int.not_lt, Int.not_le] at c2
    obtain ⟨kb, rfl, bk, g, fb, capf, junk, ab, bb, rfl⟩ := hg1 c2
    have hok := l.ok_of (l.aerr0 c2).1
    have hne := (l.aerr0 c2).2
    have hfull := hok.tk.full_bd
    have hlb := hok.last_bd hne
    have h12 := hok.n12
    refine W_skip ?_
    refine Then_normal ?_
    refine W_seq ?_
    refine W_seq ?_
    refine W_region_lit (fun ds => ?_)
    refine WS_det hF (by rfl) (y_fieldAddr (by rfl) fa46_2) ?_
    refine WS_det hF (by rfl) (y_load1 (by rfl) Try.isAgg44 (Mem.own1 7 (by rfl) (by rfl))) ?_
    refine WS_det hF (by rfl) (y_len (by rfl) Try.runUnderlying44) ?_
    refine WS_det hF (by rfl) (y_move (c := .int .i64 _) (by rfl)) ?_
    refine WS_newS hF (by rfl) (y_buildSliceL bs22_1_0 (by rfl)) (fun b3 => ?_)
    refine WS_det hF (by rfl) (y_callL (by rfl) (by rfl) Try.call65 (fun w hw => in_any _ _ _ _ _ _ w (by decide) (by first | exact Ints.one 0 rfl w hw | exact Ints.two 0 rfl w hw))) ?_
    refine WS_det hF (by rfl) (y_not (by rfl)) ?_
    refine WS_det hF (by rfl) (y_move (c := .bool _) (by rfl)) ?_
    refine WS_split 27 (by rfl) (fun g4_7 => ?_) (fun g4_7 => ?_)
    ·
      try simp only [Bool.not_eq_true', Bool.not_eq_false', decide_eq_true_eq, decide_eq_false_iff_not, ne_eq, Classical.not_not, Int.not_lt, Int.not_le] at g4_7
      refine WS_no hF (by rfl) ?_
      refine WS_no hF (by rfl) ?_
      refine WS_no hF (by rfl) ?_
      refine WS_no hF (by rfl) ?_
      refine WS_no hF (by rfl) ?_
      refine WS_no hF (by rfl) ?_
      refine WS_no hF (by rfl) ?_
      refine WS_no hF (by rfl) ?_
      refine WS_det hF (by rfl) (by first | exact y_pick_t (c := .bool _) (by rfl) (by rfl) | exact y_pick_f (c := .bool _) (by rfl) (by rfl)) ?_
      refine WS_nil ?_
      refine Then_normal ?_
      refine W_cond (by rfl) (fun c4 => ?_) (fun c4 => ?_)
      ·
        try simp only [Bool.not_eq_true', Bool.not_eq_false', decide_eq_true_eq, decide_eq_false_iff_not, ne_eq, Classical.not_not, Int.not_lt, Int.not_le] at c4
        refine W_seq ?_
        refine W_region_lit (fun ds => ?_)
        refine WS_det hF (by rfl) (y_buildL bd26 (by rfl)) ?_
        refine WS_store hF (i := 7) (by rfl) (by rfl) Try.sizeOf26 (by rfl) (by rfl) (by rfl) (by first | decide | exact Nat.le_of_ble_eq_true rfl | simp) ?_
        refine WS_det hF (by rfl) (y_assign (c := .int .i64 _) (by rfl)) ?_
        refine WS_nil ?_
        refine Then_normal ?_
        refine W_ret ?_
        refine Then_ret ?_
        refine Fin_ret [_, .int .i64 _] [] Try.results47 ⟨lvN (by rfl) Try.isAgg26 Try.sizeOf26 (Mem.own (us := [.int .i64 _, .int .i64 _]) 7 (by rfl) (by rfl)) (by rfl), by rfl, trivial⟩ HSub.nil ?_
        show Value.tuple _ = _
        unfold Lg.movedV
        rw [if_pos c2, g4_7]; rfl
      · cases c4
    ·
      try simp only [Bool.not_eq_true', Bool.not_eq_false', decide_eq_true_eq, decide_eq_false_iff_not, ne_eq, Classical.not_not, Int.not_lt, Int.not_le] at g4_7
      have hin := inB1.1 g4_7
      obtain ⟨k, rfl⟩ : ∃ k : Nat, i = (k : Int) + 1 := ⟨(i - 1).toNat, by omega⟩
      obtain ⟨b, o, rfl, hc⟩ := he.cell k (by omega)
      change At w b _ (l.e k).cells at hc
      have hk : k < l.es.length := by omega
      have hsm := hok.hold_sm (k := k) (by omega) (fun j hj => hne j (by omega)) (hne k (by omega))
      have hdr := hok.drip_bd hk
      have hab := hok.aft_bd (i := k + 1) (by omega)
      have hbs : (l.before k (l.hold k)).Sm := by
        unfold Sn.Sm at hsm ⊢
        unfold Lg.before
        simp only
        omega
      have has : (l.aft (k + 1)).Sm := by unfold Sn.Sm; omega
      have hkk : ((k : Int) + 1 - 1).toNat = k := by omega
      refine WS_det hF (by rfl) (y_fieldAddr (by rfl) fa46_2) ?_
      refine WS_det hF (by rfl) (y_load1 (by rfl) Try.isAgg44 (Mem.own1 8 (by rfl) (by rfl))) ?_
      refine WS_det hF (by rfl) (y_move (c := .int .i64 _) (by rfl)) ?_
      refine WS_det hF (by rfl) (y_sub (by rfl) (by rfl) (by unfold I64; omega)) ?_
      refine WS_det hF (by rfl) (y_index (k := k) (by rfl) (by rfl) (by first | rfl | omega) (by first | decide | omega) Try.runUnderlying44 Try.sizeOf48) ?_
      refine WS_det hF (by rfl) (y_fieldAddr (by rfl) fa48_1) ?_
      refine WS_det hF (by rfl) (y_load1 (by rfl) Try.isAgg3 (by first | exact Mem.old1 (by assumption) | exact Mem.oldAt1 (by assumption) (by rfl) | exact Mem.old (by assumption) | exact Mem.oldAtL1 (by assumption) (by rfl) (by rfl))) ?_
      refine WS_det hF (by rfl) (y_eql (by rfl) (by rfl)) ?_
      refine WS_det hF (by rfl) (by first | exact y_pick_t (c := .bool _) (by rfl) (by rfl) | exact y_pick_f (c := .bool _) (by rfl) (by rfl)) ?_
      refine WS_nil ?_
      refine Then_normal ?_
      refine W_cond (by rfl) (fun c4 => ?_) (fun c4 => ?_)
      ·
        try simp only [Bool.not_eq_true', Bool.not_eq_false', decide_eq_true_eq, decide_eq_false_iff_not, ne_eq, Classical.not_not, Int.not_lt, Int.not_le] at c4
        refine W_seq ?_
        refine W_region_lit (fun ds => ?_)
        refine WS_det hF (by rfl) (y_buildL bd26 (by rfl)) ?_
        refine WS_store hF (i := 7) (by rfl) (by rfl) Try.sizeOf26 (by rfl) (by rfl) (by rfl) (by first | decide | exact Nat.le_of_ble_eq_true rfl | simp) ?_
        refine WS_det hF (by rfl) (y_assign (c := .int .i64 _) (by rfl)) ?_
        refine WS_nil ?_
        refine Then_normal ?_
        refine W_ret ?_
        refine Then_ret ?_
        refine Fin_ret [_, .int .i64 _] [] Try.results47 ⟨lvN (by rfl) Try.isAgg26 Try.sizeOf26 (Mem.own (us := [.int .i64 _, .int .i64 _]) 7 (by rfl) (by rfl)) (by rfl), by rfl, trivial⟩ HSub.nil ?_
        show Value.tuple _ = _
        unfold Lg.movedV
        rw [if_pos c2, if_neg (by rw [g4_7, Bool.true_and, hkk, decide_eq_true c4]; exact Bool.false_ne_true)]; rfl
      ·
        try simp only [Bool.not_eq_true', Bool.not_eq_false', decide_eq_true_eq, decide_eq_false_iff_not, ne_eq, Classical.not_not, Int.not_lt, Int.not_le] at c4
        refine W_skip ?_
        refine Then_normal ?_
        refine W_seq ?_
        apply W_drawMT 33 hF Trymixed [] [] [8, 9] (by rfl) (by decide +kernel) (by decide) HSub.refl
        intro ds
        refine P_det (by rfl) (Over_nil (y_fieldAddr (by rfl) fa46_2)) ?_
        refine P_det (by rfl) (Over_nil (y_load1 (by rfl) Try.isAgg44 (Mem.own1 8 (by rfl) (by rfl)))) ?_
        refine P_det (by rfl) (Over_nil (y_move (c := .int .i64 _) (by rfl))) ?_
        refine P_det (by rfl) (Over_nil (y_sub (by rfl) (by rfl) (by unfold I64; omega))) ?_
        refine P_det (by rfl) (Over_nil (y_index (k := k) (by rfl) (by rfl) (by first | rfl | omega) (by first | decide | omega) Try.runUnderlying44 Try.sizeOf48)) ?_
        refine P_det (by rfl) (Over_nil (y_loadN (by rfl) Try.isAgg48 Try.sizeOf48 (by first | exact Mem.old (by assumption) | exact Mem.oldAt (us := [.int .i64 _, .int .i64 _, .int .i64 _, .int .i64 _]) (by assumption) (by rfl) | exact Mem.oldAtL (us := [.int .i64 _, .int .i64 _, .int .i64 _, .int .i64 _]) (by assumption) (by rfl) (by rfl)) (by rfl))) ?_
        refine P_det (by rfl) (Over_nil (y_move (c := .pointer _) (by rfl))) ?_
        refine P_det (by rfl) (Over_nil (by first | exact y_nilCheck (by rfl) | exact y_nilCheckF (by rfl))) ?_
        refine P_det (by rfl) (Over_nil (y_fieldAddr (by rfl) fa127_0)) ?_
        refine P_det (by rfl) (Over_nil (y_load1 (by rfl) Try.isAgg108 (Mem.own1 1 (by rfl) (by rfl)))) ?_
        refine P_det (by rfl) (Over_nil (y_move (c := .int .i64 _) (by rfl))) ?_
        refine P_det (by rfl) (Over_nil (y_sub (by rfl) (by rfl) (by unfold I64; omega))) ?_
        refine P_det (by rfl) (Over_nil (y_move (c := .pointer _) (by rfl))) ?_
        refine P_det (by rfl) (Over_nil (by first | exact y_nilCheck (by rfl) | exact y_nilCheckF (by rfl))) ?_
        refine P_det (by rfl) (Over_nil (y_fieldAddr (by rfl) fa127_1)) ?_
        refine P_det (by rfl) (Over_nil (y_load1 (by rfl) Try.isAgg90 (Mem.own1 1 (by rfl) (by rfl)))) ?_
        refine P_det (by rfl) (Over_nil (y_move (c := .int .i64 _) (by rfl))) ?_
        refine P_det (by rfl) (Over_nil (y_sub (by rfl) (by rfl) (by unfold I64; omega))) ?_
        refine P_det (by rfl) (Over_nil (y_index (k := k) (by rfl) (by rfl) (by first | rfl | omega) (by first | decide | omega) Try.runUnderlying90 Try.sizeOf26)) ?_
        refine P_det (by rfl) (Over_nil (y_loadN (by rfl) Try.isAgg26 Try.sizeOf26 (Mem.rowJ sn_len 2 (by rfl) (k := k) (by omega) rfl (by omega)) (by rfl))) ?_
        refine P_det (by rfl) (Over_nil (y_callL (by rfl) (by rfl) Try.call108 (fun w hw => before_m bk l k _ (l.hold k) w (Bk.own (by repeat (first | exact List.mem_cons_self | apply List.mem_cons_of_mem)) (by repeat (first | exact List.mem_cons_self | apply List.mem_cons_of_mem)) hok hx he w hw) hk hsm (by omega)))) ?_
        refine P_det (by rfl) (Over_nil (y_move (c := .pointer _) (by rfl))) ?_
        refine P_det (by rfl) (Over_nil (by first | exact y_nilCheck (by rfl) | exact y_nilCheckF (by rfl))) ?_
        refine P_det (by rfl) (Over_nil (y_fieldAddr (by rfl) fa127_2)) ?_
        refine P_det (by rfl) (Over_nil (y_load1 (by rfl) Try.isAgg90 (Mem.own1 1 (by rfl) (by rfl)))) ?_
        refine P_det (by rfl) (Over_nil (y_move (c := .int .i64 _) (by rfl))) ?_
        refine P_det (by rfl) (Over_nil (y_index (k := k + 1) (by rfl) (by rfl) (by first | rfl | omega) (by first | decide | omega) Try.runUnderlying90 Try.sizeOf26)) ?_
        refine P_det (by rfl) (Over_nil (y_loadN (by rfl) Try.isAgg26 Try.sizeOf26 (Mem.row sn_len 3 (by rfl) (k := k + 1) (by omega) rfl (by omega)) (by rfl))) ?_
        apply P_newS _ (by rfl) (by rfl) (by rfl) (Over_nil (y_alloc Try.zeroValue48 (by rfl)))
        apply P_newS _ (by rfl) (by rfl) (by rfl) (Over_out (by rfl) (Over_nil (y_alloc Try.zeroValue26 (by rfl))))
        refine P_new (by rfl) (by rfl) (Over_out (by rfl) (Over_out (by rfl) (Over_nil (y_alloc Try.zeroValue26 (by rfl))))) ?_
        refine P_st 8 2 (by rfl) (by rfl) (by rfl) (by rfl) (by rfl) (Over_out (by rfl) (Over_out (by rfl) (Over_nil (st_new (fun _ => by rfl) Try.sizeOf48 (by rfl) (by rfl) (by first | decide | exact Nat.le_of_ble_eq_true rfl | simp))))) ?_
        refine P_st 9 1 (by rfl) (by rfl) (by rfl) (by rfl) (by rfl) (Over_out (by rfl) (Over_out (by rfl) (Over_nil (st_new (fun _ => by rfl) Try.sizeOf26 (by rfl) (by rfl) (by first | decide | exact Nat.le_of_ble_eq_true rfl | simp))))) ?_
        refine PW_end (by rfl) ?_
        refine OverAll_cons (fun w10 l10 => ?_)
        refine OverAll_cons (fun w9 l9 => ?_)
        refine OverAll_cons (fun w8 l8 => ?_)
        refine OverAll_nil ?_
        rintro ⟨⟨⟨-, h10⟩, h9⟩, h8⟩
        obtain ⟨bx10, rfl, rfl⟩ := h10
        obtain ⟨bx8, rfl, rfl⟩ := h8
        obtain ⟨bx9, rfl, rfl⟩ := h9
        refine WS_store hF (i := 2) (by rfl) (by rfl) Try.sizeOf26 (by rfl) (by rfl) (by rfl) (by first | decide | exact Nat.le_of_ble_eq_true rfl | simp) ?_
        refine WS_nil ?_
        refine Then_normal ?_
        refine W_seq ?_
        refine W_seq ?_
        refine W_region_lit (fun ds => ?_)
        refine WS_det hF (by rfl) (y_fieldAddr (by rfl) fa48_1) ?_
        refine WS_det hF (by rfl) (y_load1 (by rfl) Try.isAgg3 (Mem.own1 0 (by rfl) (by rfl))) ?_
        refine WS_det hF (by rfl) (y_eql (by rfl) (by rfl)) ?_
        refine WS_nil ?_
        refine Then_normal ?_
        refine W_cond (by rfl) (fun c7 => ?_) (fun c7 => ?_)
        ·
          try simp only [Bool.not_eq_true', Bool.not_eq_false', decide_eq_true_eq, decide_eq_false_iff_not, ne_eq, Classical.not_not, Int.not_lt, Int.not_le] at c7
          refine W_region_lit (fun ds => ?_)
          refine WS_det hF (by rfl) (y_loadN (by rfl) Try.isAgg26 Try.sizeOf26 (Mem.own (us := [.int .i64 _, .int .i64 _]) 2 (by rfl) (by rfl)) (by rfl)) ?_
          refine WS_det hF (by rfl) (y_loadN (by rfl) Try.isAgg26 Try.sizeOf26 (Mem.own (us := [.int .i64 _, .int .i64 _]) 1 (by rfl) (by rfl)) (by rfl)) ?_
          refine WS_store hF (i := 1) (by rfl) (by rfl) Try.sizeOf26 (by rfl) (by rfl) (by rfl) (by first | decide | exact Nat.le_of_ble_eq_true rfl | simp) ?_
          refine WS_store hF (i := 2) (by rfl) (by rfl) Try.sizeOf26 (by rfl) (by rfl) (by rfl) (by first | decide | exact Nat.le_of_ble_eq_true rfl | simp) ?_
          refine WS_nil ?_
          refine Then_normal ?_
          refine W_seq ?_
          apply W_draw1 hF Trymixed [1000000] (i := 10) (by rfl) (by decide +kernel)
          intro ds
          refine P_det (by rfl) (Over_out (by rfl) (Over_nil (y_fieldAddr (by rfl) fa48_2))) ?_
          refine P_det (by rfl) (Over_out (by rfl) (Over_nil (y_loadN (by rfl) Try.isAgg26 Try.sizeOf26 (Mem.own (us := [.int .i64 _, .int .i64 _]) 0 (by rfl) (by rfl)) (by rfl)))) ?_
          refine P_det (by rfl) (Over_out (by rfl) (Over_nil (y_loadN (by rfl) Try.isAgg26 Try.sizeOf26 (Mem.own (us := [.int .i64 _, .int .i64 _]) 2 (by rfl) (by rfl)) (by rfl)))) ?_
          refine P_det (by rfl) (Over_out (by rfl) (Over_nil (y_loadN (by rfl) Try.isAgg26 Try.sizeOf26 (Mem.own (us := [.int .i64 _, .int .i64 _]) 1 (by rfl) (by rfl)) (by rfl)))) ?_
          refine P_det (by rfl) (Over_out (by rfl) (Over_nil (y_callL (by rfl) (by rfl) Try.call96 (fun w hw => change_any (l.before k (l.hold k)) (l.aft (k + 1)) w hbs has)))) ?_
          refine P_det (by rfl) (Over_out (by rfl) (Over_nil (y_callL (by rfl) (by rfl) Try.call109 (fun w hw => met_any _ _ _ _ w)))) ?_
          refine P_st 1000000 0 (by rfl) (by rfl) (by rfl) (by rfl) (by rfl) (Over_nil (st_pre (fun _ => by rfl) (fun _ => by rfl) Try.sizeOf26 (by rfl) (by rfl) (by first | decide | exact Nat.le_of_ble_eq_true rfl | simp))) ?_
          refine P_det (by rfl) (Over_out (by rfl) (Over_nil (y_assign (c := .int .i64 _) (by rfl)))) ?_
          refine PW_end (by rfl) ?_
          refine OverAll_cons (fun w1000000 l1000000 => ?_)
          refine OverAll_nil ?_
          rintro ⟨-, h1000000⟩
          obtain rfl := h1000000
          refine Then_normal ?_
          refine W_ret ?_
          refine Fin_ret [_, .int .i64 _] [] Try.results47 ⟨lvN (by rfl) Try.isAgg26 Try.sizeOf26 (Mem.own (us := [.int .i64 _, .int .i64 _]) 0 (by rfl) (by rfl)) (by rfl), by rfl, trivial⟩ HSub.nil ?_
          show Value.tuple _ = _
          unfold Lg.movedV
          rw [if_pos c2, if_pos (by rw [g4_7, Bool.true_and, hkk, decide_eq_false c4]; rfl), hkk, Lg.moved, if_pos c7]; rfl
        ·
          try simp only [Bool.not_eq_true', Bool.not_eq_false', decide_eq_true_eq, decide_eq_false_iff_not, ne_eq, Classical.not_not, Int.not_lt, Int.not_le] at c7
          refine W_skip ?_
          refine Then_normal ?_
          refine W_seq ?_
          apply W_draw1 hF Trymixed [1000000] (i := 10) (by rfl) (by decide +kernel)
          intro ds
          refine P_det (by rfl) (Over_out (by rfl) (Over_nil (y_fieldAddr (by rfl) fa48_2))) ?_
          refine P_det (by rfl) (Over_out (by rfl) (Over_nil (y_loadN (by rfl) Try.isAgg26 Try.sizeOf26 (Mem.own (us := [.int .i64 _, .int .i64 _]) 0 (by rfl) (by rfl)) (by rfl)))) ?_
          refine P_det (by rfl) (Over_out (by rfl) (Over_nil (y_loadN (by rfl) Try.isAgg26 Try.sizeOf26 (Mem.own (us := [.int .i64 _, .int .i64 _]) 2 (by rfl) (by rfl)) (by rfl)))) ?_
          refine P_det (by rfl) (Over_out (by rfl) (Over_nil (y_loadN (by rfl) Try.isAgg26 Try.sizeOf26 (Mem.own (us := [.int .i64 _, .int .i64 _]) 1 (by rfl) (by rfl)) (by rfl)))) ?_
          refine P_det (by rfl) (Over_out (by rfl) (Over_nil (y_callL (by rfl) (by rfl) Try.call96 (fun w hw => change_any (l.aft (k + 1)) (l.before k (l.hold k)) w has hbs)))) ?_
          refine P_det (by rfl) (Over_out (by rfl) (Over_nil (y_callL (by rfl) (by rfl) Try.call109 (fun w hw => met_any _ _ _ _ w)))) ?_
          refine P_st 1000000 0 (by rfl) (by rfl) (by rfl) (by rfl) (by rfl) (Over_nil (st_pre (fun _ => by rfl) (fun _ => by rfl) Try.sizeOf26 (by rfl) (by rfl) (by first | decide | exact Nat.le_of_ble_eq_true rfl | simp))) ?_
          refine P_det (by rfl) (Over_out (by rfl) (Over_nil (y_assign (c := .int .i64 _) (by rfl)))) ?_
          refine PW_end (by rfl) ?_
          refine OverAll_cons (fun w1000000 l1000000 => ?_)
          refine OverAll_nil ?_
          rintro ⟨-, h1000000⟩
          obtain rfl := h1000000
          refine Then_normal ?_
          refine W_ret ?_
          refine Fin_ret [_, .int .i64 _] [] Try.results47 ⟨lvN (by rfl) Try.isAgg26 Try.sizeOf26 (Mem.own (us := [.int .i64 _, .int .i64 _]) 0 (by rfl) (by rfl)) (by rfl), by rfl, trivial⟩ HSub.nil ?_
          show Value.tuple _ = _
          unfold Lg.movedV
          rw [if_pos c2, if_pos (by rw [g4_7, Bool.true_and, hkk, decide_eq_false c4]; rfl), hkk, Lg.moved, if_neg c7]; rfl
def Lg.lostV (l : Lg) (i : Int) : Value :=
  if l.aerr = 0 then if inB 1 ((l.es.length : Int) - 1) [i] then .tuple #[.agg ((Sn.met ⟨0, l.drip i.toNat⟩ ((l.hold i.toNat).sub (l.ahd i.toNat)))).cells.toArray, .int .i64 0] else .tuple #[.agg Sn.z.cells.toArray, .int .i64 2] else .tuple #[.agg Sn.z.cells.toArray, .int .i64 l.aerr]
theorem lost_any (l : Lg) (a : Option Addr) (cap : Nat) (ae : Option Addr) (cape : Nat) (i : Int) (w : World) (hn : l.tk.n ≤ 1000000) (hx : Ints w a l.tk.n cap l.tk.pints) (he : Ens w ae l.es.length cape l.es) : Ct Try.prog 49 #[.agg #[.slice a l.tk.n cap, .int .i64 l.tk.leak, .int .i64 l.tk.foot, .int .i64 l.start.lo, .int .i64 l.start.hi, .slice ae l.es.length cape], .int .i64 i] w fun v _ => v = l.lostV i := by
  have hF := wide_wide
  refine Ct_start (args := [_, _]) Try.func49 (by rfl) Try.ntmps49 (by rfl) ?_
  refine W_seq ?_
  refine W_region_lit (fun ds => ?_)
  refine WS_new hF (by rfl) (y_box (by rfl)) (fun b1 => ?_)
  refine WS_new hF (by rfl) (y_alloc Try.zeroValue26 (by rfl)) (fun b2 => ?_)
  refine WS_det hF (by rfl) (y_assign (c := .int .i64 _) (by rfl)) ?_
  refine WS_nil ?_
  refine Then_normal ?_
  refine W_seq ?_
  refine W_region_lit (fun ds => ?_)
  refine WS_det hF (by rfl) (y_loadN (by rfl) Try.isAgg46 Try.sizeOf46 (Mem.own (us := [.slice _ _ _, .int .i64 _, .int .i64 _, .int .i64 _, .int .i64 _, .slice _ _ _]) 1 (by rfl) (by rfl)) (by rfl)) ?_
  refine WS_gen hF (by rfl) (y_callL (by rfl) (by rfl) Try.call88 (fun w hw => asked_any l a cap ae cape w hn (hx.st w hw) (he.st w hw))) ?_
  rintro _ Hg ⟨p, rfl, hg1, hg2⟩
  refine WS_det hF (by rfl) (y_move (c := .tuple _) (by rfl)) ?_
  refine WS_det hF (by rfl) (y_extract (c := .pointer _) (by rfl) (by rfl)) ?_
  refine WS_det hF (by rfl) (y_extract (c := .int .i64 _) (by rfl) (by rfl)) ?_
  refine WS_det hF (by rfl) (y_assign (c := .pointer _) (by rfl)) ?_
  refine WS_det hF (by rfl) (y_assign (c := .int .i64 _) (by rfl)) ?_
  refine WS_nil ?_
  refine Then_normal ?_
  refine W_seq ?_
  refine W_seq ?_
  refine W_region_lit (fun ds => ?_)
  refine WS_det hF (by rfl) (y_move (c := .int .i64 _) (by rfl)) ?_
  refine WS_det hF (by rfl) (y_neq (by rfl) (by rfl)) ?_
  refine WS_nil ?_
  refine Then_normal ?_
  refine W_cond (by rfl) (fun c2 => ?_) (fun c2 => ?_)
  ·
    try simp only [Bool.not_eq_true', Bool.not_eq_false', decide_eq_true_eq, decide_eq_false_iff_not, ne_eq, Classical.not_not, Int.not_lt, Int.not_le] at c2
    obtain rfl := hg2 c2
    refine W_seq ?_
    refine W_region_lit (fun ds => ?_)
    refine WS_det hF (by rfl) (y_buildL bd26 (by rfl)) ?_
    refine WS_det hF (by rfl) (y_move (c := .int .i64 _) (by rfl)) ?_
    refine WS_store hF (i := 0) (by rfl) (by rfl) Try.sizeOf26 (by rfl) (by rfl) (by rfl) (by first | decide | exact Nat.le_of_ble_eq_true rfl | simp) ?_
    refine WS_det hF (by rfl) (y_assign (c := .int .i64 _) (by rfl)) ?_
    refine WS_nil ?_
    refine Then_normal ?_
    refine W_ret ?_
    refine Then_ret ?_
    refine Fin_ret [_, .int .i64 _] [] Try.results49 ⟨lvN (by rfl) Try.isAgg26 Try.sizeOf26 (Mem.own (us := [.int .i64 _, .int .i64 _]) 0 (by rfl) (by rfl)) (by rfl), by rfl, trivial⟩ HSub.nil ?_
    show Value.tuple _ = _
    unfold Lg.lostV
    rw [if_neg c2]; rfl
  ·
    try simp only [Bool.not_eq_true', Bool.not_eq_false', decide_eq_true_eq, decide_eq_false_iff_not, ne_eq, Classical.not_not, Int.not_lt, Int.not_le] at c2
    obtain ⟨kb, rfl, bk, g, fb, capf, junk, ab, bb, rfl⟩ := hg1 c2
    have hok := l.ok_of (l.aerr0 c2).1
    have hne := (l.aerr0 c2).2
    have hfull := hok.tk.full_bd
    have hlb := hok.last_bd hne
    have h12 := hok.n12
    refine W_skip ?_
    refine Then_normal ?_
    refine W_seq ?_
    refine W_seq ?_
    refine W_region_lit (fun ds => ?_)
    refine WS_det hF (by rfl) (y_fieldAddr (by rfl) fa46_2) ?_
    refine WS_det hF (by rfl) (y_load1 (by rfl) Try.isAgg44 (Mem.own1 7 (by rfl) (by rfl))) ?_
    refine WS_det hF (by rfl) (y_len (by rfl) Try.runUnderlying44) ?_
    refine WS_det hF (by rfl) (y_sub (by rfl) (by rfl) (by unfold I64; omega)) ?_
    refine WS_det hF (by rfl) (y_move (c := .int .i64 _) (by rfl)) ?_
    refine WS_newS hF (by rfl) (y_buildSliceL bs22_1_0 (by rfl)) (fun b3 => ?_)
    refine WS_det hF (by rfl) (y_callL (by rfl) (by rfl) Try.call65 (fun w hw => in_any _ _ _ _ _ _ w (by decide) (by first | exact Ints.one 0 rfl w hw | exact Ints.two 0 rfl w hw))) ?_
    refine WS_det hF (by rfl) (y_not (by rfl)) ?_
    refine WS_nil ?_
    refine Then_normal ?_
    refine W_cond (by rfl) (fun c4 => ?_) (fun c4 => ?_)
    ·
      try simp only [Bool.not_eq_true', Bool.not_eq_false', decide_eq_true_eq, decide_eq_false_iff_not, ne_eq, Classical.not_not, Int.not_lt, Int.not_le] at c4
      refine W_seq ?_
      refine W_region_lit (fun ds => ?_)
      refine WS_det hF (by rfl) (y_buildL bd26 (by rfl)) ?_
      refine WS_store hF (i := 7) (by rfl) (by rfl) Try.sizeOf26 (by rfl) (by rfl) (by rfl) (by first | decide | exact Nat.le_of_ble_eq_true rfl | simp) ?_
      refine WS_det hF (by rfl) (y_assign (c := .int .i64 _) (by rfl)) ?_
      refine WS_nil ?_
      refine Then_normal ?_
      refine W_ret ?_
      refine Then_ret ?_
      refine Fin_ret [_, .int .i64 _] [] Try.results49 ⟨lvN (by rfl) Try.isAgg26 Try.sizeOf26 (Mem.own (us := [.int .i64 _, .int .i64 _]) 7 (by rfl) (by rfl)) (by rfl), by rfl, trivial⟩ HSub.nil ?_
      show Value.tuple _ = _
      unfold Lg.lostV
      rw [if_pos c2, c4]; rfl
    ·
      try simp only [Bool.not_eq_true', Bool.not_eq_false', decide_eq_true_eq, decide_eq_false_iff_not, ne_eq, Classical.not_not, Int.not_lt, Int.not_le] at c4
      have hin := inB1.1 c4
      obtain ⟨k, rfl⟩ : ∃ k : Nat, i = (k : Int) := Int.eq_ofNat_of_zero_le (by omega)
      have hk : k < l.es.length := by omega
      have hsm := hok.hold_sm (k := k) (by omega) (fun j hj => hne j (by omega)) (hne k (by omega))
      have hdr := hok.drip_bd hk
      have hab := hok.ahd_bd (i := k) hk
      have has : (l.ahd k).Sm := by unfold Sn.Sm; omega
      refine W_skip ?_
      refine Then_normal ?_
      refine W_seq ?_
      apply W_draw1 hF Trymixed [1000000] (i := 7) (by rfl) (by decide +kernel)
      intro ds
      refine P_det (by rfl) (Over_out (by rfl) (Over_nil (y_move (c := .pointer _) (by rfl)))) ?_
      refine P_det (by rfl) (Over_out (by rfl) (Over_nil (by first | exact y_nilCheck (by rfl) | exact y_nilCheckF (by rfl)))) ?_
      refine P_det (by rfl) (Over_out (by rfl) (Over_nil (y_fieldAddr (by rfl) fa127_0))) ?_
      refine P_det (by rfl) (Over_out (by rfl) (Over_nil (y_load1 (by rfl) Try.isAgg108 (Mem.own1 1 (by rfl) (by rfl))))) ?_
      refine P_det (by rfl) (Over_out (by rfl) (Over_nil (y_move (c := .int .i64 _) (by rfl)))) ?_
      refine P_det (by rfl) (Over_out (by rfl) (Over_nil (y_callL (by rfl) (by rfl) Try.call111 (fun w hw => drip_any bk l k w (Bk.own (by repeat (first | exact List.mem_cons_self | apply List.mem_cons_of_mem)) (by repeat (first | exact List.mem_cons_self | apply List.mem_cons_of_mem)) hok hx he w hw) hk)))) ?_
      refine P_det (by rfl) (Over_out (by rfl) (Over_nil (y_buildL bd26_1 (by rfl)))) ?_
      refine P_det (by rfl) (Over_out (by rfl) (Over_nil (y_move (c := .pointer _) (by rfl)))) ?_
      refine P_det (by rfl) (Over_out (by rfl) (Over_nil (by first | exact y_nilCheck (by rfl) | exact y_nilCheckF (by rfl)))) ?_
      refine P_det (by rfl) (Over_out (by rfl) (Over_nil (y_fieldAddr (by rfl) fa127_1))) ?_
      refine P_det (by rfl) (Over_out (by rfl) (Over_nil (y_load1 (by rfl) Try.isAgg90 (Mem.own1 1 (by rfl) (by rfl))))) ?_
      refine P_det (by rfl) (Over_out (by rfl) (Over_nil (y_move (c := .int .i64 _) (by rfl)))) ?_
      refine P_det (by rfl) (Over_out (by rfl) (Over_nil (y_index (k := k) (by rfl) (by rfl) (by first | rfl | omega) (by first | decide | omega) Try.runUnderlying90 Try.sizeOf26))) ?_
      refine P_det (by rfl) (Over_out (by rfl) (Over_nil (y_loadN (by rfl) Try.isAgg26 Try.sizeOf26 (Mem.rowJ sn_len 2 (by rfl) (k := k) (by omega) rfl (by omega)) (by rfl)))) ?_
      refine P_det (by rfl) (Over_out (by rfl) (Over_nil (y_move (c := .pointer _) (by rfl)))) ?_
      refine P_det (by rfl) (Over_out (by rfl) (Over_nil (by first | exact y_nilCheck (by rfl) | exact y_nilCheckF (by rfl)))) ?_
      refine P_det (by rfl) (Over_out (by rfl) (Over_nil (y_fieldAddr (by rfl) fa127_3))) ?_
      refine P_det (by rfl) (Over_out (by rfl) (Over_nil (y_load1 (by rfl) Try.isAgg90 (Mem.own1 1 (by rfl) (by rfl))))) ?_
      refine P_det (by rfl) (Over_out (by rfl) (Over_nil (y_move (c := .int .i64 _) (by rfl)))) ?_
      refine P_det (by rfl) (Over_out (by rfl) (Over_nil (y_index (k := k) (by rfl) (by rfl) (by first | rfl | omega) (by first | decide | omega) Try.runUnderlying90 Try.sizeOf26))) ?_
      refine P_det (by rfl) (Over_out (by rfl) (Over_nil (y_loadN (by rfl) Try.isAgg26 Try.sizeOf26 (Mem.row sn_len 4 (by rfl) (k := k) (by omega) rfl (by omega)) (by rfl)))) ?_
      refine P_det (by rfl) (Over_out (by rfl) (Over_nil (y_callL (by rfl) (by rfl) Try.call96 (fun w hw => change_any (l.hold k) (l.ahd k) w hsm has)))) ?_
      refine P_det (by rfl) (Over_out (by rfl) (Over_nil (y_callL (by rfl) (by rfl) Try.call109 (fun w hw => met_any _ _ _ _ w)))) ?_
      refine P_st 1000000 0 (by rfl) (by rfl) (by rfl) (by rfl) (by rfl) (Over_nil (st_pre (fun _ => by rfl) (fun _ => by rfl) Try.sizeOf26 (by rfl) (by rfl) (by first | decide | exact Nat.le_of_ble_eq_true rfl | simp))) ?_
      refine P_det (by rfl) (Over_out (by rfl) (Over_nil (y_assign (c := .int .i64 _) (by rfl)))) ?_
      refine PW_end (by rfl) ?_
      refine OverAll_cons (fun w1000000 l1000000 => ?_)
      refine OverAll_nil ?_
      rintro ⟨-, h1000000⟩
      obtain rfl := h1000000
      refine Then_normal ?_
      refine W_ret ?_
      refine Fin_ret [_, .int .i64 _] [] Try.results49 ⟨lvN (by rfl) Try.isAgg26 Try.sizeOf26 (Mem.own (us := [.int .i64 _, .int .i64 _]) 0 (by rfl) (by rfl)) (by rfl), by rfl, trivial⟩ HSub.nil ?_
      show Value.tuple _ = _
      unfold Lg.lostV
      rw [if_pos c2, c4, if_pos rfl, Int.toNat_natCast]; rfl
def Lg.tr (l : Lg) : Nat → Int
  | 0 => (l.at 0).lo
  | k + 1 => max (l.after k ⟨l.tr k, l.tr k⟩).lo (l.aft (k + 1)).lo
theorem Lg.Ok.after_lo {l : Lg} (h : l.Ok) {i : Nat} (hi : i < l.es.length) {s : Sn} (hs : 0 ≤ s.lo) : 0 ≤ (l.after i s).lo ∧ (l.after i s).lo ≤ s.lo + 1000000 := by
  have hd := h.drip_bd hi
  have hf := h.tk.full_bd
  have hz := Sn.inB_iff.1 (h.size i hi)
  have hhb : l.tk.height ≤ 160 := by have := h.tk.n21; unfold Tk.height; omega
  have hup := h.tk.eight_bd (x := (l.e i).size.lo)
  have hkd := h.kind i hi
  unfold Tk.most at hz
  unfold Lg.after Tk.forth Lg.before
  split
  · rename_i h1
    rw [if_neg (by omega)] at hz
    simp only [Sn.met, Sn.add, Tk.all]
    omega
  · split
    · rename_i h1 h2
      rw [if_neg (by omega)] at hz
      simp only [Sn.met, Sn.sub, Tk.all]
      omega
    · rename_i h1 h2
      rw [if_pos (by omega)] at hz
      have hup := hup (by omega) (by omega)
      simp only [Sn.met, Tk.dip, Tk.up]
      omega
theorem Lg.Ok.tr_bd {l : Lg} (h : l.Ok) (hne : ∀ k, k ≤ l.es.length → (l.hold k).empty = false) : ∀ k, k ≤ l.es.length → 0 ≤ l.tr k ∧ l.tr k ≤ 10000000 + 1000000 * k
  | 0, _ => by
    have := h.at_bd hne (i := 0) (by omega)
    show 0 ≤ (l.at 0).lo ∧ (l.at 0).lo ≤ _
    omega
  | k + 1, hk => by
    have ih := Lg.Ok.tr_bd h hne k (by omega)
    have h1 := h.after_lo (i := k) (by omega) (s := ⟨l.tr k, l.tr k⟩) ih.1
    have h2 := h.aft_bd hk
    simp only at h1
    show 0 ≤ max _ _ ∧ max _ _ ≤ _
    push_cast
    omega
def iEnc (x : Int) : List Value := [.int .i64 x]
theorem ii_len (x : Int) : (iEnc x).length = 1 := rfl
abbrev iRow (f : Nat → Int) (n : Nat) : List Value := rowOf iEnc f n
theorem Mem.iRowJ {C : Ctx} {H : List Blk} {b o n k : Nat} {f : Nat → Int} {T : TypeId} {junk : List Value} (i : Nat) (hi : H[i]? = some (b, CB (iRow f n ++ junk) T)) (hk : k < n) (ho : o = k * 1) : Mem C H b o [.int .i64 (f k)] :=
  Mem.rowJ (enc := iEnc) ii_len i hi hk rfl ho
def TruthV (l : Lg) (v : Value) (Hn : List Blk) : Prop :=
  (l.aerr ≠ 0 → v = .tuple #[.slice none 0 0, .int .i64 l.aerr] ∧ Hn = []) ∧ (l.aerr = 0 → ∃ tb cap junk, v = .tuple #[.slice (some ⟨tb, 0, none⟩) (l.es.length + 1) cap, .int .i64 0] ∧ l.es.length + 1 ≤ cap ∧ Hn = [(tb, CB (iRow l.tr (l.es.length + 1) ++ junk) 3)])
theorem truth_any (l : Lg) (a : Option Addr) (cap : Nat) (ae : Option Addr) (cape : Nat) (w : World) (hn : l.tk.n ≤ 1000000) (hx : Ints w a l.tk.n cap l.tk.pints) (he : Ens w ae l.es.length cape l.es) : Ct Try.prog 41 #[.agg #[.slice a l.tk.n cap, .int .i64 l.tk.leak, .int .i64 l.tk.foot, .int .i64 l.start.lo, .int .i64 l.start.hi, .slice ae l.es.length cape]] w (TruthV l) := by
  have hF := wide_wide
  refine Ct_start (args := [_]) Try.func41 (by rfl) Try.ntmps41 (by rfl) ?_
  refine W_seq ?_
  refine W_region_lit (fun ds => ?_)
  refine WS_new hF (by rfl) (y_box (by rfl)) (fun b1 => ?_)
  refine WS_det hF (by rfl) (y_assign (c := .slice _ _ _) (by rfl)) ?_
  refine WS_det hF (by rfl) (y_assign (c := .int .i64 _) (by rfl)) ?_
  refine WS_nil ?_
  refine Then_normal ?_
  refine W_seq ?_
  refine W_region_lit (fun ds => ?_)
  refine WS_det hF (by rfl) (y_loadN (by rfl) Try.isAgg46 Try.sizeOf46 (Mem.own (us := [.slice _ _ _, .int .i64 _, .int .i64 _, .int .i64 _, .int .i64 _, .slice _ _ _]) 0 (by rfl) (by rfl)) (by rfl)) ?_
  refine WS_gen hF (by rfl) (y_callL (by rfl) (by rfl) Try.call88 (fun w hw => asked_any l a cap ae cape w hn (hx.st w hw) (he.st w hw))) ?_
  rintro _ Hg ⟨p, rfl, hg1, hg2⟩
  refine WS_det hF (by rfl) (y_move (c := .tuple _) (by rfl)) ?_
  refine WS_det hF (by rfl) (y_extract (c := .pointer _) (by rfl) (by rfl)) ?_
  refine WS_det hF (by rfl) (y_extract (c := .int .i64 _) (by rfl) (by rfl)) ?_
  refine WS_det hF (by rfl) (y_assign (c := .pointer _) (by rfl)) ?_
  refine WS_det hF (by rfl) (y_assign (c := .int .i64 _) (by rfl)) ?_
  refine WS_nil ?_
  refine Then_normal ?_
  refine W_seq ?_
  refine W_seq ?_
  refine W_region_lit (fun ds => ?_)
  refine WS_det hF (by rfl) (y_move (c := .int .i64 _) (by rfl)) ?_
  refine WS_det hF (by rfl) (y_neq (by rfl) (by rfl)) ?_
  refine WS_nil ?_
  refine Then_normal ?_
  refine W_cond (by rfl) (fun c2 => ?_) (fun c2 => ?_)
  ·
    try simp only [Bool.not_eq_true', Bool.not_eq_false', decide_eq_true_eq, decide_eq_false_iff_not, ne_eq, Classical.not_not, Int.not_lt, Int.not_le] at c2
    obtain rfl := hg2 c2
    refine W_seq ?_
    refine W_region_lit (fun ds => ?_)
    refine WS_det hF (by rfl) (y_move (c := .int .i64 _) (by rfl)) ?_
    refine WS_det hF (by rfl) (y_assign (c := .slice _ _ _) (by rfl)) ?_
    refine WS_det hF (by rfl) (y_assign (c := .int .i64 _) (by rfl)) ?_
    refine WS_nil ?_
    refine Then_normal ?_
    refine W_ret ?_
    refine Then_ret ?_
    refine Fin_ret [.slice _ _ _, .int .i64 _] [] Try.results41 ⟨by rfl, by rfl, trivial⟩ HSub.nil ?_
    exact ⟨fun _ => ⟨rfl, rfl⟩, fun h => absurd h c2⟩
  ·
    try simp only [Bool.not_eq_true', Bool.not_eq_false', decide_eq_true_eq, decide_eq_false_iff_not, ne_eq, Classical.not_not, Int.not_lt, Int.not_le] at c2
    obtain ⟨kb, rfl, bk, g, fb, capf, junk, ab, bb, rfl⟩ := hg1 c2
    have hok := l.ok_of (l.aerr0 c2).1
    have hne := (l.aerr0 c2).2
    have hfull := hok.tk.full_bd
    have hlb := hok.last_bd hne
    have h12 := hok.n12
    refine W_skip ?_
    refine Then_normal ?_
    refine W_seq ?_
    refine W_region_lit (fun ds => ?_)
    refine WS_det hF (by rfl) (y_move (c := .pointer _) (by rfl)) ?_
    refine WS_det hF (by rfl) (y_callL (by rfl) (by rfl) Try.call92 (fun w hw => at_any kb l 0 w (Kn.own (a := a) (cap := cap) (ae := ae) (cape := cape) (bk := bk) (g := g) (fb := fb) (capf := capf) (junk := junk) (ab := ab) (bb := bb) (by unfold knBlocks; repeat (first | exact List.Sublist.refl _ | exact List.nil_sublist _ | apply List.Sublist.cons_cons | apply List.Sublist.cons)) c2 hx he w hw) (by omega))) ?_
    refine WS_det hF (by rfl) (y_field (by rfl) fd26_0) ?_
    refine WS_newS hF (by rfl) (y_buildSliceL bs22_1_0 (by rfl)) (fun b2 => ?_)
    refine WS_det hF (by rfl) (y_assign (c := .slice _ _ _) (by rfl)) ?_
    refine WS_nil ?_
    refine Then_normal ?_
    refine W_seq ?_
    refine W_seq ?_
    refine W_region_lit (fun ds => ?_)
    refine WS_det hF (by rfl) (y_fieldAddr (by rfl) fa46_2) ?_
    refine WS_det hF (by rfl) (y_load1 (by rfl) Try.isAgg44 (Mem.own1 7 (by rfl) (by rfl))) ?_
    refine WS_det hF (by rfl) (y_len (by rfl) Try.runUnderlying44) ?_
    refine WS_det hF (by rfl) (y_move (c := .int .i64 _) (by rfl)) ?_
    refine WS_nil ?_
    refine Then_normal ?_
    refine W_block ?_
    refine W_loop (γ := Nat × Nat × Nat × List Value) (fun p => p.1 ≤ l.es.length ∧ (iRow l.tr (p.1 + 1) ++ p.2.2.2).length = p.2.2.1 * 1 ∧ p.1 + 1 ≤ p.2.2.1) (fun p => [(4, .pointer (some ⟨kb, 0, none⟩)), (6, .slice (some ⟨p.2.1, 0, none⟩) (p.1 + 1) p.2.2.1), (23, .int .i64 (l.es.length : Int)), (24, .int .i64 (p.1 : Int))]) (fun p => (p.2.1, CB (iRow l.tr (p.1 + 1) ++ p.2.2.2) 3) :: knBlocks l a cap ae cape kb bk g fb capf junk ab bb) (fun p => l.es.length - p.1) ((0, b2, 1, [])) ⟨Nat.zero_le _, rfl, Nat.le_refl _⟩ (by repeat (first | exact trivial | refine ⟨by rfl, ?_⟩)) ((by repeat (first | exact List.Sublist.refl _ | exact List.nil_sublist _ | apply List.Sublist.cons_cons | apply List.Sublist.cons))) ?_
    rintro ⟨k, tb, tcap, tjunk⟩ e ⟨hk, hlen, hcap⟩
    refine W_seq ?_
    refine W_region_lit (fun ds => ?_)
    refine WS_det hF (by rfl) (y_lss (by rfl) (by rfl)) ?_
    refine WS_nil ?_
    refine Then_normal ?_
    refine W_seq ?_
    refine W_cond (by rfl) (fun c6 => ?_) (fun c6 => ?_)
    ·
      try simp only [Bool.not_eq_true', Bool.not_eq_false', decide_eq_true_eq, decide_eq_false_iff_not, ne_eq, Classical.not_not, Int.not_lt, Int.not_le] at c6
      simp only at hlen hcap
      have htb := hok.tr_bd hne k (by omega)
      have hto : (⟨l.tr k, l.tr k⟩ : Sn).Sm := by unfold Sn.Sm; simp only; omega
      refine W_skip ?_
      refine Then_normal ?_
      refine W_seq ?_
      refine W_block ?_
      refine W_seq ?_
      refine W_region_lit (fun ds => ?_)
      refine WS_det hF (by rfl) (y_move (c := .int .i64 _) (by rfl)) ?_
      refine WS_det hF (by rfl) (y_assign (c := .int .i64 _) (by rfl)) ?_
      refine WS_nil ?_
      refine Then_normal ?_
      refine W_seq ?_
      refine W_draw0 hF Trymixed [8] (by decide +kernel) (fun ds => ?_)
      refine P_det (by rfl) (Over_nil (y_move (c := .pointer _) (by rfl))) ?_
      refine P_det (by rfl) (Over_nil (by first | exact y_nilCheck (by rfl) | exact y_nilCheckF (by rfl))) ?_
      refine P_det (by rfl) (Over_nil (y_fieldAddr (by rfl) fa127_0)) ?_
      refine P_det (by rfl) (Over_nil (y_load1 (by rfl) Try.isAgg108 (Mem.own1 1 (by rfl) (by rfl)))) ?_
      refine P_det (by rfl) (Over_nil (y_move (c := .int .i64 _) (by rfl))) ?_
      refine P_det (by rfl) (Over_nil (y_move (c := .slice _ _ _) (by rfl))) ?_
      refine P_det (by rfl) (Over_nil (y_move (c := .int .i64 _) (by rfl))) ?_
      refine P_det (by rfl) (Over_nil (y_index (k := k) (by rfl) (by rfl) (by first | rfl | omega) (by first | decide | omega) Try.runUnderlying22 Try.sizeOf3)) ?_
      refine P_det (by rfl) (Over_nil (y_load1 (by rfl) Try.isAgg3 (Mem.iRowJ 0 (by rfl) (k := k) (by omega) (by omega)))) ?_
      refine P_det (by rfl) (Over_nil (y_move (c := .slice _ _ _) (by rfl))) ?_
      refine P_det (by rfl) (Over_nil (y_move (c := .int .i64 _) (by rfl))) ?_
      refine P_det (by rfl) (Over_nil (y_index (k := k) (by rfl) (by rfl) (by first | rfl | omega) (by first | decide | omega) Try.runUnderlying22 Try.sizeOf3)) ?_
      refine P_det (by rfl) (Over_nil (y_load1 (by rfl) Try.isAgg3 (Mem.iRowJ 0 (by rfl) (k := k) (by omega) (by omega)))) ?_
      refine P_det (by rfl) (Over_nil (y_buildL bd26_0_1 (by rfl))) ?_
      refine P_det (by rfl) (Over_nil (y_callL (by rfl) (by rfl) Try.call103 (fun w hw => after_any bk l k ⟨l.tr k, l.tr k⟩ w (Bk.own (by repeat (first | exact List.mem_cons_self | apply List.mem_cons_of_mem)) (by repeat (first | exact List.mem_cons_self | apply List.mem_cons_of_mem)) hok hx he w hw) (by omega) hto))) ?_
      apply P_newS _ (by rfl) (by rfl) (by rfl) (Over_nil (y_alloc Try.zeroValue26 (by rfl)))
      refine P_st 8 0 (by rfl) (by rfl) (by rfl) (by rfl) (by rfl) (Over_nil (st_new (fun _ => by rfl) Try.sizeOf26 (by rfl) (by rfl) (by first | decide | exact Nat.le_of_ble_eq_true rfl | simp))) ?_
      refine PW_end (by rfl) ?_
      refine OverAll_cons (fun w8 l8 => ?_)
      refine OverAll_nil ?_
      rintro ⟨-, h8⟩
      obtain ⟨bs, rfl, rfl⟩ := h8
      refine Then_normal ?_
      apply W_drawMT 14 hF Trymixed [] [] [] (by rfl) (by decide +kernel) (by decide) HSub.refl
      intro ds
      refine P_det (by rfl) (Over_nil (y_move (c := .slice _ _ _) (by rfl))) ?_
      refine P_det (by rfl) (Over_nil (y_fieldAddr (by rfl) fa26_0)) ?_
      refine P_det (by rfl) (Over_nil (y_load1 (by rfl) Try.isAgg3 (Mem.own1 0 (by rfl) (by rfl)))) ?_
      refine P_det (by rfl) (Over_nil (y_move (c := .pointer _) (by rfl))) ?_
      refine P_det (by rfl) (Over_nil (by first | exact y_nilCheck (by rfl) | exact y_nilCheckF (by rfl))) ?_
      refine P_det (by rfl) (Over_nil (y_fieldAddr (by rfl) fa127_2)) ?_
      refine P_det (by rfl) (Over_nil (y_load1 (by rfl) Try.isAgg90 (Mem.own1 2 (by rfl) (by rfl)))) ?_
      refine P_det (by rfl) (Over_nil (y_move (c := .int .i64 _) (by rfl))) ?_
      refine P_det (by rfl) (Over_nil (y_add (by rfl) (by rfl) (by unfold I64; omega))) ?_
      refine P_det (by rfl) (Over_nil (y_index (k := k + 1) (by rfl) (by rfl) (by first | rfl | omega) (by first | decide | omega) Try.runUnderlying90 Try.sizeOf26)) ?_
      refine P_det (by rfl) (Over_nil (y_fieldAddr (by rfl) fa26_0)) ?_
      refine P_det (by rfl) (Over_nil (y_load1 (by rfl) Try.isAgg3 (Mem.rowAt sn_len 4 (by rfl) (k := k + 1) (j := 0) (by omega) rfl (by rfl) (by omega)))) ?_
      refine P_det (by rfl) (Over_nil (y_max (by rfl) (by rfl))) ?_
      refine P_new (by rfl) (by rfl) (Over_nil (y_buildSliceL bs22_1_0 (by rfl))) ?_
      refine PW_end (by rfl) ?_
      refine OverAll_cons (fun w55 l55 => ?_)
      refine OverAll_nil ?_
      rintro ⟨-, h55⟩
      obtain ⟨b3, rfl, rfl⟩ := h55
      refine WS_append hF (H1 := [_, _]) (Hn := [(tb, CB (iRow l.tr (k + 1) ++ tjunk) 3)]) (by rfl) (by rfl) (by rfl) Try.underlying22 infInt (by rfl) (by rfl) (.inr ⟨tb, tjunk, rfl, rfl, by rw [rowOf_len ii_len], hlen, hcap⟩) (.inr ⟨_, _, rfl, Mem.own (us := [.int _ _]) 0 (by rfl) (by rfl)⟩) (by rfl) (by rfl) (by omega) (by omega) ?_
      intro ta2 tcap2 Hf2 hrow2
      have hrow3 : Row 3 1 ta2 (k + 1 + 1) tcap2 (iRow l.tr (k + 1 + 1)) Hf2 := by rw [iRow, rowOf_succ]; exact hrow2
      obtain ⟨_, h0, _⟩ | ⟨tb2, tjunk2, rfl, rfl, hl1, hlen2, hcap2⟩ := hrow3
      · omega
      refine WS_det hF (by rfl) (y_assign (c := .slice _ _ _) (by rfl)) ?_
      refine WS_nil ?_
      refine InB_normal ?_
      refine Then_normal ?_
      refine W_region_lit (fun ds => ?_)
      refine WS_det hF (by rfl) (y_add (by rfl) (by rfl) (by unfold I64; omega)) ?_
      refine WS_det hF (by rfl) (y_move (c := .int .i64 _) (by rfl)) ?_
      refine WS_nil ?_
      exact Loop_next (k + 1, tb2, tcap2, tjunk2) ⟨by omega, hlen2, hcap2⟩ (by repeat (first | exact trivial | refine ⟨by rfl, ?_⟩)) (by repeat (first | exact List.Sublist.refl _ | exact List.nil_sublist _ | apply List.Sublist.cons_cons | apply List.Sublist.cons)) (by simp only; omega)
    ·
      try simp only [Bool.not_eq_true', Bool.not_eq_false', decide_eq_true_eq, decide_eq_false_iff_not, ne_eq, Classical.not_not, Int.not_lt, Int.not_le] at c6
      refine W_exit ?_
      refine Then_exit ?_
      refine Loop_exit ?_
      refine InB_same ?_
      refine Then_normal ?_
      refine W_seq ?_
      refine W_region_lit (fun ds => ?_)
      refine WS_det hF (by rfl) (y_move (c := .slice _ _ _) (by rfl)) ?_
      refine WS_det hF (by rfl) (y_assign (c := .slice _ _ _) (by rfl)) ?_
      refine WS_det hF (by rfl) (y_assign (c := .int .i64 _) (by rfl)) ?_
      refine WS_nil ?_
      refine Then_normal ?_
      refine W_ret ?_
      refine Fin_ret [.slice _ _ _, .int .i64 _] [(tb, _)] Try.results41 ⟨by rfl, by rfl, trivial⟩ (HSub.sub (by repeat (first | exact List.nil_sublist _ | apply List.Sublist.cons_cons | apply List.Sublist.cons))) ?_
      simp only at hk hcap
      obtain rfl : k = l.es.length := by omega
      exact ⟨fun h => absurd c2 h, fun _ => ⟨tb, tcap, tjunk, rfl, hcap, rfl⟩⟩
end Go.Proofs.Ythkimgfgpphgnaa.T

/- Numbers without a sign; copies; readings that may go late, once more. No project text. -/
namespace Go.Eng
open Go.RowKit
section
variable {C : Ctx} {e : Env} {H : List Blk} {d : Option Tmp} {ty : TypeId} {pos : String} {af : Array Edge} {g : Option (Nat × Bool)} {x y : Operand} {t t' : TypeId} {m n : Int}
theorem wrapU {r : Int} (h0 : 0 ≤ r) (h1 : r < 18446744073709551616) : IntKind.u64.wrap r = r := by rw [IntKind.wrap_u64]; omega
theorem y_addU (hx : ev e x = .int .u64 m) (hy : ev e y = .int .u64 n) (h0 : 0 ≤ m + n) (h1 : m + n < 18446744073709551616) : YD C ⟨d, .binOp .add t x y t', ty, pos, af, g⟩ e H (.int .u64 (m + n)) :=
  yd_of fun w _ => by simp [execOp, hx, hy, eqGuard, binOp, Op.intArith, wrapU h0 h1]
theorem y_mulU (hx : ev e x = .int .u64 m) (hy : ev e y = .int .u64 n) (h0 : 0 ≤ m * n) (h1 : m * n < 18446744073709551616) : YD C ⟨d, .binOp .mul t x y t', ty, pos, af, g⟩ e H (.int .u64 (m * n)) :=
  yd_of fun w _ => by simp [execOp, hx, hy, eqGuard, binOp, Op.intArith, wrapU h0 h1]
theorem y_maskU (hx : ev e x = .int .u64 m) (hy : ev e y = .int .u64 4294967295) (h0 : 0 ≤ m) (h1 : m < 4294967296) : YD C ⟨d, .binOp .and t x y t', ty, pos, af, g⟩ e H (.int .u64 m) := yd_of fun w _ => by
  obtain ⟨k, rfl⟩ := Int.eq_ofNat_of_zero_le h0
  have h := bits_and_u64_nat k 4294967295 (by omega) (by omega)
  have e1 : k &&& 4294967295 = k % 4294967296 := Nat.and_two_pow_sub_one_eq_mod k 32
  rw [e1, Nat.mod_eq_of_lt (by omega)] at h
  have h2 : (Op.intBits .and .u64 (k : Int) 4294967295).run C.P w = .ok (.int .u64 (bits .and .u64 (k : Int) ((4294967295 : Nat) : Int))) w := rfl
  rw [h] at h2
  simp [execOp, hx, hy, eqGuard, binOp, h2]
theorem y_shrU0 (hx : ev e x = .int .u64 m) (hy : ev e y = .int .u64 32) (h0 : 0 ≤ m) (h1 : m < 4294967296) : YD C ⟨d, .binOp .shr t x y t', ty, pos, af, g⟩ e H (.int .u64 0) :=
  y_shr hx hy (by decide) (by
    rw [show min (32 : Int).toNat IntKind.u64.bits = 32 from rfl, Int.fdiv_eq_ediv_of_nonneg _ (by decide)]
    omega)
end
section
variable {C : Ctx} {F : Fence} {n : Nat} {ds : List Deferred} {all : Array Oper} {Q : Exit → Env → List Blk → Prop} {rest : List Oper} {e : Env} {H : List Blk}
variable {d : Option Tmp} {ty : TypeId} {pos : String} {af : Array Edge} {g : Option (Nat × Bool)}
theorem run_copy {x y : Operand} {T T2 E : TypeId} {i : TypeInfo} {b o b2 o2 dl dcap sl scap k : Nat} {vs us : List Value} {Tb : TypeId} {w : World} (hx : ev e x = .slice (some ⟨b, o, none⟩) dl dcap) (hy : ev e y = .slice (some ⟨b2, o2, none⟩) sl scap)
    (hT : C.P.underlying T = some (.slice E)) (hi : C.P.info? E = some i) (hk : k = min sl dl) (hm : At w b2 o2 us) (hl : us.length = k * i.size) (hone : us.all Value.oneCell' = true) (hb : w.heap[b]? = some (CB vs Tb)) (hfit : o + us.length ≤ vs.length) :
    (execOp (ev e) ⟨d, .call ⟨.builtin .copy, #[x, y], #[T, T2]⟩, ty, pos, af, g⟩).run C.P w = .ok (.value (.int .i64 (k : Int))) (w.setRow b (splice vs o us).toArray) := by
  have h := run_storeCells_at (P := C.P) b o Tb us 0 vs.toArray w hb (by simpa using hfit) (fun v hv => List.all_eq_true.1 hone v hv)
  simp only [Nat.add_zero] at h
  have h' : (storeCells ⟨b, o, none⟩ us).run C.P w = .ok () (w.setRow b (splice vs o us).toArray) := h
  have hf : (Builtin.firstCells i.size k (.slice (some ⟨b2, o2, none⟩) sl scap)).run C.P w = .ok us.toArray w := by
    have := run_loads (P := C.P) (i := 0) (acc := #[]) (by simpa using hm)
    simp [Builtin.firstCells, loadCells, ← hl, this]
  have hmin : Nat.min sl dl = k := hk.symm
  simp [execOp, resolve, invoke, builtin, hx, hy, Builtin.copy_, run_underlying hT, Builtin.lenOf, sizeOf, typeInfo, hi, hmin, hf, h', goInt]
theorem WS_copy (hF : Wide F) {x y : Operand} {T T2 E : TypeId} {b o b2 o2 dl dcap sl scap k sz by_ idx : Nat} {vs us : List Value} {z : Value} {Tb : TypeId} (hc : chk n all e ⟨d, .call ⟨.builtin .copy, #[x, y], #[T, T2]⟩, ty, pos, af, g⟩ = true)
    (hx : ev e x = .slice (some ⟨b, o, none⟩) dl dcap) (hy : ev e y = .slice (some ⟨b2, o2, none⟩) sl scap) (hT : C.P.underlying T = some (.slice E)) (hinf : (C.P.info? E).map (fun i => (i.zero, i.size, i.bytes)) = some (some z, sz, by_))
    (hk : k = min sl dl) (hm : Mem C H b2 o2 us) (hl : us.length = k * sz) (hone : us.all Value.oneCell' = true) (hi : H[idx]? = some (b, CB vs Tb)) (hfit : o + us.length ≤ vs.length)
    (hq : WS C F n ds all Q rest (updo e d (.int .i64 (k : Int))) (H.set idx (b, CB (splice vs o us) Tb))) :
    WS C F n ds all Q (⟨d, .call ⟨.builtin .copy, #[x, y], #[T, T2]⟩, ty, pos, af, g⟩ :: rest) e H := fun w hw act ha => by
  have hck := chk_spec hc
  have hwant := gd_wanted ha hck.2.1 (gOk_lt hck.2.2.1)
  have hb := hw.get hi
  unfold wpListIn
  rw [if_pos hwant]
  refine ⟨fun f _ => hF.fn f, ?_⟩
  obtain ⟨i, hii, hz, hsz, hby⟩ := info_parts hinf
  subst hsz
  rw [semAt_of hck.1, ha.eval, run_copy hx hy hT hii hk (hm w hw) hl hone hb hfit]
  exact hq _ (hw.set hi (swap_setRow hb)) _ (ha.put d hck.2.2.2)
end
section
variable {C : Ctx} {F : Fence} {n : Nat} {ds : List Deferred} {Q : Exit → Env → List Blk → Prop} {e : Env} {H : List Blk}
theorem ro_move {P : Program} {ρ : Operand → Value} {d : Option Tmp} {x : Operand} {ty : TypeId} {pos : String} {af : Array Edge} {g : Option (Nat × Bool)} (w : World) :
    (∃ v, (execOp ρ ⟨d, .move x, ty, pos, af, g⟩).run P w = .ok (.value v) w) ∨ ∃ h, (execOp ρ ⟨d, .move x, ty, pos, af, g⟩).run P w = .halt h w ∧ ∀ v, h ≠ .panic v := .inl ⟨ρ x, by simp [execOp]⟩
theorem W_drawZR {id : Nat} {l post' : List Oper} {H0 : List Blk} (m z : Nat) {om oz : Oper} {dz : Nat} (hF : Wide F) (hm : C.P.follows .mixedOrders = true) (pres : List Pre) (slots S : List Nat) (hs : pres.map (·.slot) = slots)
    (hph : (phased (l.take m).toArray slots && ((l.take m).all fun o => dOk n o.dst && gOk n (l.take m).toArray o) && (slots.all fun p => S.contains p) && tailZB l.toArray m z && Nat.ble m l.length) = true) (hnd : slots.Nodup)
    (hdrop : l.drop m = om :: post') (hoz : l[z]? = some oz) (hgz : oz.guard = none) (hdz : oz.dst = some dz) (hnd0 : noDefer oz = true) (hro : ∀ (ρ : Operand → Value) (w : World), (∃ v, (execOp ρ oz).run C.P w = .ok (.value v) w) ∨ ∃ h, (execOp ρ oz).run C.P w = .halt h w ∧ ∀ v, h ≠ .panic v)
    (hH : HSub H (pres.map (fun p => (p.b, p.o)) ++ H0))
    (hp : ∀ ds, PW (C.at ds) (l.take m).toArray S (fun us e => OverAll (fun e H => WS (C.at ds) F n ds l.toArray Q (om :: post') e H ∧ ∀ x, WS (C.at ds) F n ds l.toArray Q (om :: oz :: post') (upd e dz x) H) (fun _ => True) us e H0) H0 (l.take m) [] (pres.map Pre.un) e) :
    W C F n ds (.region id l.toArray true) Q e H := fun dd w hw a ha => by
  subst hs
  rw [List.all_map] at hph
  simp only [Bool.and_eq_true] at hph
  obtain ⟨⟨⟨⟨hph, hdk⟩, hsub⟩, ht⟩, hml⟩ := hph
  have hml : m ≤ l.length := Nat.le_of_ble_eq_true hml
  have hlen : (l.take m).length = m := by simp; omega
  have hl : l.take m ++ om :: post' = l := by rw [← hdrop]; exact List.take_append_drop m l
  have ht' : TailZ (l.take m ++ om :: post').toArray (l.take m).length z := by rw [hl, hlen]; exact tailZ_of ht
  have hozp : (l.take m)[z]? = some oz := by
    rw [List.getElem?_take, if_pos (by have := ht'.zlt; omega)]; exact hoz
  have hdzn : dz < n := by
    have := List.all_eq_true.1 hdk oz (List.mem_of_getElem? hozp)
    simp only [Bool.and_eq_true] at this
    have := this.1
    rw [hdz] at this
    simpa [dOk, Nat.blt_eq] using this
  refine wpIn_mono (Q := lift (C.at dd) n dd Q) (wpIn_region_any hm ?_) fun _ _ _ h => lift_M h
  have h1 := draw_any (C := C.at dd) (ds := dd) (F := F) (n := n) (ops := (l.take m).toArray) (Q := tailZQ (C.at dd) F n dd l.toArray om oz dz post' Q) (e := e) (H := H) (H0 := H0) hF pres S (fun _ hw => ⟨hw.1, hH _ _ hw.2, hw.3⟩) hph (by simpa using hdk) hsub hnd (hp dd) w hw a ha
  have h2 := tail_anyZ (P := C.P) (F := F) (pre := l.take m) (post' := post') (om := om) (oz := oz) (z := z) (Q := lift (C.at dd) n dd Q) (Q' := lift (C.at dd) n dd (tailZQ (C.at dd) F n dd l.toArray om oz dz post' Q)) ht' hozp (phased_spec hph).down
    (fun x hx a w ⟨e, H, g1, g2, g3⟩ => ⟨e, H, g1, g2, by cases x <;> first | exact g3 | exact absurd rfl hx⟩) (fun a w ⟨e, H, g1, g2, g3⟩ => by rw [hl]; exact g3.1 w g2 a g1)
    (fun a w hz => by
      rw [hl]
      unfold wpOpIn at hz
      rw [show (l.take m).toArray[z]? = some oz by simpa using hozp] at hz
      simp only [] at hz
      rw [if_pos (by unfold Region.wanted; rw [hgz])] at hz
      obtain ⟨_, hz⟩ := hz
      rw [semAt_of hnd0] at hz
      rcases hro a.eval w with ⟨v, hr⟩ | ⟨x, hr, hnp⟩
      · rw [hr] at hz
        obtain ⟨e', H', g1, g2, g3⟩ := hz
        rw [hdz] at g1
        have hrep : Rep n dd a (upd e' dz (a.tmps.getD dz undef)) := by
          refine ⟨by have := g1.size; simpa [Act.put] using this, by have := g1.defers; simpa [Act.put] using this, fun t => ?_⟩
          by_cases ht : t = dz
          · subst ht; rw [upd_same]
          · rw [upd_ne _ _ ht, ← g1.val t]
            simp only [Act.put, Array.getD_eq_getD_getElem?, Array.getElem?_setIfInBounds]
            rw [if_neg (fun h => ht h.symm)]
        exact g3.2 _ w g2 a hrep
      · rw [hr] at hz
        cases x
        case panic v => exact absurd rfl (hnp v)
        all_goals exact hz.elim)
    (l.take m).toArray.size l.toArray.size (Array.replicate (l.take m).toArray.size false) a w.drew (by simp) (fun j k hj => by
      unfold Lst at hj
      rw [Array.getD_eq_getD_getElem?, Array.getElem?_replicate] at hj
      split at hj <;> cases hj) (by
        have := congrArg List.length hl
        simp only [List.length_append] at this
        simp at this ⊢; omega) h1
  rw [hl] at h2
  have hrep : Array.replicate (l.take m).toArray.size false ++ Array.replicate (om :: post').length false = Array.replicate l.toArray.size false := by
    rw [Array.replicate_append_replicate]
    congr 1
    have := congrArg List.length hl
    simp only [List.length_append] at this
    simp at this ⊢; omega
  rw [hrep] at h2
  exact h2
end
section
variable {α : Type} {enc : α → List Value} {sz : Nat}
theorem rowOf_add (f : Nat → α) (a : Nat) : ∀ b, rowOf enc f (a + b) = rowOf enc f a ++ rowOf enc (fun j => f (a + j)) b
  | 0 => by simp [rowOf]
  | b + 1 => by rw [← Nat.add_assoc, rowOf_succ, rowOf_add f a b, rowOf_succ, List.append_assoc]
/-- Several elements are written. -/
theorem rowOf_splices (hz : ∀ x, (enc x).length = sz) {f g h : Nat → α} {k m n : Nat} (hkm : k + m ≤ n) (hg : ∀ j, j < m → h (k + j) = g j) (ho : ∀ j, j < n → j < k ∨ k + m ≤ j → h j = f j) : splice (rowOf enc f n) (k * sz) (rowOf enc g m) = rowOf enc h n := by
  obtain ⟨r, rfl⟩ : ∃ r, n = k + (m + r) := ⟨n - k - m, by omega⟩
  rw [rowOf_add f k, rowOf_add (fun j => f (k + j)) m, rowOf_add h k, rowOf_add (fun j => h (k + j)) m]
  rw [rowOf_congr (f := h) (g := f) k fun j hj => ho j (by omega) (.inl hj), rowOf_congr (f := fun j => h (k + j)) (g := g) m fun j hj => hg j hj,
    rowOf_congr (f := fun j => h (k + (m + j))) (g := fun j => f (k + (m + j))) r fun j hj => ho _ (by omega) (.inr (by omega))]
  unfold splice
  rw [rowOf_len hz g m, ← rowOf_len hz f k, List.take_left, List.append_assoc]
  congr 2
  rw [← List.drop_drop, List.drop_left, ← rowOf_len hz (fun j => f (k + j)) m, List.drop_left]
end
end Go.Eng

/- bits.Mul of one and a number, slices.Repeat of one number, slices.Max: the walks. -/
namespace Go.Proofs.Ythkimgfgpphgnaa.T
open Go.RowKit Go.Proofs Go.Eng
set_option maxRecDepth 100000
set_option linter.unusedVariables false
set_option linter.unusedSimpArgs false



theorem mul64_any (n : Int) (w : World) (h0 : 0 ≤ n) (h1 : n < 4294967296) : Ct Try.prog 145 #[.int .u64 1, .int .u64 n] w fun v _ => v = .tuple #[.int .u64 0, .int .u64 n] := by
  have hF := wide_wide
  refine Ct_start (args := [_, _]) Try.func145 (by rfl) Try.ntmps145 (by rfl) ?_
  refine W_seq ?_
  refine W_region_lit (fun ds => ?_)
  refine WS_det hF (by rfl) (y_assign (c := .int .u64 _) (by rfl)) ?_
  refine WS_det hF (by rfl) (y_assign (c := .int .u64 _) (by rfl)) ?_
  refine WS_nil ?_
  refine Then_normal ?_
  refine W_seq ?_
  refine W_region_lit (fun ds => ?_)
  refine WS_det hF (by rfl) (y_move (c := .int .u64 _) (by rfl)) ?_
  refine WS_det hF (by rfl) (y_maskU (by rfl) (by rfl) (by omega) (by omega)) ?_
  refine WS_det hF (by rfl) (y_assign (c := .int .u64 _) (by rfl)) ?_
  refine WS_nil ?_
  refine Then_normal ?_
  refine W_seq ?_
  refine W_region_lit (fun ds => ?_)
  refine WS_det hF (by rfl) (y_move (c := .int .u64 _) (by rfl)) ?_
  refine WS_det hF (by rfl) (y_shrU0 (by rfl) (by rfl) (by omega) (by omega)) ?_
  refine WS_det hF (by rfl) (y_assign (c := .int .u64 _) (by rfl)) ?_
  refine WS_nil ?_
  refine Then_normal ?_
  refine W_seq ?_
  refine W_region_lit (fun ds => ?_)
  refine WS_det hF (by rfl) (y_move (c := .int .u64 _) (by rfl)) ?_
  refine WS_det hF (by rfl) (y_maskU (by rfl) (by rfl) (by omega) (by omega)) ?_
  refine WS_det hF (by rfl) (y_assign (c := .int .u64 _) (by rfl)) ?_
  refine WS_nil ?_
  refine Then_normal ?_
  refine W_seq ?_
  refine W_region_lit (fun ds => ?_)
  refine WS_det hF (by rfl) (y_move (c := .int .u64 _) (by rfl)) ?_
  refine WS_det hF (by rfl) (y_shrU0 (by rfl) (by rfl) (by omega) (by omega)) ?_
  refine WS_det hF (by rfl) (y_assign (c := .int .u64 _) (by rfl)) ?_
  refine WS_nil ?_
  refine Then_normal ?_
  refine W_seq ?_
  refine W_region_lit (fun ds => ?_)
  refine WS_det hF (by rfl) (y_move (c := .int .u64 _) (by rfl)) ?_
  refine WS_det hF (by rfl) (y_move (c := .int .u64 _) (by rfl)) ?_
  refine WS_det hF (by rfl) (y_mulU (by rfl) (by rfl) (by omega) (by omega)) ?_
  refine WS_det hF (by rfl) (y_assign (c := .int .u64 _) (by rfl)) ?_
  refine WS_nil ?_
  refine Then_normal ?_
  refine W_seq ?_
  refine W_region_lit (fun ds => ?_)
  refine WS_det hF (by rfl) (y_move (c := .int .u64 _) (by rfl)) ?_
  refine WS_det hF (by rfl) (y_move (c := .int .u64 _) (by rfl)) ?_
  refine WS_det hF (by rfl) (y_mulU (by rfl) (by rfl) (by omega) (by omega)) ?_
  refine WS_det hF (by rfl) (y_move (c := .int .u64 _) (by rfl)) ?_
  refine WS_det hF (by rfl) (y_shrU0 (by rfl) (by rfl) (by omega) (by omega)) ?_
  refine WS_det hF (by rfl) (y_addU (by rfl) (by rfl) (by omega) (by omega)) ?_
  refine WS_det hF (by rfl) (y_assign (c := .int .u64 _) (by rfl)) ?_
  refine WS_nil ?_
  refine Then_normal ?_
  refine W_seq ?_
  refine W_region_lit (fun ds => ?_)
  refine WS_det hF (by rfl) (y_move (c := .int .u64 _) (by rfl)) ?_
  refine WS_det hF (by rfl) (y_maskU (by rfl) (by rfl) (by omega) (by omega)) ?_
  refine WS_det hF (by rfl) (y_assign (c := .int .u64 _) (by rfl)) ?_
  refine WS_nil ?_
  refine Then_normal ?_
  refine W_seq ?_
  refine W_region_lit (fun ds => ?_)
  refine WS_det hF (by rfl) (y_move (c := .int .u64 _) (by rfl)) ?_
  refine WS_det hF (by rfl) (y_shrU0 (by rfl) (by rfl) (by omega) (by omega)) ?_
  refine WS_det hF (by rfl) (y_assign (c := .int .u64 _) (by rfl)) ?_
  refine WS_nil ?_
  refine Then_normal ?_
  refine W_seq ?_
  refine W_region_lit (fun ds => ?_)
  refine WS_det hF (by rfl) (y_move (c := .int .u64 _) (by rfl)) ?_
  refine WS_det hF (by rfl) (y_move (c := .int .u64 _) (by rfl)) ?_
  refine WS_det hF (by rfl) (y_move (c := .int .u64 _) (by rfl)) ?_
  refine WS_det hF (by rfl) (y_mulU (by rfl) (by rfl) (by omega) (by omega)) ?_
  refine WS_det hF (by rfl) (y_addU (by rfl) (by rfl) (by omega) (by omega)) ?_
  refine WS_det hF (by rfl) (y_assign (c := .int .u64 _) (by rfl)) ?_
  refine WS_nil ?_
  refine Then_normal ?_
  refine W_seq ?_
  refine W_region_lit (fun ds => ?_)
  refine WS_det hF (by rfl) (y_move (c := .int .u64 _) (by rfl)) ?_
  refine WS_det hF (by rfl) (y_move (c := .int .u64 _) (by rfl)) ?_
  refine WS_det hF (by rfl) (y_mulU (by rfl) (by rfl) (by omega) (by omega)) ?_
  refine WS_det hF (by rfl) (y_move (c := .int .u64 _) (by rfl)) ?_
  refine WS_det hF (by rfl) (y_addU (by rfl) (by rfl) (by omega) (by omega)) ?_
  refine WS_det hF (by rfl) (y_move (c := .int .u64 _) (by rfl)) ?_
  refine WS_det hF (by rfl) (y_shrU0 (by rfl) (by rfl) (by omega) (by omega)) ?_
  refine WS_det hF (by rfl) (y_addU (by rfl) (by rfl) (by omega) (by omega)) ?_
  refine WS_det hF (by rfl) (y_assign (c := .int .u64 _) (by rfl)) ?_
  refine WS_nil ?_
  refine Then_normal ?_
  refine W_seq ?_
  refine W_region_lit (fun ds => ?_)
  refine WS_det hF (by rfl) (y_move (c := .int .u64 _) (by rfl)) ?_
  refine WS_det hF (by rfl) (y_move (c := .int .u64 _) (by rfl)) ?_
  refine WS_det hF (by rfl) (y_mulU (by rfl) (by rfl) (by omega) (by omega)) ?_
  refine WS_det hF (by rfl) (y_assign (c := .int .u64 _) (by rfl)) ?_
  refine WS_nil ?_
  refine Then_normal ?_
  refine W_ret ?_
  refine Fin_ret [.int .u64 _, .int .u64 _] [] Try.results145 ⟨by rfl, by rfl, trivial⟩ HSub.nil ?_
  show Value.tuple #[.int _ _, .int _ _] = _
  rw [Int.one_mul]; rfl
theorem mul_any (n : Int) (w : World) (h0 : 0 ≤ n) (h1 : n < 4294967296) : Ct Try.prog 142 #[.int .u64 1, .int .u64 n] w fun v _ => v = .tuple #[.int .u64 0, .int .u64 n] := by
  have hF := wide_wide
  refine Ct_start (args := [_, _]) Try.func142 (by rfl) Try.ntmps142 (by rfl) ?_
  refine W_seq ?_
  refine W_region_lit (fun ds => ?_)
  refine WS_det hF (by rfl) (y_assign (c := .int .u64 _) (by rfl)) ?_
  refine WS_det hF (by rfl) (y_assign (c := .int .u64 _) (by rfl)) ?_
  refine WS_nil ?_
  refine Then_normal ?_
  refine W_seq ?_
  refine W_cond (by rfl) (fun c0 => ?_) (fun c0 => ?_)
  · cases c0
  ·
    try simp only [Bool.not_eq_true', Bool.not_eq_false', decide_eq_true_eq, decide_eq_false_iff_not, ne_eq, Classical.not_not, Int.not_lt, Int.not_le] at c0
    refine W_skip ?_
    refine Then_normal ?_
    refine W_seq ?_
    refine W_region_lit (fun ds => ?_)
    refine WS_det hF (by rfl) (y_move (c := .int .u64 _) (by rfl)) ?_
    refine WS_det hF (by rfl) (y_move (c := .int .u64 _) (by rfl)) ?_
    refine WS_det hF (by rfl) (y_callL (by rfl) (by rfl) Try.call145 (fun w hw => mul64_any n w h0 h1)) ?_
    refine WS_det hF (by rfl) (y_move (c := .tuple _) (by rfl)) ?_
    refine WS_det hF (by rfl) (y_extract (c := .int .u64 _) (by rfl) (by rfl)) ?_
    refine WS_det hF (by rfl) (y_extract (c := .int .u64 _) (by rfl) (by rfl)) ?_
    refine WS_det hF (by rfl) (y_assign (c := .int .u64 _) (by rfl)) ?_
    refine WS_det hF (by rfl) (y_assign (c := .int .u64 _) (by rfl)) ?_
    refine WS_nil ?_
    refine Then_normal ?_
    refine W_seq ?_
    refine W_region_lit (fun ds => ?_)
    refine WS_det hF (by rfl) (y_move (c := .int .u64 _) (by rfl)) ?_
    refine WS_det hF (by rfl) (y_move (c := .int .u64 _) (by rfl)) ?_
    refine WS_det hF (by rfl) (y_assign (c := .int .u64 _) (by rfl)) ?_
    refine WS_det hF (by rfl) (y_assign (c := .int .u64 _) (by rfl)) ?_
    refine WS_nil ?_
    refine Then_normal ?_
    refine W_ret ?_
    refine Fin_ret [.int .u64 _, .int .u64 _] [] Try.results142 ⟨by rfl, by rfl, trivial⟩ HSub.nil ?_
    rfl
def maxN (f : Nat → Int) : Nat → Int
  | 0 => f 0
  | k + 1 => max (maxN f k) (f k)
theorem At.iRow {w : World} {b : Nat} {f : Nat → Int} {n k o : Nat} (h : At w b 0 (iRow f n)) (hk : k < n) (ho : o = k * 1) : At w b o [.int .i64 (f k)] := At.rowOf (enc := iEnc) ii_len h hk ho
theorem max_any (b : Nat) (n cap : Nat) (f : Nat → Int) (w : World) (hn : 0 < n) (hn1 : n ≤ 1000000) (hm : At w b 0 (iRow f n)) : Ct Try.prog 133 #[.slice (some ⟨b, 0, none⟩) n cap] w fun v _ => v = .int .i64 (maxN f n) := by
  have e0 : At w b (0 + 0 * 1) [.int .i64 (f 0)] := At.iRow hm hn (by omega)
  have hF := wide_wide
  refine Ct_start (args := [_]) Try.func133 (by rfl) Try.ntmps133 (by rfl) ?_
  refine W_seq ?_
  refine W_region_lit (fun ds => ?_)
  refine WS_det hF (by rfl) (y_assign (c := .int .i64 _) (by rfl)) ?_
  refine WS_nil ?_
  refine Then_normal ?_
  refine W_seq ?_
  refine W_seq ?_
  refine W_region_lit (fun ds => ?_)
  refine WS_det hF (by rfl) (y_move (c := .slice _ _ _) (by rfl)) ?_
  refine WS_det hF (by rfl) (y_len (by rfl) Try.runUnderlying22) ?_
  refine WS_det hF (by rfl) (y_lss (by rfl) (by rfl)) ?_
  refine WS_nil ?_
  refine Then_normal ?_
  refine W_cond (by rfl) (fun c1 => ?_) (fun c1 => ?_)
  · (simp only [decide_eq_true_eq] at c1; omega)
  ·
    try simp only [Bool.not_eq_true', Bool.not_eq_false', decide_eq_true_eq, decide_eq_false_iff_not, ne_eq, Classical.not_not, Int.not_lt, Int.not_le] at c1
    refine W_skip ?_
    refine Then_normal ?_
    refine W_seq ?_
    refine W_region_lit (fun ds => ?_)
    refine WS_det hF (by rfl) (y_move (c := .slice _ _ _) (by rfl)) ?_
    refine WS_det hF (by rfl) (y_index (k := 0) (by rfl) (by rfl) (by first | rfl | omega) (by first | decide | omega) Try.runUnderlying22 Try.sizeOf3) ?_
    refine WS_det hF (by rfl) (y_load1 (by rfl) Try.isAgg3 (by first | exact Mem.old1 (by assumption) | exact Mem.oldAt1 (by assumption) (by rfl) | exact Mem.old (by assumption) | exact Mem.oldAtL1 (by assumption) (by rfl) (by rfl))) ?_
    refine WS_det hF (by rfl) (y_assign (c := .int .i64 _) (by rfl)) ?_
    refine WS_nil ?_
    refine Then_normal ?_
    refine W_seq ?_
    refine W_seq ?_
    refine W_region_lit (fun ds => ?_)
    refine WS_det hF (by rfl) (y_assign (c := .int .i64 _) (by rfl)) ?_
    refine WS_nil ?_
    refine Then_normal ?_
    refine W_block ?_
    refine W_loop (γ := Nat) (fun k => 1 ≤ k ∧ k ≤ n) (fun k => [(0, .slice (some ⟨b, 0, none⟩) n cap), (3, .int .i64 (maxN f k)), (4, .int .i64 (k : Int))]) (fun _ => _) (fun k => n - k) (1) ⟨Nat.le_refl _, by omega⟩ ((by rw [show maxN f 1 = f 0 from Int.max_self _]; exact (by repeat (first | exact trivial | refine ⟨by rfl, ?_⟩)))) (List.Sublist.refl _) ?_
    rintro k e ⟨hk1, hk⟩
    refine W_seq ?_
    refine W_seq ?_
    refine W_region_lit (fun ds => ?_)
    refine WS_det hF (by rfl) (y_move (c := .int .i64 _) (by rfl)) ?_
    refine WS_det hF (by rfl) (y_move (c := .slice _ _ _) (by rfl)) ?_
    refine WS_det hF (by rfl) (y_len (by rfl) Try.runUnderlying22) ?_
    refine WS_det hF (by rfl) (y_lss (by rfl) (by rfl)) ?_
    refine WS_nil ?_
    refine Then_normal ?_
    refine W_cond (by rfl) (fun c5 => ?_) (fun c5 => ?_)
    ·
      try simp only [Bool.not_eq_true', Bool.not_eq_false', decide_eq_true_eq, decide_eq_false_iff_not, ne_eq, Classical.not_not, Int.not_lt, Int.not_le] at c5
      have ek : At w b (0 + k * 1) [.int .i64 (f k)] := At.iRow hm (by omega) (by omega)
      refine W_skip ?_
      refine Then_normal ?_
      refine W_seq ?_
      refine W_block ?_
      refine W_region_lit (fun ds => ?_)
      refine WS_det hF (by rfl) (y_move (c := .int .i64 _) (by rfl)) ?_
      refine WS_det hF (by rfl) (y_move (c := .slice _ _ _) (by rfl)) ?_
      refine WS_det hF (by rfl) (y_move (c := .int .i64 _) (by rfl)) ?_
      refine WS_det hF (by rfl) (y_index (k := k) (by rfl) (by rfl) (by first | rfl | omega) (by first | decide | omega) Try.runUnderlying22 Try.sizeOf3) ?_
      refine WS_det hF (by rfl) (y_load1 (by rfl) Try.isAgg3 (by first | exact Mem.old1 (by assumption) | exact Mem.oldAt1 (by assumption) (by rfl) | exact Mem.old (by assumption) | exact Mem.oldAtL1 (by assumption) (by rfl) (by rfl))) ?_
      refine WS_det hF (by rfl) (y_max (by rfl) (by rfl)) ?_
      refine WS_det hF (by rfl) (y_assign (c := .int .i64 _) (by rfl)) ?_
      refine WS_nil ?_
      refine InB_normal ?_
      refine Then_normal ?_
      refine W_region_lit (fun ds => ?_)
      refine WS_det hF (by rfl) (y_move (c := .int .i64 _) (by rfl)) ?_
      refine WS_det hF (by rfl) (y_add (by rfl) (by rfl) (by unfold I64; omega)) ?_
      refine WS_det hF (by rfl) (y_assign (c := .int .i64 _) (by rfl)) ?_
      refine WS_nil ?_
      exact Loop_next (k + 1) ⟨by omega, by omega⟩ (by repeat (first | exact trivial | refine ⟨by rfl, ?_⟩)) (by repeat (first | exact List.Sublist.refl _ | exact List.nil_sublist _ | apply List.Sublist.cons_cons | apply List.Sublist.cons)) (by omega)
    ·
      try simp only [Bool.not_eq_true', Bool.not_eq_false', decide_eq_true_eq, decide_eq_false_iff_not, ne_eq, Classical.not_not, Int.not_lt, Int.not_le] at c5
      refine W_exit ?_
      refine Then_exit ?_
      refine Loop_exit ?_
      refine InB_same ?_
      refine Then_normal ?_
      refine W_seq ?_
      refine W_region_lit (fun ds => ?_)
      refine WS_det hF (by rfl) (y_move (c := .int .i64 _) (by rfl)) ?_
      refine WS_det hF (by rfl) (y_assign (c := .int .i64 _) (by rfl)) ?_
      refine WS_nil ?_
      refine Then_normal ?_
      refine W_ret ?_
      refine Fin_ret [.int .i64 _] [] Try.results133 ⟨by rfl, trivial⟩ HSub.nil ?_
      obtain rfl : k = n := by omega
      rfl
def fillF (v0 : Int) (f i : Nat) : Int := if i < f then v0 else 0
theorem fill_one (v0 : Int) {N : Nat} (h : 0 < N) : splice (iRow (fun _ => 0) N) 0 [.int .i64 v0] = iRow (fillF v0 1) N := by
  have := rowOf_splice (enc := iEnc) (sz := 1) ii_len (f := fun _ => 0) (g := fillF v0 1) (k := 0) (n := N) h (us := [.int .i64 v0]) rfl (fun j hj hne => by unfold fillF; rw [if_neg (by omega)])
  rwa [Nat.zero_mul] at this
theorem fill_more (v0 : Int) {f m N : Nat} (h : f + m ≤ N) : splice (iRow (fillF v0 f) N) (0 + f * 1) (iRow (fun _ => v0) m) = iRow (fillF v0 (f + m)) N := by
  rw [Nat.zero_add]
  exact rowOf_splices (enc := iEnc) (sz := 1) ii_len h (fun j hj => by unfold fillF; rw [if_pos (by omega)]) (fun j hj ho => by
    unfold fillF
    by_cases h1 : j < f
    · rw [if_pos h1, if_pos (by omega)]
    · rw [if_neg h1, if_neg (by omega)])
theorem fill_pre (v0 : Int) {f m N : Nat} (h : m ≤ f) (hN : m ≤ N) : ∃ rest, iRow (fillF v0 f) N = iRow (fun _ => v0) m ++ rest := by
  obtain ⟨r, rfl⟩ : ∃ r, N = m + r := ⟨N - m, by omega⟩
  refine ⟨rowOf iEnc (fun j => fillF v0 f (m + j)) r, ?_⟩
  rw [iRow, rowOf_add, rowOf_congr (f := fillF v0 f) (g := fun _ => v0) m fun j hj => by unfold fillF; rw [if_pos (by omega)]]
theorem fill_all (v0 : Int) (N : Nat) : iRow (fillF v0 N) N = iRow (fun _ => v0) N := rowOf_congr _ fun j hj => by unfold fillF; rw [if_pos hj]
theorem iRow_one (f : Nat → Int) : ∀ n, (iRow f n).all Value.oneCell' = true
  | 0 => rfl
  | n + 1 => by rw [iRow, rowOf_succ, List.all_append, iRow_one f n]; rfl
section
variable {C : Ctx} {e : Env} {H : List Blk} {d : Option Tmp} {ty : TypeId} {pos : String} {af : Array Edge} {g : Option (Nat × Bool)}
theorem y_slice_hiE {x hi : Operand} {T E : TypeId} {b o len cap h sz : Nat} {n : Int} {kk : IntKind} (hx : ev e x = .slice (some ⟨b, o, none⟩) len cap) (hhi : ev e hi = .int kk n) (hn : n = (h : Int)) (hh : h ≤ cap) (hc : 0 < cap)
    (hT : ∀ w, (underlying T).run C.P w = .ok (.slice E) w) (hE : ∀ w, (sizeOf E).run C.P w = .ok sz w) :
    YD C ⟨d, .slice T x none (some hi) none, ty, pos, af, g⟩ e H (.slice (some ⟨b, o, none⟩) h cap) := by
  have := y_slice_hi (C := C) (H := H) (d := d) (ty := ty) (pos := pos) (af := af) (g := g) hx hhi hn hh hT hE
  rwa [shift_some (by omega), Nat.zero_mul, Nat.add_zero] at this
end
theorem repeat_any (b cap : Nat) (v0 : Int) (N : Nat) (w : World) (hN : 0 < N) (hN1 : N ≤ 100000) (hm : At w b 0 [.int .i64 v0]) : Ct Try.prog 131 #[.slice (some ⟨b, 0, none⟩) 1 cap, .int .i64 (N : Int)] w fun v Hn => ∃ nb, v = .slice (some ⟨nb, 0, none⟩) N N ∧ Hn = [(nb, CB (iRow (fun _ => v0) N) 3)] := by
  have hF := wide_wide
  refine Ct_start (args := [_, _]) Try.func131 (by rfl) Try.ntmps131 (by rfl) ?_
  refine W_seq ?_
  refine W_region_lit (fun ds => ?_)
  refine WS_det hF (by rfl) (y_assign (c := .slice _ _ _) (by rfl)) ?_
  refine WS_nil ?_
  refine Then_normal ?_
  refine W_seq ?_
  refine W_seq ?_
  refine W_region_lit (fun ds => ?_)
  refine WS_det hF (by rfl) (y_move (c := .int .i64 _) (by rfl)) ?_
  refine WS_det hF (by rfl) (y_lss (by rfl) (by rfl)) ?_
  refine WS_nil ?_
  refine Then_normal ?_
  refine W_cond (by rfl) (fun c1 => ?_) (fun c1 => ?_)
  · (simp only [decide_eq_true_eq] at c1; omega)
  ·
    try simp only [Bool.not_eq_true', Bool.not_eq_false', decide_eq_true_eq, decide_eq_false_iff_not, ne_eq, Classical.not_not, Int.not_lt, Int.not_le] at c1
    refine W_skip ?_
    refine Then_normal ?_
    refine W_seq ?_
    refine W_region_lit (fun ds => ?_)
    refine WS_det hF (by rfl) (y_move (c := .slice _ _ _) (by rfl)) ?_
    refine WS_det hF (by rfl) (y_len (by rfl) Try.runUnderlying22) ?_
    refine WS_det hF (by rfl) (y_conv_iu (by rfl) Try.runUnderlying3 Try.runUnderlying150 (by first | exact IntWalk.i64_in _ (by omega) | exact IntWalk.u64_in _ (by omega))) ?_
    refine WS_det hF (by rfl) (y_move (c := .int .i64 _) (by rfl)) ?_
    refine WS_det hF (by rfl) (y_conv_iu (by rfl) Try.runUnderlying3 Try.runUnderlying150 (by first | exact IntWalk.i64_in _ (by omega) | exact IntWalk.u64_in _ (by omega))) ?_
    refine WS_det hF (by rfl) (y_callL (by rfl) (by rfl) Try.call142 (fun w hw => mul_any (N : Int) w (by omega) (by omega))) ?_
    refine WS_det hF (by rfl) (y_move (c := .tuple _) (by rfl)) ?_
    refine WS_det hF (by rfl) (y_extract (c := .int .u64 _) (by rfl) (by rfl)) ?_
    refine WS_det hF (by rfl) (y_extract (c := .int .u64 _) (by rfl) (by rfl)) ?_
    refine WS_det hF (by rfl) (y_assign (c := .int .u64 _) (by rfl)) ?_
    refine WS_det hF (by rfl) (y_assign (c := .int .u64 _) (by rfl)) ?_
    refine WS_nil ?_
    refine Then_normal ?_
    refine W_seq ?_
    refine W_seq ?_
    refine W_region_lit (fun ds => ?_)
    refine WS_det hF (by rfl) (y_move (c := .int .u64 _) (by rfl)) ?_
    refine WS_det hF (by rfl) (y_gtr (by rfl) (by rfl)) ?_
    refine WS_det hF (by rfl) (y_move (c := .bool _) (by rfl)) ?_
    refine WS_split 23 (by rfl) (fun g4_2 => ?_) (fun g4_2 => ?_)
    ·
      try simp only [Bool.not_eq_true', Bool.not_eq_false', decide_eq_true_eq, decide_eq_false_iff_not, ne_eq, Classical.not_not, Int.not_lt, Int.not_le] at g4_2
      refine WS_no hF (by rfl) ?_
      refine WS_no hF (by rfl) ?_
      refine WS_det hF (by rfl) (by first | exact y_pick_t (c := .bool _) (by rfl) (by rfl) | exact y_pick_f (c := .bool _) (by rfl) (by rfl)) ?_
      refine WS_nil ?_
      refine Then_normal ?_
      refine W_cond (by rfl) (fun c4 => ?_) (fun c4 => ?_)
      · (simp only [decide_eq_true_eq] at c4; omega)
      · cases c4
    ·
      try simp only [Bool.not_eq_true', Bool.not_eq_false', decide_eq_true_eq, decide_eq_false_iff_not, ne_eq, Classical.not_not, Int.not_lt, Int.not_le] at g4_2
      refine WS_det hF (by rfl) (y_move (c := .int .u64 _) (by rfl)) ?_
      refine WS_det hF (by rfl) (y_gtr (by rfl) (by rfl)) ?_
      refine WS_det hF (by rfl) (by first | exact y_pick_t (c := .bool _) (by rfl) (by rfl) | exact y_pick_f (c := .bool _) (by rfl) (by rfl)) ?_
      refine WS_nil ?_
      refine Then_normal ?_
      refine W_cond (by rfl) (fun c4 => ?_) (fun c4 => ?_)
      · (simp only [decide_eq_true_eq] at c4; omega)
      ·
        try simp only [Bool.not_eq_true', Bool.not_eq_false', decide_eq_true_eq, decide_eq_false_iff_not, ne_eq, Classical.not_not, Int.not_lt, Int.not_le] at c4
        refine W_skip ?_
        refine Then_normal ?_
        refine W_seq ?_
        refine W_region_lit (fun ds => ?_)
        refine WS_det hF (by rfl) (y_move (c := .int .u64 _) (by rfl)) ?_
        refine WS_det hF (by rfl) (y_conv_iu (by rfl) Try.runUnderlying150 Try.runUnderlying3 (by first | exact IntWalk.i64_in _ (by omega) | exact IntWalk.u64_in _ (by omega))) ?_
        refine WS_newS hF (by rfl) (y_makeSlice (n := N) (by rfl) (by rfl) (by rfl) (by rfl) Try.underlying22 infInt (by rfl) (by rfl) (by omega) (by omega)) (fun b1 => ?_)
        refine WS_det hF (by rfl) (y_assign (c := .slice _ _ _) (by rfl)) ?_
        refine WS_nil ?_
        refine Then_normal ?_
        refine W_seq ?_
        refine W_region_lit (fun ds => ?_)
        refine WS_det hF (by rfl) (y_move (c := .slice _ _ _) (by rfl)) ?_
        refine WS_det hF (by rfl) (y_move (c := .slice _ _ _) (by rfl)) ?_
        refine WS_copy hF (k := 1) (idx := 0) (us := [.int .i64 v0]) (by rfl) (by rfl) (by rfl) Try.underlying22 infInt (by omega) (Mem.old hm) (by rfl) (by rfl) (by rfl) (by show 0 + 1 ≤ (iRow (fun _ => 0) N).length; rw [rowOf_len ii_len]; omega) ?_
        refine WS_det hF (by rfl) (y_assign (c := .int .i64 _) (by rfl)) ?_
        refine WS_nil ?_
        refine Then_normal ?_
        refine W_seq ?_
        refine W_block ?_
        refine W_loop (γ := Nat) (fun f => 1 ≤ f ∧ f ≤ N) (fun f => [(7, .slice (some ⟨b1, 0, none⟩) N N), (8, .int .i64 (f : Int))]) (fun f => [(b1, CB (iRow (fillF v0 f) N) 3)]) (fun f => N - f) (1) ⟨Nat.le_refl _, by omega⟩ (by repeat (first | exact trivial | refine ⟨by rfl, ?_⟩)) ((by rw [← fill_one v0 hN]; exact List.Sublist.refl _)) ?_
        rintro f e ⟨hf1, hf⟩
        refine W_seq ?_
        refine W_seq ?_
        refine W_region_lit (fun ds => ?_)
        refine WS_det hF (by rfl) (y_move (c := .int .i64 _) (by rfl)) ?_
        refine WS_det hF (by rfl) (y_move (c := .slice _ _ _) (by rfl)) ?_
        refine WS_det hF (by rfl) (y_len (by rfl) Try.runUnderlying22) ?_
        refine WS_det hF (by rfl) (y_lss (by rfl) (by rfl)) ?_
        refine WS_nil ?_
        refine Then_normal ?_
        refine W_cond (by rfl) (fun c8 => ?_) (fun c8 => ?_)
        ·
          try simp only [Bool.not_eq_true', Bool.not_eq_false', decide_eq_true_eq, decide_eq_false_iff_not, ne_eq, Classical.not_not, Int.not_lt, Int.not_le] at c8
          have hfN : f < N := by omega
          obtain ⟨rest, hrest⟩ := fill_pre v0 (f := f) (m := min f (N - f)) (N := N) (by omega) (by omega)
          refine W_skip ?_
          refine Then_normal ?_
          refine W_block ?_
          apply W_drawZR 7 0 hF Trymixed [] [] [] (by rfl) (by decide +kernel) (by decide) (by rfl) (by rfl) (by rfl) (by rfl) (by rfl) (fun _ w => ro_move w) HSub.refl
          intro ds
          refine P_det (by rfl) (Over_nil (y_move (c := .int .i64 _) (by rfl))) ?_
          refine P_det (by rfl) (Over_nil (y_move (c := .slice _ _ _) (by rfl))) ?_
          refine P_det (by rfl) (Over_nil (y_move (c := .int .i64 _) (by rfl))) ?_
          refine P_det (by rfl) (Over_nil (y_slice_loE (by rfl) (by rfl) (by rfl) (by omega) Try.runUnderlying22 Try.sizeOf3 (shift_some (by omega)))) ?_
          refine P_det (by rfl) (Over_nil (y_move (c := .slice _ _ _) (by rfl))) ?_
          refine P_det (by rfl) (Over_nil (y_move (c := .int .i64 _) (by rfl))) ?_
          refine P_det (by rfl) (Over_nil (y_slice_hiE (by rfl) (by rfl) (by rfl) (by omega) (by omega) Try.runUnderlying22 Try.sizeOf3)) ?_
          refine PW_end (by rfl) ?_
          refine OverAll_nil ?_
          rintro -
          refine ⟨?_, fun xz => ?_⟩
          ·
            refine WS_copy hF (k := min f (N - f)) (idx := 0) (us := iRow (fun _ => v0) (min f (N - f))) (by rfl) (by rfl) (by rfl) Try.underlying22 infInt (by rfl) (Mem.own (o := 0) 0 (by rfl) (by rw [List.drop_zero]; exact hrest)) (rowOf_len ii_len _ _) (iRow_one _ _) (by rfl) (by rw [rowOf_len ii_len, rowOf_len ii_len]; omega) ?_
            refine WS_det hF (by rfl) (y_add (by rfl) (by rfl) (by unfold I64; omega)) ?_
            refine WS_det hF (by rfl) (y_assign (c := .int .i64 _) (by rfl)) ?_
            refine WS_nil ?_
            refine InB_normal ?_
            exact Loop_next (f + min f (N - f)) ⟨by omega, by omega⟩ (by repeat (first | exact trivial | refine ⟨by rfl, ?_⟩)) (by rw [← fill_more v0 (f := f) (m := min f (N - f)) (by omega)]; exact List.Sublist.refl _) (by omega)
          ·
            refine WS_copy hF (k := min f (N - f)) (idx := 0) (us := iRow (fun _ => v0) (min f (N - f))) (by rfl) (by rfl) (by rfl) Try.underlying22 infInt (by rfl) (Mem.own (o := 0) 0 (by rfl) (by rw [List.drop_zero]; exact hrest)) (rowOf_len ii_len _ _) (iRow_one _ _) (by rfl) (by rw [rowOf_len ii_len, rowOf_len ii_len]; omega) ?_
            refine WS_det hF (by rfl) (y_move (c := .int .i64 _) (by rfl)) ?_
            refine WS_det hF (by rfl) (y_add (by rfl) (by rfl) (by unfold I64; omega)) ?_
            refine WS_det hF (by rfl) (y_assign (c := .int .i64 _) (by rfl)) ?_
            refine WS_nil ?_
            refine InB_normal ?_
            exact Loop_next (f + min f (N - f)) ⟨by omega, by omega⟩ (by repeat (first | exact trivial | refine ⟨by rfl, ?_⟩)) (by rw [← fill_more v0 (f := f) (m := min f (N - f)) (by omega)]; exact List.Sublist.refl _) (by omega)
        ·
          try simp only [Bool.not_eq_true', Bool.not_eq_false', decide_eq_true_eq, decide_eq_false_iff_not, ne_eq, Classical.not_not, Int.not_lt, Int.not_le] at c8
          refine W_exit ?_
          refine Then_exit ?_
          refine Loop_exit ?_
          refine InB_same ?_
          refine Then_normal ?_
          refine W_seq ?_
          refine W_region_lit (fun ds => ?_)
          refine WS_det hF (by rfl) (y_move (c := .slice _ _ _) (by rfl)) ?_
          refine WS_det hF (by rfl) (y_assign (c := .slice _ _ _) (by rfl)) ?_
          refine WS_nil ?_
          refine Then_normal ?_
          refine W_ret ?_
          refine Fin_ret [.slice _ _ _] [(b1, _)] Try.results131 ⟨by rfl, trivial⟩ (HSub.sub (by repeat (first | exact List.nil_sublist _ | apply List.Sublist.cons_cons | apply List.Sublist.cons))) ?_
          obtain rfl : f = N := by omega
          exact ⟨b1, rfl, by rw [fill_all]⟩
end Go.Proofs.Ythkimgfgpphgnaa.T

namespace Go.Proofs.Ythkimgfgpphgnaa.T
open Go.RowKit Go.Proofs Go.Eng
set_option maxRecDepth 100000
set_option linter.unusedVariables false
set_option linter.unusedSimpArgs false



def never : Int := -1099511627776
def mxF (g : Nat → Int) (a : Nat) : Nat → Int
  | 0 => never
  | n + 1 => max (mxF g a n) (g (a + n))
def mvA (hi : Int) (t : Nat) : Nat := (max 0 ((t : Int) - hi)).toNat
def mvN (F : Nat) (lo hi : Int) (t : Nat) : Nat := (min (F : Int) ((t : Int) - lo) - max 0 ((t : Int) - hi) + 1).toNat
def mvG (wo : Int) (best : Nat → Int) (t : Nat) (v : Nat) : Int := best v + wo * ((v : Int) - (t : Int))
def mv (F : Nat) (lo hi wo : Int) (best : Nat → Int) (t : Nat) : Int := mxF (mvG wo best t) (mvA hi t) (mvN F lo hi t)
def nxF (F : Nat) (lo hi wo : Int) (best : Nat → Int) (t c j : Nat) : Int := if j < t then mv F lo hi wo best j else if j = t then mxF (mvG wo best t) (mvA hi t) c else never
theorem nx_next (F : Nat) (lo hi wo : Int) (best : Nat → Int) {t c : Nat} (hc : c = mvN F lo hi t) : iRow (nxF F lo hi wo best t c) (F + 1) = iRow (nxF F lo hi wo best (t + 1) 0) (F + 1) := rowOf_congr _ fun j hj => by
  unfold nxF
  by_cases h1 : j < t
  · rw [if_pos h1, if_pos (by omega)]
  · rw [if_neg h1]
    by_cases h2 : j = t
    · rw [if_pos h2, if_pos (by omega), h2, hc]; rfl
    · rw [if_neg h2, if_neg (by omega)]
      split <;> rfl
theorem nx_zero (F : Nat) (lo hi wo : Int) (best : Nat → Int) : iRow (fun _ => never) (F + 1) = iRow (nxF F lo hi wo best 0 0) (F + 1) := rowOf_congr _ fun j hj => by
  unfold nxF
  rw [if_neg (by omega)]
  split <;> rfl
theorem nx_end (F : Nat) (lo hi wo : Int) (best : Nat → Int) (c : Nat) : iRow (nxF F lo hi wo best (F + 1) c) (F + 1) = iRow (mv F lo hi wo best) (F + 1) := rowOf_congr _ fun j hj => by
  unfold nxF; rw [if_pos hj]
theorem nx_step (F : Nat) (lo hi wo : Int) (best : Nat → Int) {t c : Nat} (ht : t < F + 1) : splice (iRow (nxF F lo hi wo best t c) (F + 1)) (0 + t * 1) [.int .i64 (max (mxF (mvG wo best t) (mvA hi t) c) (best (mvA hi t + c) + wo * ((mvA hi t : Int) + (c : Int) - (t : Int))))] = iRow (nxF F lo hi wo best t (c + 1)) (F + 1) := by
  rw [Nat.zero_add]
  refine rowOf_splice (enc := iEnc) (sz := 1) ii_len ht ?_ fun j hj hne => ?_
  · unfold nxF iEnc
    rw [if_neg (by omega), if_pos rfl, ← Int.natCast_add]; rfl
  · unfold nxF
    rw [if_neg hne, if_neg hne]
theorem Mem.iRowE {C : Ctx} {H : List Blk} {b o n k : Nat} {f : Nat → Int} {v : Int} {T : TypeId} (i : Nat) (hi : H[i]? = some (b, CB (iRow f n) T)) (hk : k < n) (hs : f k = v) (ho : o = k * 1) : Mem C H b o [.int .i64 v] :=
  Mem.row (enc := iEnc) ii_len i hi hk hs ho
theorem mxF_bd {g : Nat → Int} {a : Nat} {m : Int} (hm : never ≤ m) : ∀ n, (∀ j, j < n → g (a + j) ≤ m) → never ≤ mxF g a n ∧ mxF g a n ≤ m
  | 0, _ => ⟨Int.le_refl _, hm⟩
  | n + 1, h => by
    have h1 := mxF_bd hm n fun j hj => h j (by omega)
    have h2 := h n (by omega)
    show never ≤ max _ _ ∧ max _ _ ≤ m
    omega

theorem moves_cs (w0 : World) (ds0 out0 : List Deferred) (pk pb ob kb F : Nat) (l : Lg) (s : Sn) (wo m : Int) (best : Nat → Int) (G : List Blk) (hK : Kn w0 kb l) (hfull : l.tk.full = (F : Int)) (hwo : wo = -1 ∨ wo = 0 ∨ wo = 1) (hs : s.Sm)
    (hb : ∀ j, j ≤ F → never ≤ best j ∧ best j ≤ m) (hm0 : 0 ≤ m) (hm : m ≤ 1000000) :
    Cs ⟨Try.prog, w0, ds0, out0⟩ 132 #[.agg s.cells.toArray, .int .i64 wo, .pointer (some ⟨pk, 0, none⟩), .pointer (some ⟨pb, 0, none⟩)]
      ((pb, CB [.slice (some ⟨ob, 0, none⟩) (F + 1) (F + 1)] 22) :: (ob, CB (iRow best (F + 1)) 3) :: (pk, CB [.pointer (some ⟨kb, 0, none⟩)] 123) :: G)
      fun _ H' => ∃ nb, H' = (pb, CB [.slice (some ⟨nb, 0, none⟩) (F + 1) (F + 1)] 22) :: (nb, CB (iRow (mv F s.lo s.hi wo best) (F + 1)) 3) :: (pk, CB [.pointer (some ⟨kb, 0, none⟩)] 123) :: G := by
  obtain ⟨hok, hne, bk, fb, capf, ab, bb, k3, _, _, _, _, g, a, cap, ae, cape, k4, ⟨_, a2, cap2, hg, _⟩, _⟩ := hK
  have hfb := hok.tk.full_bd
  have hF6 : F ≤ 600 := by omega
  have hnv : never = -1099511627776 := rfl
  rw [hfull] at hg
  unfold Sn.Sm at hs
  have hF := wide_wide
  refine Cs_start (args := [_, _, _, _]) Try.func132 (by rfl) Try.ntmps132 (by rfl) ?_
  refine W_seq ?_
  refine W_region_lit (fun ds => ?_)
  refine WS_new hF (by rfl) (y_box (by rfl)) (fun b1 => ?_)
  refine WS_nil ?_
  refine Then_normal ?_
  refine W_seq ?_
  refine W_region_lit (fun ds => ?_)
  refine WS_newS hF (by rfl) (y_buildSliceL bs22_1_0 (by rfl)) (fun b2 => ?_)
  refine WS_det hF (by rfl) (y_load1 (by rfl) Try.isAgg123 (Mem.own1 4 (by rfl) (by rfl))) ?_
  refine WS_det hF (by rfl) (by first | exact y_nilCheck (by rfl) | exact y_nilCheckF (by rfl)) ?_
  refine WS_det hF (by rfl) (y_fieldAddr (by rfl) fa127_0) ?_
  refine WS_det hF (by rfl) (y_load1 (by rfl) Try.isAgg108 (by first | exact Mem.old1 (by assumption) | exact Mem.oldAt1 (by assumption) (by rfl) | exact Mem.old (by assumption) | exact Mem.oldAtL1 (by assumption) (by rfl) (by rfl))) ?_
  refine WS_det hF (by rfl) (by first | exact y_nilCheck (by rfl) | exact y_nilCheckF (by rfl)) ?_
  refine WS_det hF (by rfl) (y_fieldAddr (by rfl) fa119_0) ?_
  refine WS_det hF (by rfl) (y_load1 (by rfl) Try.isAgg93 (by first | exact Mem.old1 (by assumption) | exact Mem.oldAt1 (by assumption) (by rfl) | exact Mem.old (by assumption) | exact Mem.oldAtL1 (by assumption) (by rfl) (by rfl))) ?_
  refine WS_det hF (by rfl) (by first | exact y_nilCheck (by rfl) | exact y_nilCheckF (by rfl)) ?_
  refine WS_det hF (by rfl) (y_fieldAddr (by rfl) fa98_1) ?_
  refine WS_det hF (by rfl) (y_load1 (by rfl) Try.isAgg3 (by first | exact Mem.old1 (by assumption) | exact Mem.oldAt1 (by assumption) (by rfl) | exact Mem.old (by assumption) | exact Mem.oldAtL1 (by assumption) (by rfl) (by rfl))) ?_
  refine WS_det hF (by rfl) (y_add (by rfl) (by rfl) (by unfold I64; omega)) ?_
  refine WS_gen hF (by rfl) (y_callL (by rfl) (by rfl) Try.call131 (fun w hw => repeat_any b2 1 never (F + 1) w (by omega) (by omega) (Mem.own (us := [.int _ _]) 0 (by rfl) (by rfl) w hw))) ?_
  rintro _ _ ⟨nb, rfl, rfl⟩
  refine WS_det hF (by rfl) (y_assign (c := .slice _ _ _) (by rfl)) ?_
  refine WS_nil ?_
  refine Then_normal ?_
  refine W_seq ?_
  refine W_seq ?_
  refine W_region_lit (fun ds => ?_)
  refine WS_det hF (by rfl) (y_move (c := .slice _ _ _) (by rfl)) ?_
  refine WS_det hF (by rfl) (y_len (by rfl) Try.runUnderlying22) ?_
  refine WS_det hF (by rfl) (y_move (c := .int .i64 _) (by rfl)) ?_
  refine WS_nil ?_
  refine Then_normal ?_
  refine W_block ?_
  refine W_loop (γ := Nat) (fun t => t ≤ F + 1) (fun t => [(1, .int .i64 wo), (2, .pointer (some ⟨pk, 0, none⟩)), (3, .pointer (some ⟨pb, 0, none⟩)), (4, .pointer (some ⟨b1, 0, none⟩)), (6, .slice (some ⟨nb, 0, none⟩) (F + 1) (F + 1)), (23, .int .i64 ((F + 1 : Nat) : Int)), (24, .int .i64 (t : Int))]) (fun t => (nb, CB (iRow (nxF F s.lo s.hi wo best t 0) (F + 1)) 3) :: (b1, CB s.cells 26) :: (pb, CB [.slice (some ⟨ob, 0, none⟩) (F + 1) (F + 1)] 22) :: (ob, CB (iRow best (F + 1)) 3) :: (pk, CB [.pointer (some ⟨kb, 0, none⟩)] 123) :: G) (fun t => F + 1 - t) (0) (Nat.zero_le _) (by repeat (first | exact trivial | refine ⟨by rfl, ?_⟩)) ((by rw [← nx_zero]; repeat (first | exact List.Sublist.refl _ | apply List.Sublist.cons_cons | apply List.Sublist.cons))) ?_
  intro t e ht
  refine W_seq ?_
  refine W_region_lit (fun ds => ?_)
  refine WS_det hF (by rfl) (y_lss (by rfl) (by rfl)) ?_
  refine WS_nil ?_
  refine Then_normal ?_
  refine W_seq ?_
  refine W_cond (by rfl) (fun c3 => ?_) (fun c3 => ?_)
  ·
    try simp only [Bool.not_eq_true', Bool.not_eq_false', decide_eq_true_eq, decide_eq_false_iff_not, ne_eq, Classical.not_not, Int.not_lt, Int.not_le] at c3
    have htF : t < F + 1 := by omega
    have hA : ((mvA s.hi t : Nat) : Int) = max 0 ((t : Int) - s.hi) := by unfold mvA; omega
    have hNn : ((mvN F s.lo s.hi t : Nat) : Int) = max 0 (min (F : Int) ((t : Int) - s.lo) - max 0 ((t : Int) - s.hi) + 1) := by unfold mvN; omega
    refine W_skip ?_
    refine Then_normal ?_
    refine W_seq ?_
    refine W_block ?_
    refine W_seq ?_
    refine W_region_lit (fun ds => ?_)
    refine WS_det hF (by rfl) (y_move (c := .int .i64 _) (by rfl)) ?_
    refine WS_det hF (by rfl) (y_assign (c := .int .i64 _) (by rfl)) ?_
    refine WS_nil ?_
    refine Then_normal ?_
    refine W_seq ?_
    refine W_region_lit (fun ds => ?_)
    refine WS_det hF (by rfl) (y_move (c := .int .i64 _) (by rfl)) ?_
    refine WS_det hF (by rfl) (y_fieldAddr (by rfl) fa26_1) ?_
    refine WS_det hF (by rfl) (y_load1 (by rfl) Try.isAgg3 (Mem.own1 1 (by rfl) (by rfl))) ?_
    refine WS_det hF (by rfl) (y_sub (by rfl) (by rfl) (by unfold I64; omega)) ?_
    refine WS_det hF (by rfl) (y_max (by rfl) (by rfl)) ?_
    refine WS_det hF (by rfl) (y_assign (c := .int .i64 _) (by rfl)) ?_
    refine WS_nil ?_
    refine Then_normal ?_
    refine W_block ?_
    refine W_loop (γ := Nat) (fun c => c ≤ mvN F s.lo s.hi t) (fun c => [(1, .int .i64 wo), (2, .pointer (some ⟨pk, 0, none⟩)), (3, .pointer (some ⟨pb, 0, none⟩)), (4, .pointer (some ⟨b1, 0, none⟩)), (6, .slice (some ⟨nb, 0, none⟩) (F + 1) (F + 1)), (7, .int .i64 (t : Int)), (8, .int .i64 ((mvA s.hi t : Int) + (c : Int))), (23, .int .i64 ((F + 1 : Nat) : Int)), (24, .int .i64 (t : Int))]) (fun c => (nb, CB (iRow (nxF F s.lo s.hi wo best t c) (F + 1)) 3) :: (b1, CB s.cells 26) :: (pb, CB [.slice (some ⟨ob, 0, none⟩) (F + 1) (F + 1)] 22) :: (ob, CB (iRow best (F + 1)) 3) :: (pk, CB [.pointer (some ⟨kb, 0, none⟩)] 123) :: G) (fun c => mvN F s.lo s.hi t - c) (0) (Nat.zero_le _) ((by repeat (first | exact trivial | refine ⟨by rfl, ?_⟩ | refine ⟨congrArg (Value.int _) (by first | omega | (simp only; omega) | (push_cast; omega)), ?_⟩))) (List.Sublist.refl _) ?_
    intro c e hc
    refine W_seq ?_
    refine W_seq ?_
    refine W_draw0 hF Trymixed [] (by decide +kernel) (fun ds => ?_)
    refine P_det (by rfl) (Over_nil (y_move (c := .int .i64 _) (by rfl))) ?_
    refine P_det (by rfl) (Over_nil (y_load1 (by rfl) Try.isAgg123 (Mem.own1 4 (by rfl) (by rfl)))) ?_
    refine P_det (by rfl) (Over_nil (by first | exact y_nilCheck (by rfl) | exact y_nilCheckF (by rfl))) ?_
    refine P_det (by rfl) (Over_nil (y_fieldAddr (by rfl) fa127_0)) ?_
    refine P_det (by rfl) (Over_nil (y_load1 (by rfl) Try.isAgg108 (by first | exact Mem.old1 (by assumption) | exact Mem.oldAt1 (by assumption) (by rfl) | exact Mem.old (by assumption) | exact Mem.oldAtL1 (by assumption) (by rfl) (by rfl)))) ?_
    refine P_det (by rfl) (Over_nil (by first | exact y_nilCheck (by rfl) | exact y_nilCheckF (by rfl))) ?_
    refine P_det (by rfl) (Over_nil (y_fieldAddr (by rfl) fa119_0)) ?_
    refine P_det (by rfl) (Over_nil (y_load1 (by rfl) Try.isAgg93 (by first | exact Mem.old1 (by assumption) | exact Mem.oldAt1 (by assumption) (by rfl) | exact Mem.old (by assumption) | exact Mem.oldAtL1 (by assumption) (by rfl) (by rfl)))) ?_
    refine P_det (by rfl) (Over_nil (by first | exact y_nilCheck (by rfl) | exact y_nilCheckF (by rfl))) ?_
    refine P_det (by rfl) (Over_nil (y_fieldAddr (by rfl) fa98_1)) ?_
    refine P_det (by rfl) (Over_nil (y_load1 (by rfl) Try.isAgg3 (by first | exact Mem.old1 (by assumption) | exact Mem.oldAt1 (by assumption) (by rfl) | exact Mem.old (by assumption) | exact Mem.oldAtL1 (by assumption) (by rfl) (by rfl)))) ?_
    refine P_det (by rfl) (Over_nil (y_move (c := .int .i64 _) (by rfl))) ?_
    refine P_det (by rfl) (Over_nil (y_fieldAddr (by rfl) fa26_0)) ?_
    refine P_det (by rfl) (Over_nil (y_load1 (by rfl) Try.isAgg3 (Mem.own1 1 (by rfl) (by rfl)))) ?_
    refine P_det (by rfl) (Over_nil (y_sub (by rfl) (by rfl) (by unfold I64; omega))) ?_
    refine P_det (by rfl) (Over_nil (y_min (by rfl) (by rfl))) ?_
    refine P_det (by rfl) (Over_nil (y_leq (by rfl) (by rfl))) ?_
    refine PW_end (by rfl) ?_
    refine OverAll_nil ?_
    rintro -
    refine Then_normal ?_
    refine W_cond (by rfl) (fun c6 => ?_) (fun c6 => ?_)
    ·
      try simp only [Bool.not_eq_true', Bool.not_eq_false', decide_eq_true_eq, decide_eq_false_iff_not, ne_eq, Classical.not_not, Int.not_lt, Int.not_le] at c6
      have hmul : -600 ≤ wo * ((mvA s.hi t : Int) + (c : Int) - (t : Int)) ∧ wo * ((mvA s.hi t : Int) + (c : Int) - (t : Int)) ≤ 600 := by rcases hwo with rfl | rfl | rfl <;> omega
      have hbb := hb (mvA s.hi t + c) (by omega)
      refine W_skip ?_
      refine Then_normal ?_
      refine W_seq ?_
      refine W_block ?_
      apply W_drawMT 18 hF Trymixed [] [] [] (by rfl) (by decide +kernel) (by decide) HSub.refl
      intro ds
      refine P_det (by rfl) (Over_nil (y_move (c := .slice _ _ _) (by rfl))) ?_
      refine P_det (by rfl) (Over_nil (y_move (c := .int .i64 _) (by rfl))) ?_
      refine P_det (by rfl) (Over_nil (y_move (c := .slice _ _ _) (by rfl))) ?_
      refine P_det (by rfl) (Over_nil (y_move (c := .int .i64 _) (by rfl))) ?_
      refine P_det (by rfl) (Over_nil (y_index (k := t) (by rfl) (by rfl) (by first | rfl | omega) (by first | decide | omega) Try.runUnderlying22 Try.sizeOf3)) ?_
      refine P_det (by rfl) (Over_nil (y_load1 (by rfl) Try.isAgg3 (Mem.iRowE 0 (by rfl) (k := t) htF (by unfold nxF; rw [if_neg (by omega), if_pos rfl]) (by omega)))) ?_
      refine P_det (by rfl) (Over_nil (y_load1 (by rfl) Try.isAgg22 (Mem.own1 2 (by rfl) (by rfl)))) ?_
      refine P_det (by rfl) (Over_nil (y_move (c := .int .i64 _) (by rfl))) ?_
      refine P_det (by rfl) (Over_nil (y_index (k := mvA s.hi t + c) (by rfl) (by rfl) (by first | rfl | omega) (by first | decide | omega) Try.runUnderlying22 Try.sizeOf3)) ?_
      refine P_det (by rfl) (Over_nil (y_load1 (by rfl) Try.isAgg3 (Mem.iRowE 3 (by rfl) (k := mvA s.hi t + c) (by omega) rfl (by omega)))) ?_
      refine P_det (by rfl) (Over_nil (y_move (c := .int .i64 _) (by rfl))) ?_
      refine P_det (by rfl) (Over_nil (y_move (c := .int .i64 _) (by rfl))) ?_
      refine P_det (by rfl) (Over_nil (y_move (c := .int .i64 _) (by rfl))) ?_
      refine P_det (by rfl) (Over_nil (y_sub (by rfl) (by rfl) (by unfold I64; omega))) ?_
      refine P_det (by rfl) (Over_nil (y_mul (by rfl) (by rfl) (by unfold I64; omega))) ?_
      refine P_det (by rfl) (Over_nil (y_add (by rfl) (by rfl) (by unfold I64; omega))) ?_
      refine P_det (by rfl) (Over_nil (y_max (by rfl) (by rfl))) ?_
      refine P_det (by rfl) (Over_nil (y_index (k := t) (by rfl) (by rfl) (by first | rfl | omega) (by first | decide | omega) Try.runUnderlying22 Try.sizeOf3)) ?_
      refine PW_end (by rfl) ?_
      refine OverAll_nil ?_
      rintro -
      refine WS_store hF (i := 0) (by rfl) (by rfl) Try.sizeOf3 (by rfl) (by rfl) (by rfl) (by show 0 + t * 1 + 1 ≤ (iRow (nxF F s.lo s.hi wo best t c) (F + 1)).length; rw [rowOf_len ii_len]; omega) ?_
      refine WS_nil ?_
      refine InB_normal ?_
      refine Then_normal ?_
      refine W_region_lit (fun ds => ?_)
      refine WS_det hF (by rfl) (y_move (c := .int .i64 _) (by rfl)) ?_
      refine WS_det hF (by rfl) (y_add (by rfl) (by rfl) (by unfold I64; omega)) ?_
      refine WS_det hF (by rfl) (y_assign (c := .int .i64 _) (by rfl)) ?_
      refine WS_nil ?_
      exact Loop_next (c + 1) (by omega) (by repeat (first | exact trivial | refine ⟨by rfl, ?_⟩ | refine ⟨congrArg (Value.int _) (by first | omega | (simp only; omega) | (push_cast; omega)), ?_⟩)) (by rw [← nx_step F s.lo s.hi wo best htF]; exact List.Sublist.refl _) (by omega)
    ·
      try simp only [Bool.not_eq_true', Bool.not_eq_false', decide_eq_true_eq, decide_eq_false_iff_not, ne_eq, Classical.not_not, Int.not_lt, Int.not_le] at c6
      have hcN : c = mvN F s.lo s.hi t := by omega
      refine W_exit ?_
      refine Then_exit ?_
      refine Loop_exit ?_
      refine InB_same ?_
      refine InB_normal ?_
      refine Then_normal ?_
      refine W_region_lit (fun ds => ?_)
      refine WS_det hF (by rfl) (y_add (by rfl) (by rfl) (by unfold I64; omega)) ?_
      refine WS_det hF (by rfl) (y_move (c := .int .i64 _) (by rfl)) ?_
      refine WS_nil ?_
      exact Loop_next (t + 1) (by omega) (by repeat (first | exact trivial | refine ⟨by rfl, ?_⟩)) (by rw [← nx_next _ _ _ _ _ hcN]; exact List.Sublist.refl _) (by omega)
  ·
    try simp only [Bool.not_eq_true', Bool.not_eq_false', decide_eq_true_eq, decide_eq_false_iff_not, ne_eq, Classical.not_not, Int.not_lt, Int.not_le] at c3
    refine W_exit ?_
    refine Then_exit ?_
    refine Loop_exit ?_
    refine InB_same ?_
    refine Then_normal ?_
    refine W_region_lit (fun ds => ?_)
    refine WS_det hF (by rfl) (y_move (c := .slice _ _ _) (by rfl)) ?_
    refine WS_store hF (i := 2) (by rfl) (by rfl) Try.sizeOf22 (by rfl) (by rfl) (by rfl) (by first | decide | exact Nat.le_of_ble_eq_true rfl | simp) ?_
    refine WS_nil ?_
    refine Fin_norm [] ((pb, _) :: (nb, _) :: (pk, _) :: G) Try.results132 trivial ((SubP.hsub (SubP.pick 2 (by rfl) (SubP.pick 0 (by rfl) (SubP.pick 2 (by rfl) (by exact SubP.drop (SubP.drop (SubP.refl)))))))) ?_
    obtain rfl : t = F + 1 := by omega
    exact ⟨nb, by rw [← nx_end F s.lo s.hi wo best 0]; rfl⟩
end Go.Proofs.Ythkimgfgpphgnaa.T
