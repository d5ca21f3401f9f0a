/- What is known of a log: the walk of asked. -/
import Derived.Test.YthkimgfgpphgnaaTkU
namespace Go.Proofs.Ythkimgfgpphgnaa.T
open Go.RowKit Go.Proofs Go.Eng
set_option maxRecDepth 100000
set_option linter.unusedVariables false
set_option linter.unusedSimpArgs false

theorem bd127_0 {x0 : Option Addr} : ∀ w, (Instr.build 127 #[(0, .pointer x0)]).run Try.prog w = .ok (.agg #[.pointer x0, .slice none 0 0, .slice none 0 0, .slice none 0 0]) w := fun w => by kernel_rfl
theorem bs90_1_0 {x0_0 : Int} {x0_1 : Int} : ∀ w, (Instr.buildSlice 90 1 #[(0, .agg #[.int .i64 x0_0, .int .i64 x0_1])]).run Try.prog w = .ok (.slice (some ⟨w.heap.size, 0, none⟩) 1 1) (w.alloc (CB [.int .i64 x0_0, .int .i64 x0_1] 26)) := fun w => by kernel_rfl
theorem fa127_1 : ∀ b o w, (Instr.fieldAt 127 (.pointer (some ⟨b, o, none⟩)) 1).run Try.prog w = .ok (.pointer (some ⟨b, o + 1, none⟩)) w := fun b o w => by kernel_rfl
theorem fa127_2 : ∀ b o w, (Instr.fieldAt 127 (.pointer (some ⟨b, o, none⟩)) 2).run Try.prog w = .ok (.pointer (some ⟨b, o + 2, none⟩)) w := fun b o w => by kernel_rfl
theorem fa127_3 : ∀ b o w, (Instr.fieldAt 127 (.pointer (some ⟨b, o, none⟩)) 3).run Try.prog w = .ok (.pointer (some ⟨b, o + 3, none⟩)) w := fun b o w => by kernel_rfl

def Lg.holdsB (l : Lg) : Bool := (List.range (l.es.length + 1)).all fun k => !(l.hold k).empty
theorem Lg.holdsB_iff (l : Lg) : l.holdsB = true ↔ ∀ k, k ≤ l.es.length → (l.hold k).empty = false := by
  unfold Lg.holdsB
  simp only [List.all_eq_true, List.mem_range, Bool.not_eq_true']
  constructor
  · intro h k hk; exact h k (by omega)
  · intro h k hk; exact h k (by omega)
def Lg.aerr (l : Lg) : Int := if l.err = 0 then if l.holdsB then 0 else 8 else l.err
theorem Lg.steps_le (l : Lg) : ∀ m k, l.steps k m ≤ m + 1
  | 0, _ => Nat.le_refl _
  | m + 1, k => by
    have := Lg.steps_le l m (k + 1)
    unfold Lg.steps
    split <;> omega
theorem Lg.steps_full (l : Lg) : ∀ m k, (∀ j, k ≤ j → j < k + l.steps k m → (l.hold j).empty = false) → l.steps k m = m + 1
  | 0, _, _ => rfl
  | m + 1, k, h => by
    have hk := h k (Nat.le_refl _) (by have := l.steps_pos k (m + 1); omega)
    rw [l.steps_more hk] at h ⊢
    rw [Lg.steps_full l m (k + 1) fun j h1 h2 => h j (by omega) (by omega)]
    omega
theorem Lg.times_le (l : Lg) : l.times ≤ l.es.length + 1 := l.steps_le _ _
theorem Lg.times_full (l : Lg) (h : ∀ j, j < l.times → (l.hold j).empty = false) : l.times = l.es.length + 1 := l.steps_full _ _ fun j _ h2 => h j (by unfold Lg.times; omega)
def knownCells (bk fb : Nat) (capf : Nat) (ab bb n : Nat) : List Value := [.pointer (some ⟨bk, 0, none⟩), .slice (some ⟨fb, 0, none⟩) (n + 1) capf, .slice (some ⟨ab, 0, none⟩) (n + 1) (n + 1), .slice (some ⟨bb, 0, none⟩) n n]
/-- The blocks of what is known. -/
def KB (l : Lg) (a : Option Addr) (cap : Nat) (ae : Option Addr) (cape : Nat) (kb : Nat) (Hn : List Blk) : Prop :=
  ∃ bk g fb capf junk ab bb, Hn = [(kb, CB (knownCells bk fb capf ab bb l.es.length) 127), (fb, CB (snRow l.hold (l.es.length + 1) ++ junk) 26), (ab, CB (snRow l.aft (l.es.length + 1)) 26), (bb, CB (snRow l.ahd l.es.length) 26), (bk, CB (bookCells g l a cap ae cape) 119), (g, CB (gaugeCells l.tk a cap) 98)]
def AskV (l : Lg) (a : Option Addr) (cap : Nat) (ae : Option Addr) (cape : Nat) (v : Value) (Hn : List Blk) : Prop :=
  ∃ p, v = .tuple #[.pointer p, .int .i64 l.aerr] ∧ (l.aerr = 0 → ∃ kb, p = some ⟨kb, 0, none⟩ ∧ KB l a cap ae cape kb Hn) ∧ (l.aerr ≠ 0 → Hn = [])
theorem Tk.entsB_get (t : Tk) : ∀ (es : List En) (day : Int), t.entsB day es = true → ∀ k, k < es.length → t.entB (if k = 0 then day else (es.getD (k - 1) En.z).day) (es.getD k En.z) = true
  | [], _, _, k, hk => by simp at hk
  | x :: es, day, h, k, hk => by
    unfold Tk.entsB at h
    rw [Bool.and_eq_true] at h
    cases k with
    | zero => simpa using h.1
    | succ k =>
      have := Tk.entsB_get t es x.day h.2 k (by simpa using hk)
      cases k with
      | zero => simpa using this
      | succ k => simpa using this
theorem Lg.ok_of (l : Lg) (h : l.err = 0) : l.Ok := by
  unfold Lg.err at h
  split at h
  · rename_i ht
    split at h
    · rename_i hl
      unfold Lg.okB at hl
      simp only [Bool.and_eq_true, decide_eq_true_eq] at hl
      obtain ⟨⟨h1, h2⟩, h3⟩ := hl
      have hg := l.tk.entsB_get l.es 0 h3
      have hd : ∀ k, k < l.es.length → inB (l.dayAt k) 3652 [(l.e k).day] = true ∧ inB 1 3 [(l.e k).kind] = true ∧ (l.e k).size.inB (l.tk.most (l.e k).kind) = true := fun k hk => by
        have := hg k hk
        unfold Tk.entB at this
        simp only [Bool.and_eq_true] at this
        exact ⟨this.1.1, this.1.2, this.2⟩
      have hday : ∀ k, k < l.es.length → 0 ≤ l.dayAt k ∧ l.dayAt k ≤ (l.e k).day ∧ (l.e k).day ≤ 3652 := by
        intro k
        induction k with
        | zero => intro hk; have := inB1.1 (hd 0 hk).1; exact ⟨Int.le_refl _, this⟩
        | succ k ih =>
          intro hk
          have h4 := inB1.1 (hd (k + 1) hk).1
          have h5 := ih (by omega)
          refine ⟨?_, h4⟩
          show 0 ≤ (l.e (k + 1 - 1)).day
          rw [Nat.add_sub_cancel]; omega
      refine ⟨Tk.ok_iff.1 ht, h1, h2, fun k hk => ?_, fun k hk => ?_, fun k hk => inB1.1 (hd k hk).2.1, fun k hk => (hd k hk).2.2⟩
      · have := hday k hk; omega
      · have := (hday (k + 1) hk).2.1
        exact this
    · cases h
  · cases h

theorem asked_any (l : Lg) (a : Option Addr) (cap : Nat) (ae : Option Addr) (cape : Nat) (w : World) (hn : l.tk.n ≤ 1000000) (hx : Ints w a l.tk.n cap l.tk.pints) (he : Ens w ae l.es.length cape l.es) :
    Ct Try.prog 88 #[.agg #[.slice a l.tk.n cap, .int .i64 l.tk.leak, .int .i64 l.tk.foot, .int .i64 l.start.lo, .int .i64 l.start.hi, .slice ae l.es.length cape]] w (AskV l a cap ae cape) := by
  have hF := wide_wide
  refine Ct_start (args := [_]) Try.func88 (by rfl) Try.ntmps88 (by rfl) ?_
  refine W_seq ?_
  refine W_region_lit (fun ds => ?_)
  refine WS_new hF (by rfl) (y_box (by rfl)) (fun b1 => ?_)
  refine WS_new hF (by rfl) (y_alloc Try.zeroValue123 (by rfl)) (fun b2 => ?_)
  refine WS_new hF (by rfl) (y_alloc Try.zeroValue31 (by rfl)) (fun b3 => ?_)
  refine WS_nil ?_
  refine Then_normal ?_
  refine W_seq ?_
  refine W_region_lit (fun ds => ?_)
  refine WS_det hF (by rfl) (y_loadN (by rfl) Try.isAgg46 Try.sizeOf46 (Mem.own (us := [.slice _ _ _, .int .i64 _, .int .i64 _, .int .i64 _, .int .i64 _, .slice _ _ _]) 2 (by rfl) (by rfl)) (by rfl)) ?_
  refine WS_gen hF (by rfl) (y_callL (by rfl) (by rfl) Try.call77 (fun w hw => opened_any l a cap ae cape w hn (hx.st w hw) (he.st w hw))) ?_
  rintro _ Hg ⟨p, rfl, hg1, hg2⟩
  refine WS_det hF (by rfl) (y_move (c := .tuple _) (by rfl)) ?_
  refine WS_det hF (by rfl) (y_extract (c := .pointer _) (by rfl) (by rfl)) ?_
  refine WS_det hF (by rfl) (y_extract (c := .int .i64 _) (by rfl) (by rfl)) ?_
  refine WS_det hF (by rfl) (y_assign (c := .pointer _) (by rfl)) ?_
  refine WS_det hF (by rfl) (y_assign (c := .int .i64 _) (by rfl)) ?_
  refine WS_nil ?_
  refine Then_normal ?_
  refine W_seq ?_
  refine W_seq ?_
  refine W_region_lit (fun ds => ?_)
  refine WS_det hF (by rfl) (y_move (c := .int .i64 _) (by rfl)) ?_
  refine WS_det hF (by rfl) (y_neq (by rfl) (by rfl)) ?_
  refine WS_nil ?_
  refine Then_normal ?_
  refine W_cond (by rfl) (fun c2 => ?_) (fun c2 => ?_)
  ·
    try simp only [Bool.not_eq_true', Bool.not_eq_false', decide_eq_true_eq, decide_eq_false_iff_not, ne_eq, Classical.not_not, Int.not_lt, Int.not_le] at c2
    obtain rfl := hg2 c2
    refine W_seq ?_
    refine W_region_lit (fun ds => ?_)
    refine WS_det hF (by rfl) (y_move (c := .int .i64 _) (by rfl)) ?_
    refine WS_store hF (i := 1) (by rfl) (by rfl) Try.sizeOf123 (by rfl) (by rfl) (by rfl) (by first | decide | exact Nat.le_of_ble_eq_true rfl | simp) ?_
    refine WS_store hF (i := 0) (by rfl) (by rfl) Try.sizeOf31 (by rfl) (by rfl) (by rfl) (by first | decide | exact Nat.le_of_ble_eq_true rfl | simp) ?_
    refine WS_nil ?_
    refine Then_normal ?_
    refine W_ret ?_
    refine Then_ret ?_
    refine Fin_ret [_, _] [] Try.results88 ⟨lv1 (by rfl) Try.isAgg123 (Mem.own1 1 (by rfl) (by rfl)), lv1 (by rfl) Try.isAgg31 (Mem.own1 0 (by rfl) (by rfl)), trivial⟩ HSub.nil ?_
    have ha : l.aerr = l.err := if_neg c2
    refine ⟨none, by rw [ha]; rfl, fun h => absurd (ha ▸ h) c2, fun _ => rfl⟩
  ·
    try simp only [Bool.not_eq_true', Bool.not_eq_false', decide_eq_true_eq, decide_eq_false_iff_not, ne_eq, Classical.not_not, Int.not_lt, Int.not_le] at c2
    obtain ⟨g, bk, rfl, rfl⟩ := hg1 c2
    have hok := l.ok_of c2
    have hn12 := hok.n12
    have htl := l.times_le
    refine W_skip ?_
    refine Then_normal ?_
    refine W_seq ?_
    refine W_region_lit (fun ds => ?_)
    refine WS_det hF (by rfl) (y_move (c := .pointer _) (by rfl)) ?_
    refine WS_det hF (by rfl) (y_buildL bd127_0 (by rfl)) ?_
    refine WS_new hF (by rfl) (y_box (by rfl)) (fun b4 => ?_)
    refine WS_new hF (by rfl) (y_alloc Try.zeroValue123 (by rfl)) (fun b5 => ?_)
    refine WS_store hF (i := 0) (by rfl) (by rfl) Try.sizeOf123 (by rfl) (by rfl) (by rfl) (by first | decide | exact Nat.le_of_ble_eq_true rfl | simp) ?_
    refine WS_nil ?_
    refine Then_normal ?_
    refine W_seq ?_
    refine W_seq ?_
    refine W_region_lit (fun ds => ?_)
    refine WS_det hF (by rfl) (y_move (c := .pointer _) (by rfl)) ?_
    refine WS_gen hF (by rfl) (y_callL (by rfl) (by rfl) Try.call125 (fun w hw => holding_any bk w)) ?_
    rintro _ _ ⟨bx, rfl, rfl⟩
    refine WS_nil ?_
    refine Then_normal ?_
    refine W_block ?_
    refine W_range hF (by rfl) (encs := (fun k => [.int .i64 (k : Int), .agg (l.hold k).cells.toArray])) (N := l.times) (H0 := [(bx, CB [.pointer (some ⟨bk, 0, none⟩)] 108), (bk, CB (bookCells g l a cap ae cape) 119), (g, CB (gaugeCells l.tk a cap) 98)]) (G0 := [_, _, _, _]) (fun k G => ∃ fa fcap Hf, G = (b4, CB [.pointer (some ⟨bk, 0, none⟩), .slice fa k fcap, .slice none 0 0, .slice none 0 0] 127) :: (b5, CB [.pointer (some ⟨b4, 0, none⟩)] 123) :: (b2, CB [.pointer none] 123) :: (b3, CB [.int .i64 0] 31) :: Hf ∧ Row 26 2 fa k fcap (snRow l.hold k) Hf ∧ ∀ j, j < k → (l.hold j).empty = false) (fun c k G => c = .ret ∧ (l.hold (k - 1)).empty = true ∧ G = [(b2, CB [.pointer none] 123), (b3, CB [.int .i64 8] 31)]) (by rfl) Try.call140 (by rfl) (fun _ => rfl) (fun ds => holding_it l _ _ _ bx bk g a cap ae cape hok hx he) (⟨none, 0, [], rfl, Row.nil 26 2, fun j hj => by omega⟩) ((SubP.pick 0 (by rfl) (SubP.pick 2 (by rfl) (SubP.pick 2 (by rfl) (SubP.pick 1 (by rfl) (SubP.pick 0 (by rfl) (SubP.pick 1 (by rfl) (SubP.pick 0 (by rfl) (SubP.nil)))))))).hsub) ?_ ?_ ?_
    · rintro k hk G hj out lpr R R'
      have hF := wide_inRound wide_wide lpr
      obtain ⟨fa, fcap, Hf, rfl, hrow, hne⟩ := hj
      refine W_region_lit (fun ds => ?_)
      refine WS_new hF (by rfl) (y_alloc Try.zeroValue26 (by rfl)) (fun b6 => ?_)
      refine WS_store hF (i := 0) (by rfl) (by rfl) Try.sizeOf26 (by rfl) (by rfl) (by rfl) (by first | decide | exact Nat.le_of_ble_eq_true rfl | simp) ?_
      refine WS_nil ?_
      refine Then_normal ?_
      refine ⟨(_ :: _ :: _ :: _ :: _ :: Hf), rfl, ?_⟩
      refine W_block ?_
      refine W_seq ?_
      apply W_drawZ 7 0 hF Trymixed [] [] [] (by rfl) (by decide +kernel) (by decide) (by rfl) (by rfl) (by rfl) (by rfl) (by rfl) Try.isAgg123 HSub.refl
      intro ds
      refine P_det (by rfl) (Over_nil (y_load1 (by rfl) Try.isAgg123 (Mem.own1 2 (by rfl) (by rfl)))) ?_
      refine P_det (by rfl) (Over_nil (y_load1 (by rfl) Try.isAgg123 (Mem.own1 2 (by rfl) (by rfl)))) ?_
      refine P_det (by rfl) (Over_nil (by first | exact y_nilCheck (by rfl) | exact y_nilCheckF (by rfl))) ?_
      refine P_det (by rfl) (Over_nil (y_fieldAddr (by rfl) fa127_1)) ?_
      refine P_det (by rfl) (Over_nil (y_load1 (by rfl) Try.isAgg90 (Mem.own1 1 (by rfl) (by rfl)))) ?_
      refine P_det (by rfl) (Over_nil (y_loadN (by rfl) Try.isAgg26 Try.sizeOf26 (Mem.own (us := [.int .i64 _, .int .i64 _]) 0 (by rfl) (by rfl)) (by rfl))) ?_
      refine P_new (by rfl) (by rfl) (Over_nil (y_buildSliceL bs90_1_0 (by rfl))) ?_
      refine PW_end (by rfl) ?_
      refine OverAll_cons (fun w30 l30 => ?_)
      refine OverAll_nil ?_
      rintro ⟨-, h30⟩
      obtain ⟨b7, rfl, rfl⟩ := h30
      refine ⟨?_, fun xz => ?_⟩
      ·
        refine WS_append hF (H1 := [_, _, _, _, _, _]) (by rfl) (by rfl) (by rfl) Try.underlying90 infSpan (by rfl) (by rfl) hrow (.inr ⟨_, _, rfl, Mem.own (us := [.int _ _, .int _ _]) 0 (by rfl) (by rfl)⟩) (by rfl) (by rfl) (by omega) (by omega) ?_
        intro fa2 fcap2 Hf2 hrow2
        refine WS_det hF (by rfl) (by first | exact y_nilCheck (by rfl) | exact y_nilCheckF (by rfl)) ?_
        refine WS_det hF (by rfl) (y_fieldAddr (by rfl) fa127_1) ?_
        refine WS_store hF (i := 2) (by rfl) (by rfl) Try.sizeOf90 (by rfl) (by rfl) (by rfl) (by first | decide | exact Nat.le_of_ble_eq_true rfl | simp) ?_
        refine WS_nil ?_
        refine Then_normal ?_
        refine W_seq ?_
        refine W_region_lit (fun ds => ?_)
        refine WS_det hF (by rfl) (y_loadN (by rfl) Try.isAgg26 Try.sizeOf26 (Mem.own (us := [.int .i64 _, .int .i64 _]) 1 (by rfl) (by rfl)) (by rfl)) ?_
        refine WS_det hF (by rfl) (y_callL (by rfl) (by rfl) Try.call74 (fun w hw => empty_any (l.hold k).lo (l.hold k).hi w)) ?_
        refine WS_nil ?_
        refine Then_normal ?_
        refine W_cond (by rfl) (fun c8 => ?_) (fun c8 => ?_)
        ·
          try simp only [Bool.not_eq_true', Bool.not_eq_false', decide_eq_true_eq, decide_eq_false_iff_not, ne_eq, Classical.not_not, Int.not_lt, Int.not_le] at c8
          refine W_seq ?_
          refine W_region_lit (fun ds => ?_)
          refine WS_store hF (i := 4) (by rfl) (by rfl) Try.sizeOf123 (by rfl) (by rfl) (by rfl) (by first | decide | exact Nat.le_of_ble_eq_true rfl | simp) ?_
          refine WS_store hF (i := 5) (by rfl) (by rfl) Try.sizeOf31 (by rfl) (by rfl) (by rfl) (by first | decide | exact Nat.le_of_ble_eq_true rfl | simp) ?_
          refine WS_nil ?_
          refine Then_normal ?_
          refine W_ret ?_
          refine InB_ret ?_
          refine ⟨[_, _], (SubP.pick 4 (by rfl) (SubP.pick 4 (by rfl) (by exact SubP.drop (SubP.drop (SubP.drop (SubP.drop (SubP.dropL (X := Hf2) (SubP.refl)))))))).hsub, rfl, ?_, rfl⟩
          show (l.hold k).empty = true
          unfold Sn.empty; simp only [decide_eq_true_eq]; omega
        ·
          try simp only [Bool.not_eq_true', Bool.not_eq_false', decide_eq_true_eq, decide_eq_false_iff_not, ne_eq, Classical.not_not, Int.not_lt, Int.not_le] at c8
          refine W_skip ?_
          refine InB_normal ?_
          refine ⟨_ :: _ :: _ :: _ :: Hf2, (SubP.pick 2 (by rfl) (SubP.pick 2 (by rfl) (SubP.pick 2 (by rfl) (SubP.pick 2 (by rfl) (by exact SubP.drop (SubP.drop (SubP.refl))))))).hsub, fa2, fcap2, Hf2, rfl, ?_, ?_⟩
          · rw [snRow, rowOf_succ]; exact hrow2
          · intro j hj
            obtain hj | rfl : j < k ∨ j = k := by omega
            · exact hne j hj
            · unfold Sn.empty; simp only [decide_eq_false_iff_not]; omega
      ·
        refine WS_append hF (H1 := [_, _, _, _, _, _]) (by rfl) (by rfl) (by rfl) Try.underlying90 infSpan (by rfl) (by rfl) hrow (.inr ⟨_, _, rfl, Mem.own (us := [.int _ _, .int _ _]) 0 (by rfl) (by rfl)⟩) (by rfl) (by rfl) (by omega) (by omega) ?_
        intro fa2 fcap2 Hf2 hrow2
        refine WS_det hF (by rfl) (y_load1 (by rfl) Try.isAgg123 (Mem.own1 3 (by rfl) (by rfl))) ?_
        refine WS_det hF (by rfl) (by first | exact y_nilCheck (by rfl) | exact y_nilCheckF (by rfl)) ?_
        refine WS_det hF (by rfl) (y_fieldAddr (by rfl) fa127_1) ?_
        refine WS_store hF (i := 2) (by rfl) (by rfl) Try.sizeOf90 (by rfl) (by rfl) (by rfl) (by first | decide | exact Nat.le_of_ble_eq_true rfl | simp) ?_
        refine WS_nil ?_
        refine Then_normal ?_
        refine W_seq ?_
        refine W_region_lit (fun ds => ?_)
        refine WS_det hF (by rfl) (y_loadN (by rfl) Try.isAgg26 Try.sizeOf26 (Mem.own (us := [.int .i64 _, .int .i64 _]) 1 (by rfl) (by rfl)) (by rfl)) ?_
        refine WS_det hF (by rfl) (y_callL (by rfl) (by rfl) Try.call74 (fun w hw => empty_any (l.hold k).lo (l.hold k).hi w)) ?_
        refine WS_nil ?_
        refine Then_normal ?_
        refine W_cond (by rfl) (fun c8 => ?_) (fun c8 => ?_)
        ·
          try simp only [Bool.not_eq_true', Bool.not_eq_false', decide_eq_true_eq, decide_eq_false_iff_not, ne_eq, Classical.not_not, Int.not_lt, Int.not_le] at c8
          refine W_seq ?_
          refine W_region_lit (fun ds => ?_)
          refine WS_store hF (i := 4) (by rfl) (by rfl) Try.sizeOf123 (by rfl) (by rfl) (by rfl) (by first | decide | exact Nat.le_of_ble_eq_true rfl | simp) ?_
          refine WS_store hF (i := 5) (by rfl) (by rfl) Try.sizeOf31 (by rfl) (by rfl) (by rfl) (by first | decide | exact Nat.le_of_ble_eq_true rfl | simp) ?_
          refine WS_nil ?_
          refine Then_normal ?_
          refine W_ret ?_
          refine InB_ret ?_
          refine ⟨[_, _], (SubP.pick 4 (by rfl) (SubP.pick 4 (by rfl) (by exact SubP.drop (SubP.drop (SubP.drop (SubP.drop (SubP.dropL (X := Hf2) (SubP.refl)))))))).hsub, rfl, ?_, rfl⟩
          show (l.hold k).empty = true
          unfold Sn.empty; simp only [decide_eq_true_eq]; omega
        ·
          try simp only [Bool.not_eq_true', Bool.not_eq_false', decide_eq_true_eq, decide_eq_false_iff_not, ne_eq, Classical.not_not, Int.not_lt, Int.not_le] at c8
          refine W_skip ?_
          refine InB_normal ?_
          refine ⟨_ :: _ :: _ :: _ :: Hf2, (SubP.pick 2 (by rfl) (SubP.pick 2 (by rfl) (SubP.pick 2 (by rfl) (SubP.pick 2 (by rfl) (by exact SubP.drop (SubP.drop (SubP.refl))))))).hsub, fa2, fcap2, Hf2, rfl, ?_, ?_⟩
          · rw [snRow, rowOf_succ]; exact hrow2
          · intro j hj
            obtain hj | rfl : j < k ∨ j = k := by omega
            · exact hne j hj
            · unfold Sn.empty; simp only [decide_eq_false_iff_not]; omega
    · rintro G hj
      obtain ⟨fa, fcap, Hf, rfl, hrow, hne⟩ := hj
      have htf := l.times_full hne
      rw [htf] at hrow hne
      rw [htf]
      obtain ⟨_, h0, _⟩ | ⟨fb, junk, rfl, rfl, hl1, hl2, hle⟩ := hrow
      · omega
      refine InB_normal ?_
      refine Then_normal ?_
      refine W_seq ?_
      apply W_drawMT 10 hF Trymixed [Pre.dep 1000000 b4 _ 41 _ _] [1000000] [1000000] (by rfl) (by decide +kernel) (by decide) (fun _ _ h => h.perm (perm_erase (i := 3) (by rfl)).symm)
      intro ds
      refine P_det (by rfl) (Over_out (by rfl) (Over_nil (y_load1 (by rfl) Try.isAgg123 (Mem.own1 3 (by rfl) (by rfl))))) ?_
      refine P_det (by rfl) (Over_out (by rfl) (Over_nil (y_load1 (by rfl) Try.isAgg123 (Mem.own1 3 (by rfl) (by rfl))))) ?_
      refine P_det (by rfl) (Over_out (by rfl) (Over_nil (y_move (c := .pointer _) (by rfl)))) ?_
      refine P_new (by rfl) (by rfl) (Over_out (by rfl) (Over_nil (y_callL (by rfl) (by rfl) Try.call128 (fun w hw => back_any bk l w (Bk.own (by repeat (first | exact List.mem_cons_self | apply List.mem_cons_of_mem)) (by repeat (first | exact List.mem_cons_self | apply List.mem_cons_of_mem)) hok hx he w hw))))) ?_
      refine P_ali [40] (fun e => e 40) (by rfl) (by rfl) (by rfl) (fun _ _ h => h 40 (List.mem_singleton.2 rfl)) (Over_in (by rfl) (Over_out (by rfl) (Over_nil (by intro vb9 l40 hb9; obtain ⟨ab, bb, rfl, rfl⟩ := hb9; exact (YD0_of (y_move (c := .tuple _) (by rfl))))))) ?_
      refine P_ali [36] (fun e => tupAt (e 36) 0) (by rfl) (by rfl) (by rfl) (fun _ _ h => congrArg (tupAt · 0) (h 36 (List.mem_singleton.2 rfl))) (Over_in (by rfl) (Over_in (by rfl) (Over_out (by rfl) (Over_nil (by intro vb11 l40 hb11; obtain ⟨ab, bb, rfl, rfl⟩ := hb11; rintro vb12 _ ⟨hvb12, rfl⟩; replace hvb12 : vb12 = .tuple _ := hvb12; subst hvb12; exact (YD0_of (y_extract (c := .slice _ _ _) (by rfl) (by rfl)))))))) ?_
      refine P_ali [36] (fun e => tupAt (e 36) 1) (by rfl) (by rfl) (by rfl) (fun _ _ h => congrArg (tupAt · 1) (h 36 (List.mem_singleton.2 rfl))) (Over_out (by rfl) (Over_in (by rfl) (Over_in (by rfl) (Over_out (by rfl) (Over_nil (by intro vb14 l40 hb14; obtain ⟨ab, bb, rfl, rfl⟩ := hb14; rintro vb15 _ ⟨hvb15, rfl⟩; replace hvb15 : vb15 = .tuple _ := hvb15; subst hvb15; exact (YD0_of (y_extract (c := .slice _ _ _) (by rfl) (by rfl))))))))) ?_
      refine P_det (by rfl) (Over_out (by rfl) (Over_out (by rfl) (Over_out (by rfl) (Over_out (by rfl) (Over_out (by rfl) (Over_nil (by first | exact y_nilCheck (by rfl) | exact y_nilCheckF (by rfl)))))))) ?_
      refine P_det (by rfl) (Over_out (by rfl) (Over_out (by rfl) (Over_out (by rfl) (Over_out (by rfl) (Over_out (by rfl) (Over_nil (y_fieldAddr (by rfl) fa127_2))))))) ?_
      refine P_st 1000000 4 (by rfl) (by rfl) (by rfl) (by rfl) (by rfl) (Over_out (by rfl) (Over_in (by rfl) (Over_in (by rfl) (Over_in (by rfl) (Over_nil (by intro vb17 l40 hb17; obtain ⟨ab, bb, rfl, rfl⟩ := hb17; rintro vb18 _ ⟨hvb18, rfl⟩; replace hvb18 : vb18 = .tuple _ := hvb18; subst hvb18; rintro vb19 _ ⟨hvb19, rfl⟩; replace hvb19 : vb19 = .slice _ _ _ := hvb19; subst hvb19; exact (st_preD (fun _ => by rfl) (by rfl) (by rfl) Try.sizeOf90 (by rfl) (by rfl) (by first | decide | exact Nat.le_of_ble_eq_true rfl | simp)))))))) ?_
      refine PW_end (by rfl) ?_
      refine OverAll_cons (fun w42 l42 => ?_)
      refine OverAll_cons (fun w41 l41 => ?_)
      refine OverAll_cons (fun w36 l36 => ?_)
      refine OverAll_cons (fun w40 l40 => ?_)
      refine OverAll_cons (fun w1000000 l1000000 => ?_)
      refine OverAll_nil ?_
      rintro ⟨⟨⟨⟨⟨-, h42⟩, h41⟩, h36⟩, h40⟩, h1000000⟩
      obtain ⟨ab, bb, rfl, rfl⟩ := h40
      obtain ⟨h36, rfl⟩ := h36
      replace h36 : w36 = .tuple _ := h36
      subst h36
      obtain ⟨h41, rfl⟩ := h41
      replace h41 : w41 = .slice _ _ _ := h41
      subst h41
      obtain ⟨h42, rfl⟩ := h42
      replace h42 : w42 = .slice _ _ _ := h42
      subst h42
      obtain rfl := h1000000
      refine WS_det hF (by rfl) (by first | exact y_nilCheck (by rfl) | exact y_nilCheckF (by rfl)) ?_
      refine WS_det hF (by rfl) (y_fieldAddr (by rfl) fa127_3) ?_
      refine WS_store hF (i := 0) (by rfl) (by rfl) Try.sizeOf90 (by rfl) (by rfl) (by rfl) (by first | decide | exact Nat.le_of_ble_eq_true rfl | simp) ?_
      refine WS_nil ?_
      refine Then_normal ?_
      refine W_seq ?_
      refine W_region_lit (fun ds => ?_)
      refine WS_det hF (by rfl) (y_load1 (by rfl) Try.isAgg123 (Mem.own1 6 (by rfl) (by rfl))) ?_
      refine WS_store hF (i := 7) (by rfl) (by rfl) Try.sizeOf123 (by rfl) (by rfl) (by rfl) (by first | decide | exact Nat.le_of_ble_eq_true rfl | simp) ?_
      refine WS_store hF (i := 8) (by rfl) (by rfl) Try.sizeOf31 (by rfl) (by rfl) (by rfl) (by first | decide | exact Nat.le_of_ble_eq_true rfl | simp) ?_
      refine WS_nil ?_
      refine Then_normal ?_
      refine W_ret ?_
      have hB : l.holdsB = true := l.holdsB_iff.2 fun k hk => hne k (by omega)
      have h0 : l.aerr = 0 := by unfold Lg.aerr; rw [if_pos c2, if_pos hB]
      refine Fin_ret [_, _] [(b4, _), (fb, _), (ab, _), (bb, _), (bk, _), (g, _)] Try.results88 ⟨lv1 (by rfl) Try.isAgg123 (Mem.own1 7 (by rfl) (by rfl)), lv1 (by rfl) Try.isAgg31 (Mem.own1 8 (by rfl) (by rfl)), trivial⟩ ((SubP.pick 0 (by rfl) (SubP.pick 8 (by rfl) (SubP.pick 0 (by rfl) (SubP.pick 0 (by rfl) (SubP.pick 1 (by rfl) (SubP.pick 1 (by rfl) (SubP.nil))))))).hsub) ?_
      exact ⟨_, by rw [h0]; rfl, fun _ => ⟨b4, rfl, bk, g, fb, fcap, junk, ab, bb, rfl⟩, fun h => absurd h0 h⟩
    · rintro c k G hk hj
      obtain ⟨rfl, hemp, rfl⟩ := hj
      refine W_ret ?_
      refine InB_ret ?_
      refine Then_ret ?_
      refine Fin_ret [_, _] [] Try.results88 ⟨lv1 (by rfl) Try.isAgg123 (Mem.own1 3 (by rfl) (by rfl)), lv1 (by rfl) Try.isAgg31 (Mem.own1 4 (by rfl) (by rfl)), trivial⟩ HSub.nil ?_
      have hB : l.holdsB = false := by
        cases hb : l.holdsB with
        | false => rfl
        | true => rw [Nat.add_sub_cancel, l.holdsB_iff.1 hb k (by omega)] at hemp; cases hemp
      have h8 : l.aerr = 8 := by unfold Lg.aerr; rw [if_pos c2, hB]; rfl
      exact ⟨none, by rw [h8]; rfl, fun h => by omega, fun _ => rfl⟩
end Go.Proofs.Ythkimgfgpphgnaa.T
