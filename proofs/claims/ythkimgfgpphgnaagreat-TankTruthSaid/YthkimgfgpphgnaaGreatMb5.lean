/- The first truth: plain facts. -/
import Derived.Test.YthkimgfgpphgnaaGreatMb4
import Derived.Test.YthkimgfgpphgnaaGreatMb3
import Derived.Laws.Bits64b
set_option linter.unusedVariables false
set_option linter.unusedSimpArgs false
/- Dips that must be false: the walk of strike. -/
namespace Go.Proofs.YthkimgfgpphgnaaGreat.T
open Go.RowKit Go.Proofs Go.Eng
set_option maxRecDepth 100000
set_option linter.unusedVariables false
set_option linter.unusedSimpArgs false



theorem Row.ne_none {E : TypeId} {sz n cap : Nat} {a : Option Addr} {us : List Value} {Hn : List Blk} (h : Row E sz a n cap us Hn) (hn : 0 < n) : a ≠ none := by
  rcases h with ⟨_, h0, _⟩ | ⟨_, _, rfl, _⟩
  · omega
  · simp
theorem Row.mem {C : Ctx} {H Hn : List Blk} {T : TypeId} {b o n cap k : Nat} {xs : List Int} (h : Row T 1 (some ⟨b, o, none⟩) n cap (iv xs) Hn) (hl : xs.length = n) (hs : Hn.Sublist H) (hk : k < n) : Mem C H b (o + k * 1) [.int .i64 (xs.getD k 0)] :=
  fun w hw => (Row.ints h hl hs w hw).at hk
def firstSome {β : Type} (f : Nat → Option β) (a : Nat) : Nat → Option β
  | 0 => none
  | n + 1 => match f a with
    | some r => some r
    | none => firstSome f (a + 1) n
def frD (D : List Int) : Nat := (D.getD (D.length - 1) 0).toNat
/-- The first list of so many dips more without which there is a truth. -/
def Lg.stk (l : Lg) : Nat → List Int → Option (List Int)
  | 0, D => if (l.wo D).holdsB then some D else none
  | m + 1, D => firstSome (fun i => if (l.e i).kind = 3 then l.stk m (D ++ [(i : Int) + 1]) else none) (frD D) (l.es.length - frD D)
def Lg.stkF (l : Lg) (m : Nat) (D : List Int) (i : Nat) : Option (List Int) := if (l.e i).kind = 3 then l.stk m (D ++ [(i : Int) + 1]) else none
def stkBase (pf pb bk g ps : Nat) (l : Lg) (a : Option Addr) (cap : Nat) (ae : Option Addr) (cape : Nat) (s : Value) (L : List Blk) : List Blk :=
  (pf, CB [s] 22) :: (pb, CB [.pointer (some ⟨bk, 0, none⟩)] 76) :: (bk, CB (bookCells g l a cap ae cape) 91) :: (g, CB (gaugeCells l.tk a cap) 95) :: (ps, CB [.func (.func 69) #[] #[.pointer (some ⟨pb, 0, none⟩), .pointer (some ⟨ps, 0, none⟩)]] 106) :: L
def StkV (base : Value → List Blk → List Blk) (r : Option (List Int)) (L : List Blk) (v : Value) (H' : List Blk) : Prop :=
  ∃ bb s L', v = .bool bb ∧ H' = base s L' ∧ (bb = true → r = none ∧ L' = L) ∧ (bb = false → ∃ R fa fn fcap Hf, r = some R ∧ s = .slice fa fn fcap ∧ Row 3 1 fa fn fcap (iv R) Hf ∧ R.length = fn ∧ Hf.Sublist L')
theorem firstSome_hit {β : Type} {f : Nat → Option β} {a n : Nat} {r : β} (hn : 0 < n) (h : f a = some r) : firstSome f a n = some r := by
  obtain ⟨m, rfl⟩ : ∃ m, n = m + 1 := ⟨n - 1, by omega⟩
  unfold firstSome; rw [h]
theorem firstSome_miss {β : Type} {f : Nat → Option β} {a n : Nat} (hn : 0 < n) (h : f a = none) : firstSome f a n = firstSome f (a + 1) (n - 1) := by
  obtain ⟨m, rfl⟩ : ∃ m, n = m + 1 := ⟨n - 1, by omega⟩
  rw [firstSome, h]; rfl

theorem strike_cs (w0 : World) (pf pb bk g ps : Nat) (l : Lg) (a : Option Addr) (cap : Nat) (ae : Option Addr) (cape : Nat) (hok : l.Ok) (hx : Ints w0 a l.tk.n cap l.tk.pints) (he : Ens w0 ae l.es.length cape l.es) :
    ∀ (m : Nat) (ds0 out0 : List Deferred) (s0 : Value) (ta : Option Addr) (tn tcap : Nat) (D : List Int) (Ht L : List Blk), m + tn ≤ 12 → Row 3 1 ta tn tcap (iv D) Ht → D.length = tn → Ht.Sublist L → (ta = none ∧ tn = 0 ∨ ta ≠ none ∧ 0 < tn) → (0 < tn → 1 ≤ D.getD (tn - 1) 0 ∧ D.getD (tn - 1) 0 ≤ l.es.length) →
    Cs ⟨Tryz.prog, w0, ds0, out0⟩ 69 #[.slice ta tn tcap, .int .i64 (m : Int), .func (.func 71) #[] #[.pointer (some ⟨pf, 0, none⟩), .pointer (some ⟨pb, 0, none⟩)], .pointer (some ⟨pb, 0, none⟩), .pointer (some ⟨ps, 0, none⟩)]
      (stkBase pf pb bk g ps l a cap ae cape s0 L) (StkV (stkBase pf pb bk g ps l a cap ae cape) (l.stk m D) L) := by
  intro m
  induction m using Nat.strongRecOn with
  | _ m ih =>
  intro ds0 out0 s0 ta tn tcap D Ht L hmt hrow hD hsub hnil hlast
  have hn12 := hok.n12
  have hF := wide_wide
  refine Cs_start (args := [_, _, _, _, _]) Tryz.func69 (by rfl) Tryz.ntmps69 (by rfl) ?_
  refine W_seq ?_
  refine W_region_lit (fun ds => ?_)
  refine WS_det hF (by rfl) (y_assign (c := .bool _) (by rfl)) ?_
  refine WS_nil ?_
  refine Then_normal ?_
  refine W_scope ?_
  refine W_seq ?_
  refine W_seq ?_
  refine W_region_lit (fun ds => ?_)
  refine WS_det hF (by rfl) (y_move (c := .int .i64 _) (by rfl)) ?_
  refine WS_det hF (by rfl) (y_eql (by rfl) (by rfl)) ?_
  refine WS_nil ?_
  refine Then_normal ?_
  refine W_cond (by rfl) (fun c1 => ?_) (fun c1 => ?_)
  ·
    try simp only [Bool.not_eq_true', Bool.not_eq_false', decide_eq_true_eq, decide_eq_false_iff_not, ne_eq, Classical.not_not, Int.not_lt, Int.not_le] at c1
    obtain rfl : m = 0 := by omega
    refine W_seq ?_
    refine W_region_lit (fun ds => ?_)
    refine WS_det hF (by rfl) (y_move (c := _) (by rfl)) ?_
    refine WS_det hF (by rfl) (y_move (c := .slice _ _ _) (by rfl)) ?_
    refine WS_callS hF (by rfl) (by rfl) (by rfl) Tryz.call71 (w2_cs _ _ _ pf pb bk g l a cap ae cape s0 ta tn tcap D Ht _ hok hx he hrow hD (by omega) (hsub.cons _)) ?_
    rintro v0 _ ⟨rfl, rfl⟩
    refine WS_det hF (by rfl) (y_assign (c := .bool _) (by rfl)) ?_
    refine WS_nil ?_
    refine Then_normal ?_
    refine W_ret ?_
    refine Then_ret ?_
    refine NoG_ret ?_
    refine Fin_ret [.bool _] (stkBase pf pb bk g ps l a cap ae cape (.slice ta tn tcap) L) Tryz.results69 ⟨by rfl, trivial⟩ HSub.refl ?_
    refine ⟨!(l.wo D).holdsB, _, L, rfl, rfl, fun h => ⟨?_, rfl⟩, fun h => ⟨D, ta, tn, tcap, Ht, ?_, rfl, hrow, hD, hsub⟩⟩
    · unfold Lg.stk
      rw [if_neg (by simpa using h)]
    · unfold Lg.stk
      rw [if_pos (by simpa using h)]
  ·
    try simp only [Bool.not_eq_true', Bool.not_eq_false', decide_eq_true_eq, decide_eq_false_iff_not, ne_eq, Classical.not_not, Int.not_lt, Int.not_le] at c1
    obtain ⟨m, rfl⟩ : ∃ k, m = k + 1 := ⟨m - 1, by omega⟩
    refine W_skip ?_
    refine Then_normal ?_
    refine W_seq ?_
    refine W_region_lit (fun ds => ?_)
    refine WS_det hF (by rfl) (y_assign (c := .int .i64 _) (by rfl)) ?_
    refine WS_nil ?_
    refine Then_normal ?_
    refine W_seq ?_
    refine W_seq ?_
    refine W_region_lit (fun ds => ?_)
    refine WS_det hF (by rfl) (y_move (c := .slice _ _ _) (by rfl)) ?_
    refine WS_det hF (by rfl) (y_len (by rfl) Tryz.runUnderlying22) ?_
    refine WS_det hF (by rfl) (y_assign (c := .int .i64 _) (by rfl)) ?_
    refine WS_nil ?_
    refine Then_normal ?_
    refine W_seq ?_
    refine W_region_lit (fun ds => ?_)
    refine WS_det hF (by rfl) (y_move (c := .int .i64 _) (by rfl)) ?_
    refine WS_det hF (by rfl) (y_gtr (by rfl) (by rfl)) ?_
    refine WS_nil ?_
    refine Then_normal ?_
    refine W_cond (by rfl) (fun c5 => ?_) (fun c5 => ?_)
    ·
      try simp only [Bool.not_eq_true', Bool.not_eq_false', decide_eq_true_eq, decide_eq_false_iff_not, ne_eq, Classical.not_not, Int.not_lt, Int.not_le] at c5
      obtain ⟨tb, hta⟩ : ∃ tb, ta = some ⟨tb, 0, none⟩ := by
        rcases hrow with ⟨_, h0, _⟩ | ⟨b, _, rfl, _⟩
        · omega
        · exact ⟨b, rfl⟩
      have hrowt : Row 3 1 (some ⟨tb, 0, none⟩) tn tcap (iv D) Ht := by rw [← hta]; exact hrow
      have hfr : D.getD (tn - 1) 0 = (frD D : Int) := by
        have := hlast (by omega)
        unfold frD
        rw [hD]; omega
      have hfrn : frD D ≤ l.es.length := by
        have := hlast (by omega)
        omega
      refine W_region_lit (fun ds => ?_)
      refine WS_det hF (by rfl) (y_move (c := .slice _ _ _) (by rfl)) ?_
      refine WS_det hF (by rfl) (y_move (c := .int .i64 _) (by rfl)) ?_
      refine WS_det hF (by rfl) (y_sub (by rfl) (by rfl) (by unfold I64; omega)) ?_
      refine WS_det hF (by rfl) (y_index (k := tn - 1) (by show Value.slice ta _ _ = _; rw [hta]) (by rfl) (by first | rfl | omega) (by omega) Tryz.runUnderlying22 Tryz.sizeOf3) ?_
      refine WS_det hF (by rfl) (y_load1 (by rfl) Tryz.isAgg3 (Row.mem hrowt hD (hsub.trans (by repeat (first | exact List.Sublist.refl _ | exact List.sublist_append_left _ _ | exact List.nil_sublist _ | apply List.Sublist.cons_cons | apply List.Sublist.cons | refine List.Sublist.trans ?_ (List.sublist_append_right _ _)))) (k := tn - 1) (by omega))) ?_
      refine WS_det hF (by rfl) (y_assign (c := .int .i64 _) (by rfl)) ?_
      refine WS_nil ?_
      refine Then_normal ?_
      refine W_seq ?_
      refine W_label ?_
      refine Then_normal ?_
      refine W_seq ?_
      refine W_seq ?_
      refine W_region_lit (fun ds => ?_)
      refine WS_det hF (by rfl) (y_move (c := .int .i64 _) (by rfl)) ?_
      refine WS_det hF (by rfl) (y_assign (c := .int .i64 _) (by rfl)) ?_
      refine WS_nil ?_
      refine Then_normal ?_
      refine W_block ?_
      refine W_loop (γ := Nat × Value) (fun p => frD D ≤ p.1 ∧ p.1 ≤ l.es.length ∧ l.stk (m + 1) D = firstSome (l.stkF m D) p.1 (l.es.length - p.1)) (fun p => [(0, .slice ta tn tcap), (1, .int .i64 ((m + 1 : Nat) : Int)), (2, .func (.func 71) #[] #[.pointer (some ⟨pf, 0, none⟩), .pointer (some ⟨pb, 0, none⟩)]), (3, .pointer (some ⟨pb, 0, none⟩)), (4, .pointer (some ⟨ps, 0, none⟩)), (11, .int .i64 (p.1 : Int))]) (fun p => stkBase pf pb bk g ps l a cap ae cape p.2 L) (fun p => l.es.length - p.1) ((frD D, s0)) ⟨Nat.le_refl _, hfrn, rfl⟩ ((by repeat (first | exact trivial | refine ⟨by rfl, ?_⟩ | refine ⟨congrArg (Value.int _) (by first | omega | (simp only; omega) | (push_cast; omega)), ?_⟩))) (List.Sublist.refl _) ?_
      rintro ⟨i, s1⟩ e ⟨hi0, hi1, hinv⟩
      refine W_seq ?_
      refine W_seq ?_
      refine W_region_lit (fun ds => ?_)
      refine WS_det hF (by rfl) (y_move (c := .int .i64 _) (by rfl)) ?_
      refine WS_det hF (by rfl) (y_load1 (by rfl) Tryz.isAgg76 (Mem.own1 1 (by rfl) (by rfl))) ?_
      refine WS_det hF (by rfl) (by first | exact y_nilCheck (by rfl) | exact y_nilCheckF (by rfl)) ?_
      refine WS_det hF (by rfl) (y_fieldAddr (by rfl) fa91_1) ?_
      refine WS_det hF (by rfl) (y_fieldAddr (by rfl) fa29_2) ?_
      refine WS_det hF (by rfl) (y_load1 (by rfl) Tryz.isAgg27 (Mem.own1 2 (by rfl) (by rfl))) ?_
      refine WS_det hF (by rfl) (y_len (by rfl) Tryz.runUnderlying27) ?_
      refine WS_det hF (by rfl) (y_lss (by rfl) (by rfl)) ?_
      refine WS_nil ?_
      refine Then_normal ?_
      refine W_cond (by rfl) (fun c8 => ?_) (fun c8 => ?_)
      ·
        try simp only [Bool.not_eq_true', Bool.not_eq_false', decide_eq_true_eq, decide_eq_false_iff_not, ne_eq, Classical.not_not, Int.not_lt, Int.not_le] at c8
        have hin : i < l.es.length := by omega
        obtain ⟨b, o, rfl, hc⟩ := he.cell i hin
        change At w0 b _ (l.e i).cells at hc
        refine W_skip ?_
        refine Then_normal ?_
        refine W_seq ?_
        refine W_block ?_
        refine W_seq ?_
        refine W_seq ?_
        refine W_region_lit (fun ds => ?_)
        refine WS_det hF (by rfl) (y_load1 (by rfl) Tryz.isAgg76 (Mem.own1 1 (by rfl) (by rfl))) ?_
        refine WS_det hF (by rfl) (by first | exact y_nilCheck (by rfl) | exact y_nilCheckF (by rfl)) ?_
        refine WS_det hF (by rfl) (y_fieldAddr (by rfl) fa91_1) ?_
        refine WS_det hF (by rfl) (y_fieldAddr (by rfl) fa29_2) ?_
        refine WS_det hF (by rfl) (y_load1 (by rfl) Tryz.isAgg27 (Mem.own1 2 (by rfl) (by rfl))) ?_
        refine WS_det hF (by rfl) (y_move (c := .int .i64 _) (by rfl)) ?_
        refine WS_det hF (by rfl) (y_index (k := i) (by rfl) (by rfl) (by first | rfl | omega) (by first | decide | omega) Tryz.runUnderlying27 Tryz.sizeOf38) ?_
        refine WS_det hF (by rfl) (y_fieldAddr (by rfl) fa38_1) ?_
        refine WS_det hF (by rfl) (y_load1 (by rfl) Tryz.isAgg3 (by first | exact Mem.old1 (by assumption) | exact Mem.oldAt1 (by assumption) (by rfl) | exact Mem.old (by assumption) | exact Mem.oldAtL1 (by assumption) (by rfl) (by rfl))) ?_
        refine WS_det hF (by rfl) (y_neq (by rfl) (by rfl)) ?_
        refine WS_nil ?_
        refine Then_normal ?_
        refine W_cond (by rfl) (fun c10 => ?_) (fun c10 => ?_)
        ·
          try simp only [Bool.not_eq_true', Bool.not_eq_false', decide_eq_true_eq, decide_eq_false_iff_not, ne_eq, Classical.not_not, Int.not_lt, Int.not_le] at c10
          have hinv2 : l.stk (m + 1) D = firstSome (l.stkF m D) (i + 1) (l.es.length - (i + 1)) := by
            rw [hinv, firstSome_miss (by omega) (show l.stkF m D i = none from if_neg c10), Nat.sub_sub]
          refine W_exit ?_
          refine Then_exit ?_
          refine InB_same ?_
          refine Then_normal ?_
          refine W_region_lit (fun ds => ?_)
          refine WS_det hF (by rfl) (y_move (c := .int .i64 _) (by rfl)) ?_
          refine WS_det hF (by rfl) (y_add (by rfl) (by rfl) (by unfold I64; omega)) ?_
          refine WS_det hF (by rfl) (y_assign (c := .int .i64 _) (by rfl)) ?_
          refine WS_nil ?_
          exact Loop_next (i + 1, s1) ⟨by omega, by omega, hinv2⟩ (by repeat (first | exact trivial | refine ⟨by rfl, ?_⟩)) (by repeat (first | exact List.Sublist.refl _ | exact List.nil_sublist _ | apply List.Sublist.cons_cons | apply List.Sublist.cons)) (by simp only; omega)
        ·
          try simp only [Bool.not_eq_true', Bool.not_eq_false', decide_eq_true_eq, decide_eq_false_iff_not, ne_eq, Classical.not_not, Int.not_lt, Int.not_le] at c10
          refine W_skip ?_
          refine Then_normal ?_
          refine W_seq ?_
          refine W_tailA 10 Tryzmixed (fun e2 H2 => ∃ a2 cap2 Hr lt, Row 3 1 a2 (tn + 1) cap2 (iv (D ++ [(i : Int) + 1])) Hr ∧ a2 ≠ none ∧ Slots e2 [(0, .slice ta tn tcap), (1, .int .i64 ((m + 1 : Nat) : Int)), (2, .func (.func 71) #[] #[.pointer (some ⟨pf, 0, none⟩), .pointer (some ⟨pb, 0, none⟩)]), (3, .pointer (some ⟨pb, 0, none⟩)), (4, .pointer (some ⟨ps, 0, none⟩)), (11, .int .i64 (i : Int)), (47, .func (.func 69) #[] #[.pointer (some ⟨pb, 0, none⟩), .pointer (some ⟨ps, 0, none⟩)]), (53, .slice a2 (tn + 1) cap2), (55, .int .i64 (m : Int)), (56, .func (.func 71) #[] #[.pointer (some ⟨pf, 0, none⟩), .pointer (some ⟨pb, 0, none⟩)])] ∧ H2 = (lt, CB [.int .i64 ((i : Int) + 1)] 3) :: stkBase pf pb bk g ps l a cap (some ⟨b, o, none⟩) cape s1 (L ++ Hr)) (by decide +kernel) (fun ds e2 H2 hmid => ?_) (fun ds => ?_)
          ·
            obtain ⟨a2, cap2, Hr, lt, hrow2, hnn, hsl, rfl⟩ := hmid
            rw [← hsl.sets]
            refine WS_sub ((SubP.hsub (SubP.pick 1 (by rfl) (SubP.pick 1 (by rfl) (SubP.pick 1 (by rfl) (SubP.pick 1 (by rfl) (SubP.pick 1 (by rfl) (by exact SubP.drop (SubP.refl))))))))) ?_
            refine WS_callS hF (by rfl) (by rfl) (by rfl) Tryz.call69 (ih m (by omega) _ _ s1 a2 (tn + 1) cap2 (D ++ [(i : Int) + 1]) Hr (L ++ Hr) (by omega) hrow2 (by simp [hD]) (List.sublist_append_right _ _) (.inr ⟨hnn, by omega⟩) (fun _ => by rw [Nat.add_sub_cancel, List.getD_eq_getElem?_getD, ← hD]; simp; omega)) ?_
            rintro _ _ ⟨bb, s2, L2, rfl, rfl, hbt, hbf⟩
            refine WS_det hF (by rfl) (y_not (by rfl)) ?_
            refine WS_nil ?_
            refine Then_normal ?_
            refine W_cond (by rfl) (fun c11 => ?_) (fun c11 => ?_)
            ·
              try simp only [Bool.not_eq_true', Bool.not_eq_false', decide_eq_true_eq, decide_eq_false_iff_not, ne_eq, Classical.not_not, Int.not_lt, Int.not_le] at c11
              refine W_seq ?_
              refine W_region_lit (fun ds => ?_)
              refine WS_det hF (by rfl) (y_assign (c := .bool _) (by rfl)) ?_
              refine WS_nil ?_
              refine Then_normal ?_
              refine W_ret ?_
              refine InB_ret ?_
              refine Then_ret ?_
              refine Loop_ret ?_
              refine InB_ret ?_
              refine Then_ret ?_
              refine NoG_ret ?_
              refine Fin_ret [.bool _] (stkBase pf pb bk g ps l a cap _ cape s2 L2) Tryz.results69 ⟨by rfl, trivial⟩ HSub.refl ?_
              obtain ⟨R, fa, fn, fcap, Hf, hR, rfl, hrw, hln, hsb⟩ := hbf c11
              refine ⟨false, _, L2, rfl, rfl, fun h => (by cases h), fun _ => ⟨R, fa, fn, fcap, Hf, ?_, rfl, hrw, hln, hsb⟩⟩
              rw [hinv]
              exact firstSome_hit (by simp only; omega) (by unfold Lg.stkF; rw [if_pos c10]; exact hR)
            ·
              try simp only [Bool.not_eq_true', Bool.not_eq_false', decide_eq_true_eq, decide_eq_false_iff_not, ne_eq, Classical.not_not, Int.not_lt, Int.not_le] at c11
              obtain ⟨hR, rfl⟩ := hbt c11
              have hinv2 : l.stk (m + 1) D = firstSome (l.stkF m D) (i + 1) (l.es.length - (i + 1)) := by
                rw [hinv, firstSome_miss (by omega) (show l.stkF m D i = none by unfold Lg.stkF; rw [if_pos c10]; exact hR), Nat.sub_sub]
              refine W_skip ?_
              refine InB_normal ?_
              refine Then_normal ?_
              refine W_region_lit (fun ds => ?_)
              refine WS_det hF (by rfl) (y_move (c := .int .i64 _) (by rfl)) ?_
              refine WS_det hF (by rfl) (y_add (by rfl) (by rfl) (by unfold I64; omega)) ?_
              refine WS_det hF (by rfl) (y_assign (c := .int .i64 _) (by rfl)) ?_
              refine WS_nil ?_
              exact Loop_next (i + 1, s2) ⟨by omega, by omega, hinv2⟩ (by repeat (first | exact trivial | refine ⟨by rfl, ?_⟩)) (by repeat (first | exact List.Sublist.refl _ | exact List.sublist_append_left _ _ | exact List.nil_sublist _ | apply List.Sublist.cons_cons | apply List.Sublist.cons | refine List.Sublist.trans ?_ (List.sublist_append_right _ _))) (by simp only; omega)
          ·
            refine WA_take 1 (by rfl) (by rfl) (by decide +kernel) (by decide +kernel) (by rfl) (pure_move (by rfl)) ?_
            refine WA_take 3 (by rfl) (by rfl) (by decide +kernel) (by decide +kernel) (by rfl) (pure_move (by rfl)) ?_
            refine WA_take 4 (by rfl) (by rfl) (by decide +kernel) (by decide +kernel) (by rfl) (pure_add (by rfl) (by rfl) (by unfold I64; omega)) ?_
            refine WA_take 7 (by rfl) (by rfl) (by decide +kernel) (by decide +kernel) (by rfl) (pure_move (by rfl)) ?_
            refine WA_take 8 (by rfl) (by rfl) (by decide +kernel) (by decide +kernel) (by rfl) (pure_sub (by rfl) (by rfl) (by unfold I64; omega)) ?_
            refine WA_take 9 (by rfl) (by rfl) (by decide +kernel) (by decide +kernel) (by rfl) (pure_move (by rfl)) ?_
            refine WA_step3 0 2 5 (by decide +kernel) (by rfl) (by rfl) (by rfl) ?_ ?_ ?_
            ·
              refine WS_det hF (by rfl) (y_load1 (by rfl) Tryz.isAgg106 (Mem.own1 4 (by rfl) (by rfl))) ?_
              refine WS_nil ?_
              refine WA_step2 2 5 (by decide +kernel) (by rfl) (by rfl) ?_ ?_
              ·
                refine WS_gen hF (by rfl) (y_callL (by rfl) (by rfl) Tryz.call70 (fun w hw => clone_any ta tn tcap D w (Row.ints hrow hD (hsub.trans (by repeat (first | exact List.Sublist.refl _ | exact List.sublist_append_left _ _ | exact List.nil_sublist _ | apply List.Sublist.cons_cons | apply List.Sublist.cons | refine List.Sublist.trans ?_ (List.sublist_append_right _ _)))) w hw) (by omega) hnil)) ?_
                rintro _ Hc ⟨ca, ccap, rfl, hrowc, hnc⟩
                refine WS_back ?_
                refine WS_nil ?_
                refine WA_step1 5 (by decide +kernel) (by rfl) ?_
                ·
                  refine WS_newS hF (by rfl) (y_buildSliceL bs22_1_0 (by rfl)) (fun b1 => ?_)
                  refine WS_nil ?_
                  refine WA_step1 6 (by decide +kernel) (by rfl) ?_
                  ·
                    refine WS_appendE hF (n' := tn) (H1 := (_ :: _ :: _ :: _ :: _ :: _ :: L)) (by rfl) (by rfl) (by rfl) Tryz.underlying22 infInt (by rfl) (by rfl) hrowc (.inr ⟨_, _, rfl, Mem.own (us := [.int _ _]) 0 (by rfl) (by rfl)⟩) (by rfl) (by rfl) (by omega) (by omega) ?_
                    intro a2 cap2 Hr hrow2
                    have hrow3 : Row 3 1 a2 (tn + 1) cap2 (iv (D ++ [(i : Int) + 1])) Hr := by rw [iv, List.map_append]; exact hrow2
                    have hnn3 := Row.ne_none hrow3 (by omega)
                    refine WS_nil ?_
                    refine WA_done (by decide +kernel) ?_
                    exact ⟨_, _, _, _, hrow3, hnn3, (by repeat (first | exact trivial | refine ⟨by rfl, ?_⟩ | refine ⟨congrArg (Value.int _) (by first | omega | (simp only; omega) | (push_cast; omega)), ?_⟩)), rfl⟩
              ·
                refine WS_newS hF (by rfl) (y_buildSliceL bs22_1_0 (by rfl)) (fun b2 => ?_)
                refine WS_nil ?_
                refine WA_step1 2 (by decide +kernel) (by rfl) ?_
                ·
                  refine WS_gen hF (by rfl) (y_callL (by rfl) (by rfl) Tryz.call70 (fun w hw => clone_any ta tn tcap D w (Row.ints hrow hD (hsub.trans (by repeat (first | exact List.Sublist.refl _ | exact List.sublist_append_left _ _ | exact List.nil_sublist _ | apply List.Sublist.cons_cons | apply List.Sublist.cons | refine List.Sublist.trans ?_ (List.sublist_append_right _ _)))) w hw) (by omega) hnil)) ?_
                  rintro _ Hc ⟨ca, ccap, rfl, hrowc, hnc⟩
                  refine WS_back ?_
                  refine WS_nil ?_
                  refine WA_step1 6 (by decide +kernel) (by rfl) ?_
                  ·
                    refine WS_appendE hF (n' := tn) (H1 := (_ :: _ :: _ :: _ :: _ :: _ :: L)) (by rfl) (by rfl) (by rfl) Tryz.underlying22 infInt (by rfl) (by rfl) hrowc (.inr ⟨_, _, rfl, Mem.own (us := [.int _ _]) 0 (by rfl) (by rfl)⟩) (by rfl) (by rfl) (by omega) (by omega) ?_
                    intro a2 cap2 Hr hrow2
                    have hrow3 : Row 3 1 a2 (tn + 1) cap2 (iv (D ++ [(i : Int) + 1])) Hr := by rw [iv, List.map_append]; exact hrow2
                    have hnn3 := Row.ne_none hrow3 (by omega)
                    refine WS_nil ?_
                    refine WA_done (by decide +kernel) ?_
                    exact ⟨_, _, _, _, hrow3, hnn3, (by repeat (first | exact trivial | refine ⟨by rfl, ?_⟩ | refine ⟨congrArg (Value.int _) (by first | omega | (simp only; omega) | (push_cast; omega)), ?_⟩)), rfl⟩
            ·
              refine WS_gen hF (by rfl) (y_callL (by rfl) (by rfl) Tryz.call70 (fun w hw => clone_any ta tn tcap D w (Row.ints hrow hD (hsub.trans (by repeat (first | exact List.Sublist.refl _ | exact List.sublist_append_left _ _ | exact List.nil_sublist _ | apply List.Sublist.cons_cons | apply List.Sublist.cons | refine List.Sublist.trans ?_ (List.sublist_append_right _ _)))) w hw) (by omega) hnil)) ?_
              rintro _ Hc ⟨ca, ccap, rfl, hrowc, hnc⟩
              refine WS_back ?_
              refine WS_nil ?_
              refine WA_step2 0 5 (by decide +kernel) (by rfl) (by rfl) ?_ ?_
              ·
                refine WS_det hF (by rfl) (y_load1 (by rfl) Tryz.isAgg106 (Mem.own1 4 (by rfl) (by rfl))) ?_
                refine WS_nil ?_
                refine WA_step1 5 (by decide +kernel) (by rfl) ?_
                ·
                  refine WS_newS hF (by rfl) (y_buildSliceL bs22_1_0 (by rfl)) (fun b3 => ?_)
                  refine WS_nil ?_
                  refine WA_step1 6 (by decide +kernel) (by rfl) ?_
                  ·
                    refine WS_appendE hF (n' := tn) (H1 := (_ :: _ :: _ :: _ :: _ :: _ :: L)) (by rfl) (by rfl) (by rfl) Tryz.underlying22 infInt (by rfl) (by rfl) hrowc (.inr ⟨_, _, rfl, Mem.own (us := [.int _ _]) 0 (by rfl) (by rfl)⟩) (by rfl) (by rfl) (by omega) (by omega) ?_
                    intro a2 cap2 Hr hrow2
                    have hrow3 : Row 3 1 a2 (tn + 1) cap2 (iv (D ++ [(i : Int) + 1])) Hr := by rw [iv, List.map_append]; exact hrow2
                    have hnn3 := Row.ne_none hrow3 (by omega)
                    refine WS_nil ?_
                    refine WA_done (by decide +kernel) ?_
                    exact ⟨_, _, _, _, hrow3, hnn3, (by repeat (first | exact trivial | refine ⟨by rfl, ?_⟩ | refine ⟨congrArg (Value.int _) (by first | omega | (simp only; omega) | (push_cast; omega)), ?_⟩)), rfl⟩
              ·
                refine WS_newS hF (by rfl) (y_buildSliceL bs22_1_0 (by rfl)) (fun b4 => ?_)
                refine WS_nil ?_
                refine WA_step2 0 6 (by decide +kernel) (by rfl) (by rfl) ?_ ?_
                ·
                  refine WS_det hF (by rfl) (y_load1 (by rfl) Tryz.isAgg106 (Mem.own1 5 (by rfl) (by rfl))) ?_
                  refine WS_nil ?_
                  refine WA_step1 6 (by decide +kernel) (by rfl) ?_
                  ·
                    refine WS_appendE hF (n' := tn) (H1 := (_ :: _ :: _ :: _ :: _ :: _ :: L)) (by rfl) (by rfl) (by rfl) Tryz.underlying22 infInt (by rfl) (by rfl) hrowc (.inr ⟨_, _, rfl, Mem.own (us := [.int _ _]) 0 (by rfl) (by rfl)⟩) (by rfl) (by rfl) (by omega) (by omega) ?_
                    intro a2 cap2 Hr hrow2
                    have hrow3 : Row 3 1 a2 (tn + 1) cap2 (iv (D ++ [(i : Int) + 1])) Hr := by rw [iv, List.map_append]; exact hrow2
                    have hnn3 := Row.ne_none hrow3 (by omega)
                    refine WS_nil ?_
                    refine WA_done (by decide +kernel) ?_
                    exact ⟨_, _, _, _, hrow3, hnn3, (by repeat (first | exact trivial | refine ⟨by rfl, ?_⟩ | refine ⟨congrArg (Value.int _) (by first | omega | (simp only; omega) | (push_cast; omega)), ?_⟩)), rfl⟩
                ·
                  refine WS_appendE hF (n' := tn) (H1 := (_ :: _ :: _ :: _ :: _ :: _ :: L)) (by rfl) (by rfl) (by rfl) Tryz.underlying22 infInt (by rfl) (by rfl) hrowc (.inr ⟨_, _, rfl, Mem.own (us := [.int _ _]) 0 (by rfl) (by rfl)⟩) (by rfl) (by rfl) (by omega) (by omega) ?_
                  intro a2 cap2 Hr hrow2
                  have hrow3 : Row 3 1 a2 (tn + 1) cap2 (iv (D ++ [(i : Int) + 1])) Hr := by rw [iv, List.map_append]; exact hrow2
                  have hnn3 := Row.ne_none hrow3 (by omega)
                  refine WS_nil ?_
                  refine WA_step1 0 (by decide +kernel) (by rfl) ?_
                  ·
                    refine WS_det hF (by rfl) (y_load1 (by rfl) Tryz.isAgg106 (Mem.own1 5 (by rfl) (by rfl))) ?_
                    refine WS_nil ?_
                    refine WA_done (by decide +kernel) ?_
                    exact ⟨_, _, _, _, hrow3, hnn3, (by repeat (first | exact trivial | refine ⟨by rfl, ?_⟩ | refine ⟨congrArg (Value.int _) (by first | omega | (simp only; omega) | (push_cast; omega)), ?_⟩)), rfl⟩
            ·
              refine WS_newS hF (by rfl) (y_buildSliceL bs22_1_0 (by rfl)) (fun b5 => ?_)
              refine WS_nil ?_
              refine WA_step2 0 2 (by decide +kernel) (by rfl) (by rfl) ?_ ?_
              ·
                refine WS_det hF (by rfl) (y_load1 (by rfl) Tryz.isAgg106 (Mem.own1 5 (by rfl) (by rfl))) ?_
                refine WS_nil ?_
                refine WA_step1 2 (by decide +kernel) (by rfl) ?_
                ·
                  refine WS_gen hF (by rfl) (y_callL (by rfl) (by rfl) Tryz.call70 (fun w hw => clone_any ta tn tcap D w (Row.ints hrow hD (hsub.trans (by repeat (first | exact List.Sublist.refl _ | exact List.sublist_append_left _ _ | exact List.nil_sublist _ | apply List.Sublist.cons_cons | apply List.Sublist.cons | refine List.Sublist.trans ?_ (List.sublist_append_right _ _)))) w hw) (by omega) hnil)) ?_
                  rintro _ Hc ⟨ca, ccap, rfl, hrowc, hnc⟩
                  refine WS_back ?_
                  refine WS_nil ?_
                  refine WA_step1 6 (by decide +kernel) (by rfl) ?_
                  ·
                    refine WS_appendE hF (n' := tn) (H1 := (_ :: _ :: _ :: _ :: _ :: _ :: L)) (by rfl) (by rfl) (by rfl) Tryz.underlying22 infInt (by rfl) (by rfl) hrowc (.inr ⟨_, _, rfl, Mem.own (us := [.int _ _]) 0 (by rfl) (by rfl)⟩) (by rfl) (by rfl) (by omega) (by omega) ?_
                    intro a2 cap2 Hr hrow2
                    have hrow3 : Row 3 1 a2 (tn + 1) cap2 (iv (D ++ [(i : Int) + 1])) Hr := by rw [iv, List.map_append]; exact hrow2
                    have hnn3 := Row.ne_none hrow3 (by omega)
                    refine WS_nil ?_
                    refine WA_done (by decide +kernel) ?_
                    exact ⟨_, _, _, _, hrow3, hnn3, (by repeat (first | exact trivial | refine ⟨by rfl, ?_⟩ | refine ⟨congrArg (Value.int _) (by first | omega | (simp only; omega) | (push_cast; omega)), ?_⟩)), rfl⟩
              ·
                refine WS_gen hF (by rfl) (y_callL (by rfl) (by rfl) Tryz.call70 (fun w hw => clone_any ta tn tcap D w (Row.ints hrow hD (hsub.trans (by repeat (first | exact List.Sublist.refl _ | exact List.sublist_append_left _ _ | exact List.nil_sublist _ | apply List.Sublist.cons_cons | apply List.Sublist.cons | refine List.Sublist.trans ?_ (List.sublist_append_right _ _)))) w hw) (by omega) hnil)) ?_
                rintro _ Hc ⟨ca, ccap, rfl, hrowc, hnc⟩
                refine WS_back ?_
                refine WS_nil ?_
                refine WA_step2 0 6 (by decide +kernel) (by rfl) (by rfl) ?_ ?_
                ·
                  refine WS_det hF (by rfl) (y_load1 (by rfl) Tryz.isAgg106 (Mem.own1 5 (by rfl) (by rfl))) ?_
                  refine WS_nil ?_
                  refine WA_step1 6 (by decide +kernel) (by rfl) ?_
                  ·
                    refine WS_appendE hF (n' := tn) (H1 := (_ :: _ :: _ :: _ :: _ :: _ :: L)) (by rfl) (by rfl) (by rfl) Tryz.underlying22 infInt (by rfl) (by rfl) hrowc (.inr ⟨_, _, rfl, Mem.own (us := [.int _ _]) 0 (by rfl) (by rfl)⟩) (by rfl) (by rfl) (by omega) (by omega) ?_
                    intro a2 cap2 Hr hrow2
                    have hrow3 : Row 3 1 a2 (tn + 1) cap2 (iv (D ++ [(i : Int) + 1])) Hr := by rw [iv, List.map_append]; exact hrow2
                    have hnn3 := Row.ne_none hrow3 (by omega)
                    refine WS_nil ?_
                    refine WA_done (by decide +kernel) ?_
                    exact ⟨_, _, _, _, hrow3, hnn3, (by repeat (first | exact trivial | refine ⟨by rfl, ?_⟩ | refine ⟨congrArg (Value.int _) (by first | omega | (simp only; omega) | (push_cast; omega)), ?_⟩)), rfl⟩
                ·
                  refine WS_appendE hF (n' := tn) (H1 := (_ :: _ :: _ :: _ :: _ :: _ :: L)) (by rfl) (by rfl) (by rfl) Tryz.underlying22 infInt (by rfl) (by rfl) hrowc (.inr ⟨_, _, rfl, Mem.own (us := [.int _ _]) 0 (by rfl) (by rfl)⟩) (by rfl) (by rfl) (by omega) (by omega) ?_
                  intro a2 cap2 Hr hrow2
                  have hrow3 : Row 3 1 a2 (tn + 1) cap2 (iv (D ++ [(i : Int) + 1])) Hr := by rw [iv, List.map_append]; exact hrow2
                  have hnn3 := Row.ne_none hrow3 (by omega)
                  refine WS_nil ?_
                  refine WA_step1 0 (by decide +kernel) (by rfl) ?_
                  ·
                    refine WS_det hF (by rfl) (y_load1 (by rfl) Tryz.isAgg106 (Mem.own1 5 (by rfl) (by rfl))) ?_
                    refine WS_nil ?_
                    refine WA_done (by decide +kernel) ?_
                    exact ⟨_, _, _, _, hrow3, hnn3, (by repeat (first | exact trivial | refine ⟨by rfl, ?_⟩ | refine ⟨congrArg (Value.int _) (by first | omega | (simp only; omega) | (push_cast; omega)), ?_⟩)), rfl⟩
      ·
        try simp only [Bool.not_eq_true', Bool.not_eq_false', decide_eq_true_eq, decide_eq_false_iff_not, ne_eq, Classical.not_not, Int.not_lt, Int.not_le] at c8
        refine W_exit ?_
        refine Then_exit ?_
        refine Loop_exit ?_
        refine InB_same ?_
        refine Then_normal ?_
        refine W_seq ?_
        refine W_region_lit (fun ds => ?_)
        refine WS_det hF (by rfl) (y_assign (c := .bool _) (by rfl)) ?_
        refine WS_nil ?_
        refine Then_normal ?_
        refine W_ret ?_
        refine NoG_ret ?_
        refine Fin_ret [.bool _] (stkBase pf pb bk g ps l a cap ae cape s1 L) Tryz.results69 ⟨by rfl, trivial⟩ HSub.refl ?_
        simp only at hi1 hinv
        obtain rfl : i = l.es.length := by omega
        exact ⟨true, s1, L, rfl, rfl, fun _ => ⟨by rw [hinv, Nat.sub_self]; rfl, rfl⟩, fun h => (by cases h)⟩
    ·
      try simp only [Bool.not_eq_true', Bool.not_eq_false', decide_eq_true_eq, decide_eq_false_iff_not, ne_eq, Classical.not_not, Int.not_lt, Int.not_le] at c5
      have hfr : (0 : Int) = (frD D : Int) := by
        have h0 : D = [] := List.length_eq_zero_iff.1 (by omega)
        rw [h0]; rfl
      have hfrn : frD D ≤ l.es.length := by omega
      refine W_skip ?_
      refine Then_normal ?_
      refine W_seq ?_
      refine W_label ?_
      refine Then_normal ?_
      refine W_seq ?_
      refine W_seq ?_
      refine W_region_lit (fun ds => ?_)
      refine WS_det hF (by rfl) (y_move (c := .int .i64 _) (by rfl)) ?_
      refine WS_det hF (by rfl) (y_assign (c := .int .i64 _) (by rfl)) ?_
      refine WS_nil ?_
      refine Then_normal ?_
      refine W_block ?_
      refine W_loop (γ := Nat × Value) (fun p => frD D ≤ p.1 ∧ p.1 ≤ l.es.length ∧ l.stk (m + 1) D = firstSome (l.stkF m D) p.1 (l.es.length - p.1)) (fun p => [(0, .slice ta tn tcap), (1, .int .i64 ((m + 1 : Nat) : Int)), (2, .func (.func 71) #[] #[.pointer (some ⟨pf, 0, none⟩), .pointer (some ⟨pb, 0, none⟩)]), (3, .pointer (some ⟨pb, 0, none⟩)), (4, .pointer (some ⟨ps, 0, none⟩)), (11, .int .i64 (p.1 : Int))]) (fun p => stkBase pf pb bk g ps l a cap ae cape p.2 L) (fun p => l.es.length - p.1) ((frD D, s0)) ⟨Nat.le_refl _, hfrn, rfl⟩ ((by repeat (first | exact trivial | refine ⟨by rfl, ?_⟩ | refine ⟨congrArg (Value.int _) (by first | omega | (simp only; omega) | (push_cast; omega)), ?_⟩))) (List.Sublist.refl _) ?_
      rintro ⟨i, s1⟩ e ⟨hi0, hi1, hinv⟩
      refine W_seq ?_
      refine W_seq ?_
      refine W_region_lit (fun ds => ?_)
      refine WS_det hF (by rfl) (y_move (c := .int .i64 _) (by rfl)) ?_
      refine WS_det hF (by rfl) (y_load1 (by rfl) Tryz.isAgg76 (Mem.own1 1 (by rfl) (by rfl))) ?_
      refine WS_det hF (by rfl) (by first | exact y_nilCheck (by rfl) | exact y_nilCheckF (by rfl)) ?_
      refine WS_det hF (by rfl) (y_fieldAddr (by rfl) fa91_1) ?_
      refine WS_det hF (by rfl) (y_fieldAddr (by rfl) fa29_2) ?_
      refine WS_det hF (by rfl) (y_load1 (by rfl) Tryz.isAgg27 (Mem.own1 2 (by rfl) (by rfl))) ?_
      refine WS_det hF (by rfl) (y_len (by rfl) Tryz.runUnderlying27) ?_
      refine WS_det hF (by rfl) (y_lss (by rfl) (by rfl)) ?_
      refine WS_nil ?_
      refine Then_normal ?_
      refine W_cond (by rfl) (fun c8 => ?_) (fun c8 => ?_)
      ·
        try simp only [Bool.not_eq_true', Bool.not_eq_false', decide_eq_true_eq, decide_eq_false_iff_not, ne_eq, Classical.not_not, Int.not_lt, Int.not_le] at c8
        have hin : i < l.es.length := by omega
        obtain ⟨b, o, rfl, hc⟩ := he.cell i hin
        change At w0 b _ (l.e i).cells at hc
        refine W_skip ?_
        refine Then_normal ?_
        refine W_seq ?_
        refine W_block ?_
        refine W_seq ?_
        refine W_seq ?_
        refine W_region_lit (fun ds => ?_)
        refine WS_det hF (by rfl) (y_load1 (by rfl) Tryz.isAgg76 (Mem.own1 1 (by rfl) (by rfl))) ?_
        refine WS_det hF (by rfl) (by first | exact y_nilCheck (by rfl) | exact y_nilCheckF (by rfl)) ?_
        refine WS_det hF (by rfl) (y_fieldAddr (by rfl) fa91_1) ?_
        refine WS_det hF (by rfl) (y_fieldAddr (by rfl) fa29_2) ?_
        refine WS_det hF (by rfl) (y_load1 (by rfl) Tryz.isAgg27 (Mem.own1 2 (by rfl) (by rfl))) ?_
        refine WS_det hF (by rfl) (y_move (c := .int .i64 _) (by rfl)) ?_
        refine WS_det hF (by rfl) (y_index (k := i) (by rfl) (by rfl) (by first | rfl | omega) (by first | decide | omega) Tryz.runUnderlying27 Tryz.sizeOf38) ?_
        refine WS_det hF (by rfl) (y_fieldAddr (by rfl) fa38_1) ?_
        refine WS_det hF (by rfl) (y_load1 (by rfl) Tryz.isAgg3 (by first | exact Mem.old1 (by assumption) | exact Mem.oldAt1 (by assumption) (by rfl) | exact Mem.old (by assumption) | exact Mem.oldAtL1 (by assumption) (by rfl) (by rfl))) ?_
        refine WS_det hF (by rfl) (y_neq (by rfl) (by rfl)) ?_
        refine WS_nil ?_
        refine Then_normal ?_
        refine W_cond (by rfl) (fun c10 => ?_) (fun c10 => ?_)
        ·
          try simp only [Bool.not_eq_true', Bool.not_eq_false', decide_eq_true_eq, decide_eq_false_iff_not, ne_eq, Classical.not_not, Int.not_lt, Int.not_le] at c10
          have hinv2 : l.stk (m + 1) D = firstSome (l.stkF m D) (i + 1) (l.es.length - (i + 1)) := by
            rw [hinv, firstSome_miss (by omega) (show l.stkF m D i = none from if_neg c10), Nat.sub_sub]
          refine W_exit ?_
          refine Then_exit ?_
          refine InB_same ?_
          refine Then_normal ?_
          refine W_region_lit (fun ds => ?_)
          refine WS_det hF (by rfl) (y_move (c := .int .i64 _) (by rfl)) ?_
          refine WS_det hF (by rfl) (y_add (by rfl) (by rfl) (by unfold I64; omega)) ?_
          refine WS_det hF (by rfl) (y_assign (c := .int .i64 _) (by rfl)) ?_
          refine WS_nil ?_
          exact Loop_next (i + 1, s1) ⟨by omega, by omega, hinv2⟩ (by repeat (first | exact trivial | refine ⟨by rfl, ?_⟩)) (by repeat (first | exact List.Sublist.refl _ | exact List.nil_sublist _ | apply List.Sublist.cons_cons | apply List.Sublist.cons)) (by simp only; omega)
        ·
          try simp only [Bool.not_eq_true', Bool.not_eq_false', decide_eq_true_eq, decide_eq_false_iff_not, ne_eq, Classical.not_not, Int.not_lt, Int.not_le] at c10
          refine W_skip ?_
          refine Then_normal ?_
          refine W_seq ?_
          refine W_tailA 10 Tryzmixed (fun e2 H2 => ∃ a2 cap2 Hr lt, Row 3 1 a2 (tn + 1) cap2 (iv (D ++ [(i : Int) + 1])) Hr ∧ a2 ≠ none ∧ Slots e2 [(0, .slice ta tn tcap), (1, .int .i64 ((m + 1 : Nat) : Int)), (2, .func (.func 71) #[] #[.pointer (some ⟨pf, 0, none⟩), .pointer (some ⟨pb, 0, none⟩)]), (3, .pointer (some ⟨pb, 0, none⟩)), (4, .pointer (some ⟨ps, 0, none⟩)), (11, .int .i64 (i : Int)), (47, .func (.func 69) #[] #[.pointer (some ⟨pb, 0, none⟩), .pointer (some ⟨ps, 0, none⟩)]), (53, .slice a2 (tn + 1) cap2), (55, .int .i64 (m : Int)), (56, .func (.func 71) #[] #[.pointer (some ⟨pf, 0, none⟩), .pointer (some ⟨pb, 0, none⟩)])] ∧ H2 = (lt, CB [.int .i64 ((i : Int) + 1)] 3) :: stkBase pf pb bk g ps l a cap (some ⟨b, o, none⟩) cape s1 (L ++ Hr)) (by decide +kernel) (fun ds e2 H2 hmid => ?_) (fun ds => ?_)
          ·
            obtain ⟨a2, cap2, Hr, lt, hrow2, hnn, hsl, rfl⟩ := hmid
            rw [← hsl.sets]
            refine WS_sub ((SubP.hsub (SubP.pick 1 (by rfl) (SubP.pick 1 (by rfl) (SubP.pick 1 (by rfl) (SubP.pick 1 (by rfl) (SubP.pick 1 (by rfl) (by exact SubP.drop (SubP.refl))))))))) ?_
            refine WS_callS hF (by rfl) (by rfl) (by rfl) Tryz.call69 (ih m (by omega) _ _ s1 a2 (tn + 1) cap2 (D ++ [(i : Int) + 1]) Hr (L ++ Hr) (by omega) hrow2 (by simp [hD]) (List.sublist_append_right _ _) (.inr ⟨hnn, by omega⟩) (fun _ => by rw [Nat.add_sub_cancel, List.getD_eq_getElem?_getD, ← hD]; simp; omega)) ?_
            rintro _ _ ⟨bb, s2, L2, rfl, rfl, hbt, hbf⟩
            refine WS_det hF (by rfl) (y_not (by rfl)) ?_
            refine WS_nil ?_
            refine Then_normal ?_
            refine W_cond (by rfl) (fun c11 => ?_) (fun c11 => ?_)
            ·
              try simp only [Bool.not_eq_true', Bool.not_eq_false', decide_eq_true_eq, decide_eq_false_iff_not, ne_eq, Classical.not_not, Int.not_lt, Int.not_le] at c11
              refine W_seq ?_
              refine W_region_lit (fun ds => ?_)
              refine WS_det hF (by rfl) (y_assign (c := .bool _) (by rfl)) ?_
              refine WS_nil ?_
              refine Then_normal ?_
              refine W_ret ?_
              refine InB_ret ?_
              refine Then_ret ?_
              refine Loop_ret ?_
              refine InB_ret ?_
              refine Then_ret ?_
              refine NoG_ret ?_
              refine Fin_ret [.bool _] (stkBase pf pb bk g ps l a cap _ cape s2 L2) Tryz.results69 ⟨by rfl, trivial⟩ HSub.refl ?_
              obtain ⟨R, fa, fn, fcap, Hf, hR, rfl, hrw, hln, hsb⟩ := hbf c11
              refine ⟨false, _, L2, rfl, rfl, fun h => (by cases h), fun _ => ⟨R, fa, fn, fcap, Hf, ?_, rfl, hrw, hln, hsb⟩⟩
              rw [hinv]
              exact firstSome_hit (by simp only; omega) (by unfold Lg.stkF; rw [if_pos c10]; exact hR)
            ·
              try simp only [Bool.not_eq_true', Bool.not_eq_false', decide_eq_true_eq, decide_eq_false_iff_not, ne_eq, Classical.not_not, Int.not_lt, Int.not_le] at c11
              obtain ⟨hR, rfl⟩ := hbt c11
              have hinv2 : l.stk (m + 1) D = firstSome (l.stkF m D) (i + 1) (l.es.length - (i + 1)) := by
                rw [hinv, firstSome_miss (by omega) (show l.stkF m D i = none by unfold Lg.stkF; rw [if_pos c10]; exact hR), Nat.sub_sub]
              refine W_skip ?_
              refine InB_normal ?_
              refine Then_normal ?_
              refine W_region_lit (fun ds => ?_)
              refine WS_det hF (by rfl) (y_move (c := .int .i64 _) (by rfl)) ?_
              refine WS_det hF (by rfl) (y_add (by rfl) (by rfl) (by unfold I64; omega)) ?_
              refine WS_det hF (by rfl) (y_assign (c := .int .i64 _) (by rfl)) ?_
              refine WS_nil ?_
              exact Loop_next (i + 1, s2) ⟨by omega, by omega, hinv2⟩ (by repeat (first | exact trivial | refine ⟨by rfl, ?_⟩)) (by repeat (first | exact List.Sublist.refl _ | exact List.sublist_append_left _ _ | exact List.nil_sublist _ | apply List.Sublist.cons_cons | apply List.Sublist.cons | refine List.Sublist.trans ?_ (List.sublist_append_right _ _))) (by simp only; omega)
          ·
            refine WA_take 1 (by rfl) (by rfl) (by decide +kernel) (by decide +kernel) (by rfl) (pure_move (by rfl)) ?_
            refine WA_take 3 (by rfl) (by rfl) (by decide +kernel) (by decide +kernel) (by rfl) (pure_move (by rfl)) ?_
            refine WA_take 4 (by rfl) (by rfl) (by decide +kernel) (by decide +kernel) (by rfl) (pure_add (by rfl) (by rfl) (by unfold I64; omega)) ?_
            refine WA_take 7 (by rfl) (by rfl) (by decide +kernel) (by decide +kernel) (by rfl) (pure_move (by rfl)) ?_
            refine WA_take 8 (by rfl) (by rfl) (by decide +kernel) (by decide +kernel) (by rfl) (pure_sub (by rfl) (by rfl) (by unfold I64; omega)) ?_
            refine WA_take 9 (by rfl) (by rfl) (by decide +kernel) (by decide +kernel) (by rfl) (pure_move (by rfl)) ?_
            refine WA_step3 0 2 5 (by decide +kernel) (by rfl) (by rfl) (by rfl) ?_ ?_ ?_
            ·
              refine WS_det hF (by rfl) (y_load1 (by rfl) Tryz.isAgg106 (Mem.own1 4 (by rfl) (by rfl))) ?_
              refine WS_nil ?_
              refine WA_step2 2 5 (by decide +kernel) (by rfl) (by rfl) ?_ ?_
              ·
                refine WS_gen hF (by rfl) (y_callL (by rfl) (by rfl) Tryz.call70 (fun w hw => clone_any ta tn tcap D w (Row.ints hrow hD (hsub.trans (by repeat (first | exact List.Sublist.refl _ | exact List.sublist_append_left _ _ | exact List.nil_sublist _ | apply List.Sublist.cons_cons | apply List.Sublist.cons | refine List.Sublist.trans ?_ (List.sublist_append_right _ _)))) w hw) (by omega) hnil)) ?_
                rintro _ Hc ⟨ca, ccap, rfl, hrowc, hnc⟩
                refine WS_back ?_
                refine WS_nil ?_
                refine WA_step1 5 (by decide +kernel) (by rfl) ?_
                ·
                  refine WS_newS hF (by rfl) (y_buildSliceL bs22_1_0 (by rfl)) (fun b6 => ?_)
                  refine WS_nil ?_
                  refine WA_step1 6 (by decide +kernel) (by rfl) ?_
                  ·
                    refine WS_appendE hF (n' := tn) (H1 := (_ :: _ :: _ :: _ :: _ :: _ :: L)) (by rfl) (by rfl) (by rfl) Tryz.underlying22 infInt (by rfl) (by rfl) hrowc (.inr ⟨_, _, rfl, Mem.own (us := [.int _ _]) 0 (by rfl) (by rfl)⟩) (by rfl) (by rfl) (by omega) (by omega) ?_
                    intro a2 cap2 Hr hrow2
                    have hrow3 : Row 3 1 a2 (tn + 1) cap2 (iv (D ++ [(i : Int) + 1])) Hr := by rw [iv, List.map_append]; exact hrow2
                    have hnn3 := Row.ne_none hrow3 (by omega)
                    refine WS_nil ?_
                    refine WA_done (by decide +kernel) ?_
                    exact ⟨_, _, _, _, hrow3, hnn3, (by repeat (first | exact trivial | refine ⟨by rfl, ?_⟩ | refine ⟨congrArg (Value.int _) (by first | omega | (simp only; omega) | (push_cast; omega)), ?_⟩)), rfl⟩
              ·
                refine WS_newS hF (by rfl) (y_buildSliceL bs22_1_0 (by rfl)) (fun b7 => ?_)
                refine WS_nil ?_
                refine WA_step1 2 (by decide +kernel) (by rfl) ?_
                ·
                  refine WS_gen hF (by rfl) (y_callL (by rfl) (by rfl) Tryz.call70 (fun w hw => clone_any ta tn tcap D w (Row.ints hrow hD (hsub.trans (by repeat (first | exact List.Sublist.refl _ | exact List.sublist_append_left _ _ | exact List.nil_sublist _ | apply List.Sublist.cons_cons | apply List.Sublist.cons | refine List.Sublist.trans ?_ (List.sublist_append_right _ _)))) w hw) (by omega) hnil)) ?_
                  rintro _ Hc ⟨ca, ccap, rfl, hrowc, hnc⟩
                  refine WS_back ?_
                  refine WS_nil ?_
                  refine WA_step1 6 (by decide +kernel) (by rfl) ?_
                  ·
                    refine WS_appendE hF (n' := tn) (H1 := (_ :: _ :: _ :: _ :: _ :: _ :: L)) (by rfl) (by rfl) (by rfl) Tryz.underlying22 infInt (by rfl) (by rfl) hrowc (.inr ⟨_, _, rfl, Mem.own (us := [.int _ _]) 0 (by rfl) (by rfl)⟩) (by rfl) (by rfl) (by omega) (by omega) ?_
                    intro a2 cap2 Hr hrow2
                    have hrow3 : Row 3 1 a2 (tn + 1) cap2 (iv (D ++ [(i : Int) + 1])) Hr := by rw [iv, List.map_append]; exact hrow2
                    have hnn3 := Row.ne_none hrow3 (by omega)
                    refine WS_nil ?_
                    refine WA_done (by decide +kernel) ?_
                    exact ⟨_, _, _, _, hrow3, hnn3, (by repeat (first | exact trivial | refine ⟨by rfl, ?_⟩ | refine ⟨congrArg (Value.int _) (by first | omega | (simp only; omega) | (push_cast; omega)), ?_⟩)), rfl⟩
            ·
              refine WS_gen hF (by rfl) (y_callL (by rfl) (by rfl) Tryz.call70 (fun w hw => clone_any ta tn tcap D w (Row.ints hrow hD (hsub.trans (by repeat (first | exact List.Sublist.refl _ | exact List.sublist_append_left _ _ | exact List.nil_sublist _ | apply List.Sublist.cons_cons | apply List.Sublist.cons | refine List.Sublist.trans ?_ (List.sublist_append_right _ _)))) w hw) (by omega) hnil)) ?_
              rintro _ Hc ⟨ca, ccap, rfl, hrowc, hnc⟩
              refine WS_back ?_
              refine WS_nil ?_
              refine WA_step2 0 5 (by decide +kernel) (by rfl) (by rfl) ?_ ?_
              ·
                refine WS_det hF (by rfl) (y_load1 (by rfl) Tryz.isAgg106 (Mem.own1 4 (by rfl) (by rfl))) ?_
                refine WS_nil ?_
                refine WA_step1 5 (by decide +kernel) (by rfl) ?_
                ·
                  refine WS_newS hF (by rfl) (y_buildSliceL bs22_1_0 (by rfl)) (fun b8 => ?_)
                  refine WS_nil ?_
                  refine WA_step1 6 (by decide +kernel) (by rfl) ?_
                  ·
                    refine WS_appendE hF (n' := tn) (H1 := (_ :: _ :: _ :: _ :: _ :: _ :: L)) (by rfl) (by rfl) (by rfl) Tryz.underlying22 infInt (by rfl) (by rfl) hrowc (.inr ⟨_, _, rfl, Mem.own (us := [.int _ _]) 0 (by rfl) (by rfl)⟩) (by rfl) (by rfl) (by omega) (by omega) ?_
                    intro a2 cap2 Hr hrow2
                    have hrow3 : Row 3 1 a2 (tn + 1) cap2 (iv (D ++ [(i : Int) + 1])) Hr := by rw [iv, List.map_append]; exact hrow2
                    have hnn3 := Row.ne_none hrow3 (by omega)
                    refine WS_nil ?_
                    refine WA_done (by decide +kernel) ?_
                    exact ⟨_, _, _, _, hrow3, hnn3, (by repeat (first | exact trivial | refine ⟨by rfl, ?_⟩ | refine ⟨congrArg (Value.int _) (by first | omega | (simp only; omega) | (push_cast; omega)), ?_⟩)), rfl⟩
              ·
                refine WS_newS hF (by rfl) (y_buildSliceL bs22_1_0 (by rfl)) (fun b9 => ?_)
                refine WS_nil ?_
                refine WA_step2 0 6 (by decide +kernel) (by rfl) (by rfl) ?_ ?_
                ·
                  refine WS_det hF (by rfl) (y_load1 (by rfl) Tryz.isAgg106 (Mem.own1 5 (by rfl) (by rfl))) ?_
                  refine WS_nil ?_
                  refine WA_step1 6 (by decide +kernel) (by rfl) ?_
                  ·
                    refine WS_appendE hF (n' := tn) (H1 := (_ :: _ :: _ :: _ :: _ :: _ :: L)) (by rfl) (by rfl) (by rfl) Tryz.underlying22 infInt (by rfl) (by rfl) hrowc (.inr ⟨_, _, rfl, Mem.own (us := [.int _ _]) 0 (by rfl) (by rfl)⟩) (by rfl) (by rfl) (by omega) (by omega) ?_
                    intro a2 cap2 Hr hrow2
                    have hrow3 : Row 3 1 a2 (tn + 1) cap2 (iv (D ++ [(i : Int) + 1])) Hr := by rw [iv, List.map_append]; exact hrow2
                    have hnn3 := Row.ne_none hrow3 (by omega)
                    refine WS_nil ?_
                    refine WA_done (by decide +kernel) ?_
                    exact ⟨_, _, _, _, hrow3, hnn3, (by repeat (first | exact trivial | refine ⟨by rfl, ?_⟩ | refine ⟨congrArg (Value.int _) (by first | omega | (simp only; omega) | (push_cast; omega)), ?_⟩)), rfl⟩
                ·
                  refine WS_appendE hF (n' := tn) (H1 := (_ :: _ :: _ :: _ :: _ :: _ :: L)) (by rfl) (by rfl) (by rfl) Tryz.underlying22 infInt (by rfl) (by rfl) hrowc (.inr ⟨_, _, rfl, Mem.own (us := [.int _ _]) 0 (by rfl) (by rfl)⟩) (by rfl) (by rfl) (by omega) (by omega) ?_
                  intro a2 cap2 Hr hrow2
                  have hrow3 : Row 3 1 a2 (tn + 1) cap2 (iv (D ++ [(i : Int) + 1])) Hr := by rw [iv, List.map_append]; exact hrow2
                  have hnn3 := Row.ne_none hrow3 (by omega)
                  refine WS_nil ?_
                  refine WA_step1 0 (by decide +kernel) (by rfl) ?_
                  ·
                    refine WS_det hF (by rfl) (y_load1 (by rfl) Tryz.isAgg106 (Mem.own1 5 (by rfl) (by rfl))) ?_
                    refine WS_nil ?_
                    refine WA_done (by decide +kernel) ?_
                    exact ⟨_, _, _, _, hrow3, hnn3, (by repeat (first | exact trivial | refine ⟨by rfl, ?_⟩ | refine ⟨congrArg (Value.int _) (by first | omega | (simp only; omega) | (push_cast; omega)), ?_⟩)), rfl⟩
            ·
              refine WS_newS hF (by rfl) (y_buildSliceL bs22_1_0 (by rfl)) (fun b10 => ?_)
              refine WS_nil ?_
              refine WA_step2 0 2 (by decide +kernel) (by rfl) (by rfl) ?_ ?_
              ·
                refine WS_det hF (by rfl) (y_load1 (by rfl) Tryz.isAgg106 (Mem.own1 5 (by rfl) (by rfl))) ?_
                refine WS_nil ?_
                refine WA_step1 2 (by decide +kernel) (by rfl) ?_
                ·
                  refine WS_gen hF (by rfl) (y_callL (by rfl) (by rfl) Tryz.call70 (fun w hw => clone_any ta tn tcap D w (Row.ints hrow hD (hsub.trans (by repeat (first | exact List.Sublist.refl _ | exact List.sublist_append_left _ _ | exact List.nil_sublist _ | apply List.Sublist.cons_cons | apply List.Sublist.cons | refine List.Sublist.trans ?_ (List.sublist_append_right _ _)))) w hw) (by omega) hnil)) ?_
                  rintro _ Hc ⟨ca, ccap, rfl, hrowc, hnc⟩
                  refine WS_back ?_
                  refine WS_nil ?_
                  refine WA_step1 6 (by decide +kernel) (by rfl) ?_
                  ·
                    refine WS_appendE hF (n' := tn) (H1 := (_ :: _ :: _ :: _ :: _ :: _ :: L)) (by rfl) (by rfl) (by rfl) Tryz.underlying22 infInt (by rfl) (by rfl) hrowc (.inr ⟨_, _, rfl, Mem.own (us := [.int _ _]) 0 (by rfl) (by rfl)⟩) (by rfl) (by rfl) (by omega) (by omega) ?_
                    intro a2 cap2 Hr hrow2
                    have hrow3 : Row 3 1 a2 (tn + 1) cap2 (iv (D ++ [(i : Int) + 1])) Hr := by rw [iv, List.map_append]; exact hrow2
                    have hnn3 := Row.ne_none hrow3 (by omega)
                    refine WS_nil ?_
                    refine WA_done (by decide +kernel) ?_
                    exact ⟨_, _, _, _, hrow3, hnn3, (by repeat (first | exact trivial | refine ⟨by rfl, ?_⟩ | refine ⟨congrArg (Value.int _) (by first | omega | (simp only; omega) | (push_cast; omega)), ?_⟩)), rfl⟩
              ·
                refine WS_gen hF (by rfl) (y_callL (by rfl) (by rfl) Tryz.call70 (fun w hw => clone_any ta tn tcap D w (Row.ints hrow hD (hsub.trans (by repeat (first | exact List.Sublist.refl _ | exact List.sublist_append_left _ _ | exact List.nil_sublist _ | apply List.Sublist.cons_cons | apply List.Sublist.cons | refine List.Sublist.trans ?_ (List.sublist_append_right _ _)))) w hw) (by omega) hnil)) ?_
                rintro _ Hc ⟨ca, ccap, rfl, hrowc, hnc⟩
                refine WS_back ?_
                refine WS_nil ?_
                refine WA_step2 0 6 (by decide +kernel) (by rfl) (by rfl) ?_ ?_
                ·
                  refine WS_det hF (by rfl) (y_load1 (by rfl) Tryz.isAgg106 (Mem.own1 5 (by rfl) (by rfl))) ?_
                  refine WS_nil ?_
                  refine WA_step1 6 (by decide +kernel) (by rfl) ?_
                  ·
                    refine WS_appendE hF (n' := tn) (H1 := (_ :: _ :: _ :: _ :: _ :: _ :: L)) (by rfl) (by rfl) (by rfl) Tryz.underlying22 infInt (by rfl) (by rfl) hrowc (.inr ⟨_, _, rfl, Mem.own (us := [.int _ _]) 0 (by rfl) (by rfl)⟩) (by rfl) (by rfl) (by omega) (by omega) ?_
                    intro a2 cap2 Hr hrow2
                    have hrow3 : Row 3 1 a2 (tn + 1) cap2 (iv (D ++ [(i : Int) + 1])) Hr := by rw [iv, List.map_append]; exact hrow2
                    have hnn3 := Row.ne_none hrow3 (by omega)
                    refine WS_nil ?_
                    refine WA_done (by decide +kernel) ?_
                    exact ⟨_, _, _, _, hrow3, hnn3, (by repeat (first | exact trivial | refine ⟨by rfl, ?_⟩ | refine ⟨congrArg (Value.int _) (by first | omega | (simp only; omega) | (push_cast; omega)), ?_⟩)), rfl⟩
                ·
                  refine WS_appendE hF (n' := tn) (H1 := (_ :: _ :: _ :: _ :: _ :: _ :: L)) (by rfl) (by rfl) (by rfl) Tryz.underlying22 infInt (by rfl) (by rfl) hrowc (.inr ⟨_, _, rfl, Mem.own (us := [.int _ _]) 0 (by rfl) (by rfl)⟩) (by rfl) (by rfl) (by omega) (by omega) ?_
                  intro a2 cap2 Hr hrow2
                  have hrow3 : Row 3 1 a2 (tn + 1) cap2 (iv (D ++ [(i : Int) + 1])) Hr := by rw [iv, List.map_append]; exact hrow2
                  have hnn3 := Row.ne_none hrow3 (by omega)
                  refine WS_nil ?_
                  refine WA_step1 0 (by decide +kernel) (by rfl) ?_
                  ·
                    refine WS_det hF (by rfl) (y_load1 (by rfl) Tryz.isAgg106 (Mem.own1 5 (by rfl) (by rfl))) ?_
                    refine WS_nil ?_
                    refine WA_done (by decide +kernel) ?_
                    exact ⟨_, _, _, _, hrow3, hnn3, (by repeat (first | exact trivial | refine ⟨by rfl, ?_⟩ | refine ⟨congrArg (Value.int _) (by first | omega | (simp only; omega) | (push_cast; omega)), ?_⟩)), rfl⟩
      ·
        try simp only [Bool.not_eq_true', Bool.not_eq_false', decide_eq_true_eq, decide_eq_false_iff_not, ne_eq, Classical.not_not, Int.not_lt, Int.not_le] at c8
        refine W_exit ?_
        refine Then_exit ?_
        refine Loop_exit ?_
        refine InB_same ?_
        refine Then_normal ?_
        refine W_seq ?_
        refine W_region_lit (fun ds => ?_)
        refine WS_det hF (by rfl) (y_assign (c := .bool _) (by rfl)) ?_
        refine WS_nil ?_
        refine Then_normal ?_
        refine W_ret ?_
        refine NoG_ret ?_
        refine Fin_ret [.bool _] (stkBase pf pb bk g ps l a cap ae cape s1 L) Tryz.results69 ⟨by rfl, trivial⟩ HSub.refl ?_
        simp only at hi1 hinv
        obtain rfl : i = l.es.length := by omega
        exact ⟨true, s1, L, rfl, rfl, fun _ => ⟨by rw [hinv, Nat.sub_self]; rfl, rfl⟩, fun h => (by cases h)⟩
end Go.Proofs.YthkimgfgpphgnaaGreat.T

/- Dips that must be false; whether a log is valid: the walks. -/
namespace Go.Proofs.YthkimgfgpphgnaaGreat.T
open Go.RowKit Go.Proofs Go.Eng
set_option maxRecDepth 100000
set_option linter.unusedVariables false
set_option linter.unusedSimpArgs false



def Lg.wr (l : Lg) : Option (List Int) := firstSome (fun n => l.stk n []) 0 (l.es.length + 1)
def WrongV (l : Lg) (v : Value) (Hn : List Blk) : Prop :=
  (l.err ≠ 0 → v = .tuple #[.slice none 0 0, .int .i64 l.err] ∧ Hn = []) ∧
  (l.err = 0 → (∀ R, l.wr = some R → ∃ fa fn fcap, v = .tuple #[.slice fa fn fcap, .int .i64 0] ∧ Row 3 1 fa fn fcap (iv R) Hn ∧ R.length = fn) ∧ (l.wr = none → v = .tuple #[.slice none 0 0, .int .i64 6] ∧ Hn = []))
theorem wrong_any (l : Lg) (a : Option Addr) (cap : Nat) (ae : Option Addr) (cape : Nat) (w : World) (hn : l.tk.n ≤ 1000000) (hx : Ints w a l.tk.n cap l.tk.pints) (he : Ens w ae l.es.length cape l.es) : Ct Tryz.prog 39 #[.agg #[.slice a l.tk.n cap, .int .i64 l.tk.leak, .int .i64 l.tk.foot, .int .i64 l.start.lo, .int .i64 l.start.hi, .slice ae l.es.length cape]] w (WrongV l) := by
  have hF := wide_wide
  refine Ct_start (args := [_]) Tryz.func39 (by rfl) Tryz.ntmps39 (by rfl) ?_
  refine W_seq ?_
  refine W_region_lit (fun ds => ?_)
  refine WS_new hF (by rfl) (y_box (by rfl)) (fun b1 => ?_)
  refine WS_det hF (by rfl) (y_assign (c := .slice _ _ _) (by rfl)) ?_
  refine WS_det hF (by rfl) (y_assign (c := .int .i64 _) (by rfl)) ?_
  refine WS_nil ?_
  refine Then_normal ?_
  refine W_seq ?_
  refine W_region_lit (fun ds => ?_)
  refine WS_det hF (by rfl) (y_loadN (by rfl) Tryz.isAgg29 Tryz.sizeOf29 (Mem.own (us := [.slice _ _ _, .int .i64 _, .int .i64 _, .int .i64 _, .int .i64 _, .slice _ _ _]) 0 (by rfl) (by rfl)) (by rfl)) ?_
  refine WS_gen hF (by rfl) (y_callL (by rfl) (by rfl) Tryz.call68 (fun w hw => opened_any l a cap ae cape w hn (hx.st w hw) (he.st w hw))) ?_
  rintro _ Hg ⟨p, rfl, hg1, hg2⟩
  refine WS_det hF (by rfl) (y_move (c := .tuple _) (by rfl)) ?_
  refine WS_det hF (by rfl) (y_extract (c := .pointer _) (by rfl) (by rfl)) ?_
  refine WS_det hF (by rfl) (y_extract (c := .int .i64 _) (by rfl) (by rfl)) ?_
  refine WS_new hF (by rfl) (y_alloc Tryz.zeroValue76 (by rfl)) (fun pb => ?_)
  refine WS_store hF (i := 0) (by rfl) (by rfl) Tryz.sizeOf76 (by rfl) (by rfl) (by rfl) (by first | decide | exact Nat.le_of_ble_eq_true rfl | simp) ?_
  refine WS_det hF (by rfl) (y_assign (c := .int .i64 _) (by rfl)) ?_
  refine WS_nil ?_
  refine Then_normal ?_
  refine W_seq ?_
  refine W_seq ?_
  refine W_region_lit (fun ds => ?_)
  refine WS_det hF (by rfl) (y_move (c := .int .i64 _) (by rfl)) ?_
  refine WS_det hF (by rfl) (y_neq (by rfl) (by rfl)) ?_
  refine WS_nil ?_
  refine Then_normal ?_
  refine W_cond (by rfl) (fun c2 => ?_) (fun c2 => ?_)
  ·
    try simp only [Bool.not_eq_true', Bool.not_eq_false', decide_eq_true_eq, decide_eq_false_iff_not, ne_eq, Classical.not_not, Int.not_lt, Int.not_le] at c2
    obtain rfl := hg2 c2
    refine W_seq ?_
    refine W_region_lit (fun ds => ?_)
    refine WS_det hF (by rfl) (y_move (c := .int .i64 _) (by rfl)) ?_
    refine WS_det hF (by rfl) (y_assign (c := .slice _ _ _) (by rfl)) ?_
    refine WS_det hF (by rfl) (y_assign (c := .int .i64 _) (by rfl)) ?_
    refine WS_nil ?_
    refine Then_normal ?_
    refine W_ret ?_
    refine Then_ret ?_
    refine Fin_ret [.slice _ _ _, .int .i64 _] [] Tryz.results39 ⟨by rfl, by rfl, trivial⟩ HSub.nil ?_
    exact ⟨fun _ => ⟨rfl, rfl⟩, fun h => absurd h c2⟩
  ·
    try simp only [Bool.not_eq_true', Bool.not_eq_false', decide_eq_true_eq, decide_eq_false_iff_not, ne_eq, Classical.not_not, Int.not_lt, Int.not_le] at c2
    obtain ⟨g, bk, rfl, rfl⟩ := hg1 c2
    have hok := l.ok_of c2
    have hn12 := hok.n12
    refine W_skip ?_
    refine Then_normal ?_
    refine W_seq ?_
    refine W_region_lit (fun ds => ?_)
    refine WS_new hF (by rfl) (y_alloc Tryz.zeroValue106 (by rfl)) (fun ps => ?_)
    refine WS_nil ?_
    refine Then_normal ?_
    refine W_seq ?_
    refine W_region_lit (fun ds => ?_)
    refine WS_det hF (by rfl) (y_makeFuncL (by rfl) (by rfl)) ?_
    refine WS_store hF (i := 0) (by rfl) (by rfl) Tryz.sizeOf106 (by rfl) (by rfl) (by rfl) (by first | decide | exact Nat.le_of_ble_eq_true rfl | simp) ?_
    refine WS_nil ?_
    refine Then_normal ?_
    refine W_seq ?_
    refine W_seq ?_
    refine W_region_lit (fun ds => ?_)
    refine WS_det hF (by rfl) (y_load1 (by rfl) Tryz.isAgg76 (Mem.own1 1 (by rfl) (by rfl))) ?_
    refine WS_det hF (by rfl) (by first | exact y_nilCheck (by rfl) | exact y_nilCheckF (by rfl)) ?_
    refine WS_det hF (by rfl) (y_fieldAddr (by rfl) fa91_1) ?_
    refine WS_det hF (by rfl) (y_fieldAddr (by rfl) fa29_2) ?_
    refine WS_det hF (by rfl) (y_load1 (by rfl) Tryz.isAgg27 (Mem.own1 2 (by rfl) (by rfl))) ?_
    refine WS_det hF (by rfl) (y_len (by rfl) Tryz.runUnderlying27) ?_
    refine WS_det hF (by rfl) (y_add (by rfl) (by rfl) (by unfold I64; omega)) ?_
    refine WS_det hF (by rfl) (y_move (c := .int .i64 _) (by rfl)) ?_
    refine WS_nil ?_
    refine Then_normal ?_
    refine W_block ?_
    refine W_loop (γ := Nat) (fun k => k ≤ l.es.length + 1 ∧ l.wr = firstSome (fun n => l.stk n []) k (l.es.length + 1 - k)) (fun k => [(4, .pointer (some ⟨pb, 0, none⟩)), (6, .pointer (some ⟨ps, 0, none⟩)), (24, .int .i64 ((l.es.length : Int) + 1)), (25, .int .i64 (k : Int))]) (fun k => [(ps, CB [.func (.func 69) #[] #[.pointer (some ⟨pb, 0, none⟩), .pointer (some ⟨ps, 0, none⟩)]] 106), (pb, CB [.pointer (some ⟨bk, 0, none⟩)] 76), (bk, CB (bookCells g l a cap ae cape) 91), (g, CB (gaugeCells l.tk a cap) 95)]) (fun k => l.es.length + 1 - k) (0) ⟨Nat.zero_le _, rfl⟩ (by repeat (first | exact trivial | refine ⟨by rfl, ?_⟩)) ((by repeat (first | exact List.Sublist.refl _ | exact List.nil_sublist _ | apply List.Sublist.cons_cons | apply List.Sublist.cons))) ?_
    rintro k e ⟨hk, hinv⟩
    refine W_seq ?_
    refine W_region_lit (fun ds => ?_)
    refine WS_det hF (by rfl) (y_lss (by rfl) (by rfl)) ?_
    refine WS_nil ?_
    refine Then_normal ?_
    refine W_seq ?_
    refine W_cond (by rfl) (fun c7 => ?_) (fun c7 => ?_)
    ·
      try simp only [Bool.not_eq_true', Bool.not_eq_false', decide_eq_true_eq, decide_eq_false_iff_not, ne_eq, Classical.not_not, Int.not_lt, Int.not_le] at c7
      refine W_skip ?_
      refine Then_normal ?_
      refine W_seq ?_
      refine W_block ?_
      refine W_seq ?_
      refine W_region_lit (fun ds => ?_)
      refine WS_det hF (by rfl) (y_move (c := .int .i64 _) (by rfl)) ?_
      refine WS_det hF (by rfl) (y_assign (c := .int .i64 _) (by rfl)) ?_
      refine WS_nil ?_
      refine Then_normal ?_
      refine W_seq ?_
      refine W_region_lit (fun ds => ?_)
      refine WS_new hF (by rfl) (y_alloc Tryz.zeroValue22 (by rfl)) (fun pf => ?_)
      refine WS_nil ?_
      refine Then_normal ?_
      refine W_seq ?_
      refine W_region_lit (fun ds => ?_)
      refine WS_det hF (by rfl) (y_load1 (by rfl) Tryz.isAgg106 (Mem.own1 1 (by rfl) (by rfl))) ?_
      refine WS_det hF (by rfl) (y_move (c := .int .i64 _) (by rfl)) ?_
      refine WS_det hF (by rfl) (y_makeFuncL (by rfl) (by rfl)) ?_
      refine WS_sub ((SubP.hsub (SubP.pick 0 (by rfl) (SubP.pick 1 (by rfl) (SubP.pick 1 (by rfl) (SubP.pick 1 (by rfl) (SubP.pick 0 (by rfl) (SubP.nil)))))))) ?_
      refine WS_callS hF (by rfl) (by rfl) (by rfl) Tryz.call69 (strike_cs _ pf pb bk g ps l a cap ae cape hok hx he k _ _ _ none 0 0 [] [] [] (by omega) (Row.nil 3 1) rfl (List.Sublist.refl _) (.inl ⟨rfl, rfl⟩) (fun h => by omega)) ?_
      rintro _ _ ⟨bb, s2, L2, rfl, rfl, hbt, hbf⟩
      refine WS_det hF (by rfl) (y_not (by rfl)) ?_
      refine WS_nil ?_
      refine Then_normal ?_
      refine W_cond (by rfl) (fun c10 => ?_) (fun c10 => ?_)
      ·
        try simp only [Bool.not_eq_true', Bool.not_eq_false', decide_eq_true_eq, decide_eq_false_iff_not, ne_eq, Classical.not_not, Int.not_lt, Int.not_le] at c10
        obtain ⟨R, fa, fn, fcap, Hf, hR, rfl, hrw, hln, hsb⟩ := hbf c10
        refine W_seq ?_
        refine W_region_lit (fun ds => ?_)
        refine WS_det hF (by rfl) (y_load1 (by rfl) Tryz.isAgg22 (Mem.own1 0 (by rfl) (by rfl))) ?_
        refine WS_det hF (by rfl) (y_assign (c := .slice _ _ _) (by rfl)) ?_
        refine WS_det hF (by rfl) (y_assign (c := .int .i64 _) (by rfl)) ?_
        refine WS_nil ?_
        refine Then_normal ?_
        refine W_ret ?_
        refine InB_ret ?_
        refine Then_ret ?_
        refine Loop_ret ?_
        refine InB_ret ?_
        refine Then_ret ?_
        refine Fin_ret [.slice _ _ _, .int .i64 _] Hf Tryz.results39 ⟨by rfl, by rfl, trivial⟩ (HSub.sub (hsb.trans (by repeat (first | exact List.Sublist.refl _ | exact List.sublist_append_left _ _ | exact List.nil_sublist _ | apply List.Sublist.cons_cons | apply List.Sublist.cons | refine List.Sublist.trans ?_ (List.sublist_append_right _ _))))) ?_
        refine ⟨fun h => absurd c2 h, fun _ => ⟨fun R2 h2 => ?_, fun h2 => ?_⟩⟩
        · rw [hinv, firstSome_hit (by omega) hR] at h2
          cases h2
          exact ⟨fa, fn, fcap, rfl, hrw, hln⟩
        · rw [hinv, firstSome_hit (by omega) hR] at h2; cases h2
      ·
        try simp only [Bool.not_eq_true', Bool.not_eq_false', decide_eq_true_eq, decide_eq_false_iff_not, ne_eq, Classical.not_not, Int.not_lt, Int.not_le] at c10
        obtain ⟨hR, rfl⟩ := hbt c10
        have hinv2 : l.wr = firstSome (fun n => l.stk n []) (k + 1) (l.es.length + 1 - (k + 1)) := by rw [hinv, firstSome_miss (by omega) hR, Nat.sub_sub]
        refine W_skip ?_
        refine InB_normal ?_
        refine Then_normal ?_
        refine W_region_lit (fun ds => ?_)
        refine WS_sub ((SubP.hsub (SubP.pick 4 (by rfl) (SubP.pick 1 (by rfl) (SubP.pick 1 (by rfl) (SubP.pick 1 (by rfl) (SubP.nil))))))) ?_
        refine WS_det hF (by rfl) (y_add (by rfl) (by rfl) (by unfold I64; omega)) ?_
        refine WS_det hF (by rfl) (y_move (c := .int .i64 _) (by rfl)) ?_
        refine WS_nil ?_
        exact Loop_next (k + 1) ⟨by omega, hinv2⟩ (by repeat (first | exact trivial | refine ⟨by rfl, ?_⟩)) (by repeat (first | exact List.Sublist.refl _ | exact List.nil_sublist _ | apply List.Sublist.cons_cons | apply List.Sublist.cons)) (by omega)
    ·
      try simp only [Bool.not_eq_true', Bool.not_eq_false', decide_eq_true_eq, decide_eq_false_iff_not, ne_eq, Classical.not_not, Int.not_lt, Int.not_le] at c7
      refine W_exit ?_
      refine Then_exit ?_
      refine Loop_exit ?_
      refine InB_same ?_
      refine Then_normal ?_
      refine W_seq ?_
      refine W_region_lit (fun ds => ?_)
      refine WS_det hF (by rfl) (y_assign (c := .slice _ _ _) (by rfl)) ?_
      refine WS_det hF (by rfl) (y_assign (c := .int .i64 _) (by rfl)) ?_
      refine WS_nil ?_
      refine Then_normal ?_
      refine W_ret ?_
      refine Fin_ret [.slice _ _ _, .int .i64 _] [] Tryz.results39 ⟨by rfl, by rfl, trivial⟩ HSub.nil ?_
      refine ⟨fun h => absurd c2 h, fun _ => ⟨fun R2 h2 => ?_, fun h2 => ⟨rfl, rfl⟩⟩⟩
      rw [hinv, show l.es.length + 1 - k = 0 by omega] at h2
      cases h2
theorem valid_any (l : Lg) (a : Option Addr) (cap : Nat) (ae : Option Addr) (cape : Nat) (w : World) (hn : l.tk.n ≤ 1000000) (hx : Ints w a l.tk.n cap l.tk.pints) (he : Ens w ae l.es.length cape l.es) : Ct Tryz.prog 50 #[.agg #[.slice a l.tk.n cap, .int .i64 l.tk.leak, .int .i64 l.tk.foot, .int .i64 l.start.lo, .int .i64 l.start.hi, .slice ae l.es.length cape]] w fun v _ => v = .int .i64 l.err := by
  have hF := wide_wide
  refine Ct_start (args := [_]) Tryz.func50 (by rfl) Tryz.ntmps50 (by rfl) ?_
  refine W_seq ?_
  refine W_region_lit (fun ds => ?_)
  refine WS_new hF (by rfl) (y_box (by rfl)) (fun b1 => ?_)
  refine WS_det hF (by rfl) (y_assign (c := .int .i64 _) (by rfl)) ?_
  refine WS_nil ?_
  refine Then_normal ?_
  refine W_seq ?_
  refine W_region_lit (fun ds => ?_)
  refine WS_det hF (by rfl) (y_loadN (by rfl) Tryz.isAgg29 Tryz.sizeOf29 (Mem.own (us := [.slice _ _ _, .int .i64 _, .int .i64 _, .int .i64 _, .int .i64 _, .slice _ _ _]) 0 (by rfl) (by rfl)) (by rfl)) ?_
  refine WS_gen hF (by rfl) (y_callL (by rfl) (by rfl) Tryz.call68 (fun w hw => opened_any l a cap ae cape w hn (hx.st w hw) (he.st w hw))) ?_
  rintro _ Hg ⟨p, rfl, hg1, hg2⟩
  refine WS_det hF (by rfl) (y_move (c := .tuple _) (by rfl)) ?_
  refine WS_det hF (by rfl) (y_extract (c := .pointer _) (by rfl) (by rfl)) ?_
  refine WS_det hF (by rfl) (y_extract (c := .int .i64 _) (by rfl) (by rfl)) ?_
  refine WS_det hF (by rfl) (y_assign (c := .pointer _) (by rfl)) ?_
  refine WS_det hF (by rfl) (y_assign (c := .int .i64 _) (by rfl)) ?_
  refine WS_nil ?_
  refine Then_normal ?_
  refine W_seq ?_
  refine W_region_lit (fun ds => ?_)
  refine WS_det hF (by rfl) (y_move (c := .int .i64 _) (by rfl)) ?_
  refine WS_det hF (by rfl) (y_assign (c := .int .i64 _) (by rfl)) ?_
  refine WS_nil ?_
  refine Then_normal ?_
  refine W_ret ?_
  refine Fin_ret [.int .i64 _] [] Tryz.results50 ⟨by rfl, trivial⟩ HSub.nil ?_
  rfl
end Go.Proofs.YthkimgfgpphgnaaGreat.T

/- The law of what a tank holds, walked. -/
namespace Go.Proofs.YthkimgfgpphgnaaGreat.T
open Go.RowKit Go.Proofs Go.Eng
set_option maxRecDepth 100000
set_option maxHeartbeats 800000
set_option linter.unusedVariables false
set_option linter.unusedSimpArgs false



def Lg.trs (l : Lg) : List Int := if l.aerr = 0 then (List.range (l.es.length + 1)).map l.tr else []
theorem truth_ints {l : Lg} {v : Value} {Hn : List Blk} (h : TruthV l v Hn) : ∃ a cap, v = .tuple #[.slice a l.trs.length cap, .int .i64 l.aerr] ∧ ∀ (C : Ctx) (H : List Blk) (w : World), Hn.Sublist H → St C H w → Ints w a l.trs.length cap l.trs := by
  by_cases h0 : l.aerr = 0
  · obtain ⟨tb, cap, junk, rfl, hc, rfl⟩ := h.2 h0
    have hl : l.trs = (List.range (l.es.length + 1)).map l.tr := if_pos h0
    have hn : l.trs.length = l.es.length + 1 := by rw [hl, List.length_map, List.length_range]
    rw [hn, h0]
    refine ⟨_, _, rfl, fun C H w hs hw => ⟨hn, hc, fun k hk => ⟨tb, 0, rfl, ?_⟩⟩⟩
    have hm : Mem C H tb (0 + k * 1) [.int .i64 (l.trs.getD k 0)] := fun w hw => by
      have e := Mem.iRowJ (C := C) (H := [(tb, CB (iRow l.tr (l.es.length + 1) ++ junk) 3)]) (f := l.tr) 0 (by rfl) hk (o := 0 + k * 1) (by omega)
      have g : l.trs.getD k 0 = l.tr k := by rw [hl]; simp [List.getD, hk]
      rw [g]
      exact e w (hw.sub hs)
    exact hm w hw
  · obtain ⟨rfl, rfl⟩ := h.1 h0
    have hl : l.trs = [] := if_neg h0
    rw [hl]
    exact ⟨_, _, rfl, fun C H w hs hw => ⟨rfl, Nat.le_refl _, fun k hk => absurd hk (by simp)⟩⟩
end Go.Proofs.YthkimgfgpphgnaaGreat.T

/- Changes: copies of logs: the walks of Clone, copied and Add. -/
namespace Go.Eng
open Go.RowKit
section
variable {C : Ctx} {F : Fence} {n : Nat} {ds : List Deferred} {all : Array Oper} {Q : Exit → Env → List Blk → Prop} {rest : List Oper} {e : Env} {H : List Blk} {d : Option Tmp} {ty : TypeId} {pos : String} {af : Array Edge} {g : Option (Nat × Bool)}
theorem WS_appendN (hF : Wide F) {x y : Operand} {T E : TypeId} {a a' : Option Addr} {n' m cap cap' sz by_ : Nat} {us news : List Value} {z : Value} {H1 Hn : List Blk} (hc : chk n all e ⟨d, .call ⟨.builtin .append, #[x, y], #[T, T]⟩, ty, pos, af, g⟩ = true)
    (hx : ev e x = .slice a n' cap) (hy : ev e y = .slice a' m cap') (hT : C.P.underlying T = some (.slice E)) (hinf : (C.P.info? E).map (fun i => (i.zero, i.size, i.bytes)) = some (some z, sz, by_))
    (hzs : z.cells.size = sz) (hH : H = H1 ++ Hn) (hrow : NewRow E sz n' us (.slice a n' cap) Hn) (hul : us.length = n' * sz) (hs : Src C H a' m news) (hl : news.length = m * sz) (hone : news.all Value.oneCell' = true) (hb : (n' + m) * by_ ≤ 140737488355328) (hm : n' + m ≤ 140737488355328) (h0 : 0 < m)
    (hk : ∀ a' cap' Hn', NewRow E sz (n' + m) (us ++ news) (.slice a' (n' + m) cap') Hn' → WS C F n ds all Q rest (updo e d (.slice a' (n' + m) cap')) (H1 ++ Hn')) :
    WS C F n ds all Q (⟨d, .call ⟨.builtin .append, #[x, y], #[T, T]⟩, ty, pos, af, g⟩ :: rest) e H := by
  by_cases hn : n' = 0
  · subst hn
    have hu : us = [] := by simpa using hul
    subst hu
    obtain ⟨a1, cap1, he, hle, ⟨h, _⟩ | ⟨_, rfl, rfl⟩⟩ := hrow
    · omega
    cases he
    rw [Nat.zero_add] at hb hm hk
    refine WS_gen hF hc (y_append0 hx hy hT hinf hzs hs hl hb hm) fun v Hv hv => ?_
    have hv2 := hv
    obtain ⟨a2, cap2, rfl, _⟩ := hv
    subst hH
    intro w hw act ha
    exact hk a2 cap2 Hv (by rw [List.nil_append]; exact hv2) w ⟨hw.1, hw.2.perm (by rw [List.append_nil]; exact List.perm_append_comm), hw.3⟩ act ha
  · obtain ⟨a1, cap1, he, hr⟩ := hrow.row hul (by omega)
    cases he
    refine WS_appendE hF hc hx hy hT hinf hzs hH hr hs hl hone hb hm fun a2 cap2 Hn' hr2 => hk a2 cap2 Hn' ?_
    obtain ⟨_, h, _⟩ | ⟨b, junk, rfl, rfl, h1, h2, h3⟩ := hr2
    · omega
    · exact ⟨_, _, rfl, h3, .inl ⟨by omega, b, junk, rfl, rfl, h2⟩⟩
end
end Go.Eng
namespace Go.Proofs.YthkimgfgpphgnaaGreat.T
open Go.RowKit Go.Proofs Go.Eng
set_option maxRecDepth 100000
set_option linter.unusedVariables false
set_option linter.unusedSimpArgs false



theorem Row.newRow {T : TypeId} {sz n cap : Nat} {us : List Value} {a : Option Addr} {Hn : List Blk} (h : Row T sz a n cap us Hn) (hn : 0 < n) : NewRow T sz n us (.slice a n cap) Hn := by
  obtain ⟨_, h, _⟩ | ⟨b, junk, rfl, rfl, h1, h2, h3⟩ := h
  · omega
  · exact ⟨_, _, rfl, h3, .inl ⟨hn, b, junk, rfl, rfl, h2⟩⟩
theorem hsub_front {A B : List Blk} {x y : Blk} : HSub (A ++ (B ++ [x, y])) (x :: y :: (A ++ B)) := fun _ _ h => h.perm (by rw [← List.append_assoc]; exact List.perm_append_comm (l₁ := [x, y]))
theorem cloneE_any (l : Lg) (ae : Option Addr) (cape : Nat) (w : World) (hnes : l.es.length ≤ 1000000) (he : Ens w ae l.es.length cape l.es) :
    Ct Tryz.prog 81 #[.slice ae l.es.length cape] w (NewRow 38 4 l.es.length (rowOf En.cells l.e l.es.length)) := by
  have hlen : (rowOf En.cells l.e l.es.length).length = l.es.length * 4 := rowOf_len en_len _ _
  have hF := wide_wide
  refine Ct_start (args := [_]) Tryz.func81 (by rfl) Tryz.ntmps81 (by rfl) ?_
  refine W_seq ?_
  refine W_region_lit (fun ds => ?_)
  refine WS_det hF (by rfl) (y_assign (c := .slice _ _ _) (by rfl)) ?_
  refine WS_nil ?_
  refine Then_normal ?_
  refine W_seq ?_
  refine W_seq ?_
  refine W_region_lit (fun ds => ?_)
  refine WS_det hF (by rfl) (y_move (c := .slice _ _ _) (by rfl)) ?_
  refine WS_det hF (by rfl) (y_eqlNil (by rfl) (by rfl) Tryz.runUnderlying27) ?_
  refine WS_nil ?_
  refine Then_normal ?_
  refine W_cond (by rfl) (fun c1 => ?_) (fun c1 => ?_)
  ·
    try simp only [Bool.not_eq_true', Bool.not_eq_false', decide_eq_true_eq, decide_eq_false_iff_not, ne_eq, Classical.not_not, Int.not_lt, Int.not_le] at c1
    refine W_seq ?_
    refine W_region_lit (fun ds => ?_)
    refine WS_det hF (by rfl) (y_assign (c := .slice _ _ _) (by rfl)) ?_
    refine WS_nil ?_
    refine Then_normal ?_
    refine W_ret ?_
    refine Then_ret ?_
    refine Fin_ret [.slice _ _ _] [] Tryz.results81 ⟨by rfl, trivial⟩ HSub.nil ?_
    have h0 : l.es.length = 0 := by
      rcases Nat.eq_zero_or_pos l.es.length with h | h
      · exact h
      · obtain ⟨b, o, rfl, _⟩ := he.cell 0 h
        cases c1
    rw [h0]
    exact ⟨none, 0, rfl, Nat.le_refl _, .inr ⟨rfl, rfl, rfl⟩⟩
  ·
    try simp only [Bool.not_eq_true', Bool.not_eq_false', decide_eq_true_eq, decide_eq_false_iff_not, ne_eq, Classical.not_not, Int.not_lt, Int.not_le] at c1
    refine W_skip ?_
    refine Then_normal ?_
    refine W_seq ?_
    refine W_region_lit (fun ds => ?_)
    refine WS_newS hF (by rfl) (y_buildSliceL bs27_0 (by rfl)) (fun b1 => ?_)
    refine WS_det hF (by rfl) (y_move (c := .slice _ _ _) (by rfl)) ?_
    refine WS_gen hF (by rfl) (y_append0 (by rfl) (by rfl) Tryz.underlying27 infEntry (by rfl) (Rws.src en_len he) hlen (by omega) (by omega)) ?_
    rintro _ Hc ⟨a', cap', rfl, hle, hd⟩
    refine WS_det hF (by rfl) (y_assign (c := .slice _ _ _) (by rfl)) ?_
    refine WS_nil ?_
    refine Then_normal ?_
    refine W_ret ?_
    refine Fin_ret [.slice _ _ _] Hc Tryz.results81 ⟨by rfl, trivial⟩ (HSub.sub (by repeat (first | exact List.Sublist.refl _ | exact List.sublist_append_left _ _ | exact List.nil_sublist _ | apply List.Sublist.cons_cons | apply List.Sublist.cons | refine List.Sublist.trans ?_ (List.sublist_append_right _ _)))) ?_
    exact ⟨a', cap', rfl, hle, hd⟩
theorem copied_any (l : Lg) (a : Option Addr) (cap : Nat) (ae : Option Addr) (cape : Nat) (w : World) (hnes : l.es.length ≤ 1000000) (h0 : 0 < l.tk.n) (hn : l.tk.n ≤ 1000000) (hx : Ints w a l.tk.n cap l.tk.pints) (he : Ens w ae l.es.length cape l.es) : Ct Tryz.prog 51 #[.agg #[.slice a l.tk.n cap, .int .i64 l.tk.leak, .int .i64 l.tk.foot, .int .i64 l.start.lo, .int .i64 l.start.hi, .slice ae l.es.length cape]] w (TwinL l) := by
  have hnn : a = none ∧ l.tk.n = 0 ∨ a ≠ none ∧ 0 < l.tk.n := .inr ⟨by obtain ⟨b, o, rfl, _⟩ := hx.cell 0 h0; simp, h0⟩
  have hF := wide_wide
  refine Ct_start (args := [_]) Tryz.func51 (by rfl) Tryz.ntmps51 (by rfl) ?_
  refine W_seq ?_
  refine W_region_lit (fun ds => ?_)
  refine WS_new hF (by rfl) (y_box (by rfl)) (fun b1 => ?_)
  refine WS_new hF (by rfl) (y_alloc Tryz.zeroValue29 (by rfl)) (fun b2 => ?_)
  refine WS_nil ?_
  refine Then_normal ?_
  refine W_seq ?_
  apply W_drawMT 9 hF Tryzmixed [] [] [] (by rfl) (by decide +kernel) (by decide) HSub.refl
  intro ds
  refine P_det (by rfl) (Over_nil (y_fieldAddr (by rfl) fa29_0)) ?_
  refine P_det (by rfl) (Over_nil (y_fieldAddr (by rfl) fa24_0)) ?_
  refine P_det (by rfl) (Over_nil (y_load1 (by rfl) Tryz.isAgg22 (Mem.own1 1 (by rfl) (by rfl)))) ?_
  refine P_new (by rfl) (by rfl) (Over_nil (y_callL (by rfl) (by rfl) Tryz.call70 (fun w hw => clone_any a l.tk.n cap l.tk.pints w (hx.st w hw) hn hnn))) ?_
  refine P_det (by rfl) (Over_out (by rfl) (Over_nil (y_fieldAddr (by rfl) fa29_2))) ?_
  refine P_det (by rfl) (Over_out (by rfl) (Over_nil (y_load1 (by rfl) Tryz.isAgg27 (Mem.own1 1 (by rfl) (by rfl))))) ?_
  refine P_new (by rfl) (by rfl) (Over_out (by rfl) (Over_nil (y_callL (by rfl) (by rfl) Tryz.call81 (fun w hw => cloneE_any l ae cape w hnes (he.st w hw))))) ?_
  refine P_det (by rfl) (Over_out (by rfl) (Over_out (by rfl) (Over_nil (y_fieldAddr (by rfl) fa29_0)))) ?_
  refine P_det (by rfl) (Over_out (by rfl) (Over_out (by rfl) (Over_nil (y_fieldAddr (by rfl) fa24_0)))) ?_
  refine PW_end (by rfl) ?_
  refine OverAll_cons (fun w9 l9 => ?_)
  refine OverAll_cons (fun w6 l6 => ?_)
  refine OverAll_nil ?_
  rintro ⟨⟨-, h9⟩, h6⟩
  obtain ⟨a1, cap1, rfl, hr1, _⟩ := h6
  obtain ⟨a2, cap2, rfl, hle2, hd2⟩ := h9
  refine WS_sub hsub_front ?_
  refine WS_store hF (i := 1) (by rfl) (by rfl) Tryz.sizeOf22 (by rfl) (by rfl) (by rfl) (by first | decide | exact Nat.le_of_ble_eq_true rfl | simp) ?_
  refine WS_det hF (by rfl) (y_fieldAddr (by rfl) fa29_2) ?_
  refine WS_store hF (i := 1) (by rfl) (by rfl) Tryz.sizeOf27 (by rfl) (by rfl) (by rfl) (by first | decide | exact Nat.le_of_ble_eq_true rfl | simp) ?_
  refine WS_nil ?_
  refine Then_normal ?_
  refine W_seq ?_
  refine W_region_lit (fun ds => ?_)
  refine WS_det hF (by rfl) (y_loadN (by rfl) Tryz.isAgg29 Tryz.sizeOf29 (Mem.own (us := [.slice _ _ _, .int .i64 _, .int .i64 _, .int .i64 _, .int .i64 _, .slice _ _ _]) 1 (by rfl) (by rfl)) (by rfl)) ?_
  refine WS_store hF (i := 0) (by rfl) (by rfl) Tryz.sizeOf29 (by rfl) (by rfl) (by rfl) (by first | decide | exact Nat.le_of_ble_eq_true rfl | simp) ?_
  refine WS_nil ?_
  refine Then_normal ?_
  refine W_ret ?_
  refine Fin_ret [_] (l6 ++ l9) Tryz.results51 ⟨lvN (by rfl) Tryz.isAgg29 Tryz.sizeOf29 (Mem.own (us := [.slice _ _ _, .int .i64 _, .int .i64 _, .int .i64 _, .int .i64 _, .slice _ _ _]) 0 (by rfl) (by rfl)) (by rfl), trivial⟩ (HSub.sub (by repeat (first | exact List.Sublist.refl _ | exact List.sublist_append_left _ _ | exact List.nil_sublist _ | apply List.Sublist.cons_cons | apply List.Sublist.cons | refine List.Sublist.trans ?_ (List.sublist_append_right _ _)))) ?_
  exact ⟨a1, cap1, a2, cap2, _, _, rfl, Row.newRow hr1 h0, ⟨_, _, rfl, hle2, hd2⟩, rfl⟩
/-- A log with an entry more. -/
def Lg.put (l : Lg) (x : En) : Lg := ⟨l.tk, l.start, l.es ++ [x]⟩
theorem Lg.put_len (l : Lg) (x : En) : (l.put x).es.length = l.es.length + 1 := by unfold Lg.put; simp
theorem Lg.put_row (l : Lg) (x : En) : rowOf En.cells (l.put x).e (l.es.length + 1) = rowOf En.cells l.e l.es.length ++ x.cells := by
  rw [rowOf_succ]
  congr 1
  · refine rowOf_congr _ fun k hk => ?_
    unfold Lg.e Lg.put
    simp only [List.getD_eq_getElem?_getD, List.getElem?_append_left hk]
  · unfold Lg.e Lg.put
    simp
/-- Add's error. -/
def Lg.addE (l : Lg) (x : En) : Int := if l.err = 0 then if l.es.length = 12 then 9 else if (l.put x).err = 0 then 0 else 32 else l.err
def zeroLg : Value := .agg #[.slice none 0 0, .int .i64 0, .int .i64 0, .int .i64 0, .int .i64 0, .slice none 0 0]
def AddV (l : Lg) (x : En) (v : Value) (Hn : List Blk) : Prop :=
  ∃ v0, v = .tuple #[v0, .int .i64 (l.addE x)] ∧ (l.addE x ≠ 0 → v0 = zeroLg ∧ Hn = []) ∧ (l.addE x = 0 → TwinL (l.put x) v0 Hn)
end Go.Proofs.YthkimgfgpphgnaaGreat.T

/- Changes: logs with an entry more, and without some: the walks of Add and Strike. -/
namespace Go.Proofs.YthkimgfgpphgnaaGreat.T
open Go.RowKit Go.Proofs Go.Eng
set_option maxRecDepth 100000
set_option linter.unusedVariables false
set_option linter.unusedSimpArgs false

theorem bd29  : ∀ w, (Instr.build 29 #[]).run Tryz.prog w = .ok (.agg #[.slice none 0 0, .int .i64 0, .int .i64 0, .int .i64 0, .int .i64 0, .slice none 0 0]) w := fun w => by kernel_rfl

theorem add_any (l : Lg) (a : Option Addr) (cap : Nat) (ae : Option Addr) (cape : Nat) (x : En) (w : World) (hn : l.tk.n ≤ 1000000) (hx : Ints w a l.tk.n cap l.tk.pints) (he : Ens w ae l.es.length cape l.es) : Ct Tryz.prog 19 #[.agg #[.slice a l.tk.n cap, .int .i64 l.tk.leak, .int .i64 l.tk.foot, .int .i64 l.start.lo, .int .i64 l.start.hi, .slice ae l.es.length cape], .agg x.cells.toArray] w (AddV l x) := by
  have hF := wide_wide
  refine Ct_start (args := [_, _]) Tryz.func19 (by rfl) Tryz.ntmps19 (by rfl) ?_
  refine W_seq ?_
  refine W_region_lit (fun ds => ?_)
  refine WS_new hF (by rfl) (y_box (by rfl)) (fun b1 => ?_)
  refine WS_new hF (by rfl) (y_box (by rfl)) (fun b2 => ?_)
  refine WS_new hF (by rfl) (y_alloc Tryz.zeroValue29 (by rfl)) (fun b3 => ?_)
  refine WS_det hF (by rfl) (y_assign (c := .int .i64 _) (by rfl)) ?_
  refine WS_nil ?_
  refine Then_normal ?_
  refine W_seq ?_
  refine W_seq ?_
  refine W_region_lit (fun ds => ?_)
  refine WS_det hF (by rfl) (y_loadN (by rfl) Tryz.isAgg29 Tryz.sizeOf29 (Mem.own (us := [.slice _ _ _, .int .i64 _, .int .i64 _, .int .i64 _, .int .i64 _, .slice _ _ _]) 2 (by rfl) (by rfl)) (by rfl)) ?_
  refine WS_det hF (by rfl) (y_callL (by rfl) (by rfl) Tryz.call50 (fun w hw => valid_any l a cap ae cape w hn (hx.st w hw) (he.st w hw))) ?_
  refine WS_det hF (by rfl) (y_assign (c := .int .i64 _) (by rfl)) ?_
  refine WS_nil ?_
  refine Then_normal ?_
  refine W_seq ?_
  refine W_region_lit (fun ds => ?_)
  refine WS_det hF (by rfl) (y_move (c := .int .i64 _) (by rfl)) ?_
  refine WS_det hF (by rfl) (y_neq (by rfl) (by rfl)) ?_
  refine WS_nil ?_
  refine Then_normal ?_
  refine W_cond (by rfl) (fun c2 => ?_) (fun c2 => ?_)
  ·
    try simp only [Bool.not_eq_true', Bool.not_eq_false', decide_eq_true_eq, decide_eq_false_iff_not, ne_eq, Classical.not_not, Int.not_lt, Int.not_le] at c2
    refine W_seq ?_
    refine W_region_lit (fun ds => ?_)
    refine WS_det hF (by rfl) (y_buildL bd29 (by rfl)) ?_
    refine WS_det hF (by rfl) (y_move (c := .int .i64 _) (by rfl)) ?_
    refine WS_store hF (i := 0) (by rfl) (by rfl) Tryz.sizeOf29 (by rfl) (by rfl) (by rfl) (by first | decide | exact Nat.le_of_ble_eq_true rfl | simp) ?_
    refine WS_det hF (by rfl) (y_assign (c := .int .i64 _) (by rfl)) ?_
    refine WS_nil ?_
    refine Then_normal ?_
    refine W_ret ?_
    refine Then_ret ?_
    refine Fin_ret [_, .int .i64 _] [] Tryz.results19 ⟨lvN (by rfl) Tryz.isAgg29 Tryz.sizeOf29 (Mem.own (us := [.slice _ _ _, .int .i64 _, .int .i64 _, .int .i64 _, .int .i64 _, .slice _ _ _]) 0 (by rfl) (by rfl)) (by rfl), by rfl, trivial⟩ HSub.nil ?_
    have hE : l.addE x = l.err := if_neg c2
    exact ⟨zeroLg, by rw [hE]; rfl, fun _ => ⟨rfl, rfl⟩, fun h => absurd (hE ▸ h) c2⟩
  ·
    try simp only [Bool.not_eq_true', Bool.not_eq_false', decide_eq_true_eq, decide_eq_false_iff_not, ne_eq, Classical.not_not, Int.not_lt, Int.not_le] at c2
    have hok := l.ok_of c2
    have hn12 := hok.n12
    have hn2 := hok.tk.n2
    refine W_skip ?_
    refine Then_normal ?_
    refine W_seq ?_
    refine W_seq ?_
    refine W_region_lit (fun ds => ?_)
    refine WS_det hF (by rfl) (y_fieldAddr (by rfl) fa29_2) ?_
    refine WS_det hF (by rfl) (y_load1 (by rfl) Tryz.isAgg27 (Mem.own1 2 (by rfl) (by rfl))) ?_
    refine WS_det hF (by rfl) (y_len (by rfl) Tryz.runUnderlying27) ?_
    refine WS_det hF (by rfl) (y_eql (by rfl) (by rfl)) ?_
    refine WS_nil ?_
    refine Then_normal ?_
    refine W_cond (by rfl) (fun c4 => ?_) (fun c4 => ?_)
    ·
      try simp only [Bool.not_eq_true', Bool.not_eq_false', decide_eq_true_eq, decide_eq_false_iff_not, ne_eq, Classical.not_not, Int.not_lt, Int.not_le] at c4
      refine W_seq ?_
      refine W_region_lit (fun ds => ?_)
      refine WS_det hF (by rfl) (y_buildL bd29 (by rfl)) ?_
      refine WS_store hF (i := 0) (by rfl) (by rfl) Tryz.sizeOf29 (by rfl) (by rfl) (by rfl) (by first | decide | exact Nat.le_of_ble_eq_true rfl | simp) ?_
      refine WS_det hF (by rfl) (y_assign (c := .int .i64 _) (by rfl)) ?_
      refine WS_nil ?_
      refine Then_normal ?_
      refine W_ret ?_
      refine Then_ret ?_
      refine Fin_ret [_, .int .i64 _] [] Tryz.results19 ⟨lvN (by rfl) Tryz.isAgg29 Tryz.sizeOf29 (Mem.own (us := [.slice _ _ _, .int .i64 _, .int .i64 _, .int .i64 _, .int .i64 _, .slice _ _ _]) 0 (by rfl) (by rfl)) (by rfl), by rfl, trivial⟩ HSub.nil ?_
      have hE : l.addE x = 9 := by unfold Lg.addE; rw [if_pos c2, if_pos (by omega)]
      exact ⟨zeroLg, by rw [hE]; rfl, fun _ => ⟨rfl, rfl⟩, fun h => absurd (hE ▸ h) (by decide)⟩
    ·
      try simp only [Bool.not_eq_true', Bool.not_eq_false', decide_eq_true_eq, decide_eq_false_iff_not, ne_eq, Classical.not_not, Int.not_lt, Int.not_le] at c4
      refine W_skip ?_
      refine Then_normal ?_
      refine W_seq ?_
      refine W_region_lit (fun ds => ?_)
      refine WS_det hF (by rfl) (y_loadN (by rfl) Tryz.isAgg29 Tryz.sizeOf29 (Mem.own (us := [.slice _ _ _, .int .i64 _, .int .i64 _, .int .i64 _, .int .i64 _, .slice _ _ _]) 2 (by rfl) (by rfl)) (by rfl)) ?_
      refine WS_gen hF (by rfl) (y_callL (by rfl) (by rfl) Tryz.call51 (fun w hw => copied_any l a cap ae cape w (by omega) (by omega) hn (hx.st w hw) (he.st w hw))) ?_
      rintro _ _ ⟨a1, cap1, a2, cap2, H1, H2, rfl, hr1, hr2, rfl⟩
      refine WS_back ?_
      refine WS_store hF (i := 2) (by rfl) (by rfl) Tryz.sizeOf29 (by rfl) (by rfl) (by rfl) (by first | decide | exact Nat.le_of_ble_eq_true rfl | simp) ?_
      refine WS_nil ?_
      refine Then_normal ?_
      refine W_seq ?_
      refine W_region_lit (fun ds => ?_)
      refine WS_det hF (by rfl) (y_fieldAddr (by rfl) fa29_2) ?_
      refine WS_det hF (by rfl) (y_load1 (by rfl) Tryz.isAgg27 (Mem.own1 2 (by rfl) (by rfl))) ?_
      refine WS_det hF (by rfl) (y_loadN (by rfl) Tryz.isAgg38 Tryz.sizeOf38 (Mem.own (us := [.int .i64 _, .int .i64 _, .int .i64 _, .int .i64 _]) 1 (by rfl) (by rfl)) (by rfl)) ?_
      refine WS_newS hF (by rfl) (y_buildSliceL bs27_1_0 (by rfl)) (fun b4 => ?_)
      refine WS_appendN hF (H1 := (_ :: _ :: _ :: _ :: H1)) (Hn := H2) (by rfl) (by rfl) (by rfl) Tryz.underlying27 infEntry (by rfl) (by rfl) hr2 (rowOf_len en_len _ _) (.inr ⟨_, _, rfl, Mem.own (us := [.int _ _, .int _ _, .int _ _, .int _ _]) 0 (by rfl) (by rfl)⟩) (by rfl) (by rfl) (by omega) (by omega) (by omega) ?_
      intro a3 cap3 H3 hr3
      have hr4 : NewRow 38 4 (l.put x).es.length (rowOf En.cells (l.put x).e (l.put x).es.length) (.slice a3 (l.put x).es.length cap3) H3 := by
        rw [l.put_len, l.put_row]; exact hr3
      rw [show l.es.length + 1 = (l.put x).es.length from (l.put_len x).symm]
      refine WS_det hF (by rfl) (y_fieldAddr (by rfl) fa29_2) ?_
      refine WS_store hF (i := 3) (by rfl) (by rfl) Tryz.sizeOf27 (by rfl) (by rfl) (by rfl) (by first | decide | exact Nat.le_of_ble_eq_true rfl | simp) ?_
      refine WS_nil ?_
      refine Then_normal ?_
      refine W_seq ?_
      refine W_seq ?_
      refine W_region_lit (fun ds => ?_)
      refine WS_det hF (by rfl) (y_loadN (by rfl) Tryz.isAgg29 Tryz.sizeOf29 (Mem.own (us := [.slice _ _ _, .int .i64 _, .int .i64 _, .int .i64 _, .int .i64 _, .slice _ _ _]) 3 (by rfl) (by rfl)) (by rfl)) ?_
      refine WS_det hF (by rfl) (y_callL (by rfl) (by rfl) Tryz.call50 (fun w hw => valid_any (l.put x) a1 cap1 a3 cap3 w hn (NewRow.ints hr1 hx.len (by repeat (first | exact List.Sublist.refl _ | exact List.sublist_append_left _ _ | exact List.nil_sublist _ | apply List.Sublist.cons_cons | apply List.Sublist.cons | refine List.Sublist.trans ?_ (List.sublist_append_right _ _))) w hw) (NewRow.rws en_len hr4 rfl (by repeat (first | exact List.Sublist.refl _ | exact List.sublist_append_left _ _ | exact List.nil_sublist _ | apply List.Sublist.cons_cons | apply List.Sublist.cons | refine List.Sublist.trans ?_ (List.sublist_append_right _ _))) w hw))) ?_
      refine WS_det hF (by rfl) (y_neq (by rfl) (by rfl)) ?_
      refine WS_nil ?_
      refine Then_normal ?_
      refine W_cond (by rfl) (fun c8 => ?_) (fun c8 => ?_)
      ·
        try simp only [Bool.not_eq_true', Bool.not_eq_false', decide_eq_true_eq, decide_eq_false_iff_not, ne_eq, Classical.not_not, Int.not_lt, Int.not_le] at c8
        refine W_seq ?_
        refine W_region_lit (fun ds => ?_)
        refine WS_det hF (by rfl) (y_buildL bd29 (by rfl)) ?_
        refine WS_store hF (i := 1) (by rfl) (by rfl) Tryz.sizeOf29 (by rfl) (by rfl) (by rfl) (by first | decide | exact Nat.le_of_ble_eq_true rfl | simp) ?_
        refine WS_det hF (by rfl) (y_assign (c := .int .i64 _) (by rfl)) ?_
        refine WS_nil ?_
        refine Then_normal ?_
        refine W_ret ?_
        refine Then_ret ?_
        refine Fin_ret [_, .int .i64 _] [] Tryz.results19 ⟨lvN (by rfl) Tryz.isAgg29 Tryz.sizeOf29 (Mem.own (us := [.slice _ _ _, .int .i64 _, .int .i64 _, .int .i64 _, .int .i64 _, .slice _ _ _]) 1 (by rfl) (by rfl)) (by rfl), by rfl, trivial⟩ HSub.nil ?_
        have hE : l.addE x = 32 := by unfold Lg.addE; rw [if_pos c2, if_neg (by omega), if_neg c8]
        exact ⟨zeroLg, by rw [hE]; rfl, fun _ => ⟨rfl, rfl⟩, fun h => absurd (hE ▸ h) (by decide)⟩
      ·
        try simp only [Bool.not_eq_true', Bool.not_eq_false', decide_eq_true_eq, decide_eq_false_iff_not, ne_eq, Classical.not_not, Int.not_lt, Int.not_le] at c8
        refine W_skip ?_
        refine Then_normal ?_
        refine W_seq ?_
        refine W_region_lit (fun ds => ?_)
        refine WS_det hF (by rfl) (y_loadN (by rfl) Tryz.isAgg29 Tryz.sizeOf29 (Mem.own (us := [.slice _ _ _, .int .i64 _, .int .i64 _, .int .i64 _, .int .i64 _, .slice _ _ _]) 3 (by rfl) (by rfl)) (by rfl)) ?_
        refine WS_store hF (i := 1) (by rfl) (by rfl) Tryz.sizeOf29 (by rfl) (by rfl) (by rfl) (by first | decide | exact Nat.le_of_ble_eq_true rfl | simp) ?_
        refine WS_det hF (by rfl) (y_assign (c := .int .i64 _) (by rfl)) ?_
        refine WS_nil ?_
        refine Then_normal ?_
        refine W_ret ?_
        refine Fin_ret [_, .int .i64 _] (H1 ++ H3) Tryz.results19 ⟨lvN (by rfl) Tryz.isAgg29 Tryz.sizeOf29 (Mem.own (us := [.slice _ _ _, .int .i64 _, .int .i64 _, .int .i64 _, .int .i64 _, .slice _ _ _]) 1 (by rfl) (by rfl)) (by rfl), by rfl, trivial⟩ (HSub.sub (by repeat (first | exact List.Sublist.refl _ | exact List.sublist_append_left _ _ | exact List.nil_sublist _ | apply List.Sublist.cons_cons | apply List.Sublist.cons | refine List.Sublist.trans ?_ (List.sublist_append_right _ _)))) ?_
        have hE : l.addE x = 0 := by unfold Lg.addE; rw [if_pos c2, if_neg (by omega), if_pos c8]
        exact ⟨_, by rw [hE]; rfl, fun h => absurd hE h, fun _ => ⟨a1, cap1, a3, cap3, H1, H3, rfl, hr1, hr4, rfl⟩⟩
def prevD (D : List Int) : Nat → Int
  | 0 => 0
  | j + 1 => D.getD j 0
def okT (n : Int) (D : List Int) (j : Nat) : Bool := inB (prevD D j + 1) n [D.getD j 0]
def Lg.strE (l : Lg) (D : List Int) : Int := if l.err = 0 then if (List.range D.length).all (okT l.es.length D) = true then 0 else 32 else l.err
def StrikeV (l : Lg) (D : List Int) (v : Value) (Hn : List Blk) : Prop :=
  ∃ v0, v = .tuple #[v0, .int .i64 (l.strE D)] ∧ (l.strE D ≠ 0 → v0 = zeroLg ∧ Hn = []) ∧ (l.strE D = 0 → TwinL (l.wo D) v0 Hn)
end Go.Proofs.YthkimgfgpphgnaaGreat.T

/- The reference's changes: the walks of Add, without, Strike and Before. -/
namespace Go.Proofs.YthkimgfgpphgnaaGreat.T
open Go.RowKit Go.Proofs Go.Eng
set_option maxRecDepth 100000
set_option linter.unusedVariables false
set_option linter.unusedSimpArgs false



end Go.Proofs.YthkimgfgpphgnaaGreat.T

/- The reference's changes: the walks of Strike and Before. -/
namespace Go.Proofs.YthkimgfgpphgnaaGreat.T
open Go.RowKit Go.Proofs Go.Eng
set_option maxRecDepth 100000
set_option linter.unusedVariables false
set_option linter.unusedSimpArgs false



def lexB : List Int → List Int → Bool
  | x :: xs, y :: ys => if x = y then lexB xs ys else decide (x < y)
  | _, _ => false
/-- Shorter ones first, then the first number that differs. -/
def befB (xs ys : List Int) : Bool := if xs.length = ys.length then lexB xs ys else decide (xs.length < ys.length)
end Go.Proofs.YthkimgfgpphgnaaGreat.T

/- The reference's dips that must be false: the walk of Wrong. -/
namespace Go.Eng
section
variable {C : Ctx} {e : Env} {H : List Blk} {d : Option Tmp} {ty : TypeId} {pos : String} {af : Array Edge} {g : Option (Nat × Bool)} {x y : Operand} {t t' : TypeId} {m i : Nat}
end
end Go.Eng
namespace Go.Proofs.YthkimgfgpphgnaaGreat.T
open Go.RowKit Go.Proofs Go.Eng
set_option maxRecDepth 100000
set_option linter.unusedVariables false
set_option linter.unusedSimpArgs false



def setL (s n : Nat) : List Int := ((List.range n).filter fun i => s.testBit i).map fun i : Nat => (i : Int) + 1
theorem setL_succ (s n : Nat) : setL s (n + 1) = if s.testBit n then setL s n ++ [(n : Int) + 1] else setL s n := by
  unfold setL
  rw [List.range_succ, List.filter_append]
  cases h : s.testBit n <;> simp [h]
def Lg.dipsB (l : Lg) (s n : Nat) : Bool := (List.range n).all fun i => !s.testBit i || decide ((l.e i).kind = 3)
def betB (T : List Int) : Option (List Int) → Bool
  | none => true
  | some R => befB T R
def Lg.bestW (l : Lg) : Nat → Option (List Int)
  | 0 => none
  | s + 1 => if l.dipsB s l.es.length && betB (setL s l.es.length) (l.bestW s) && (l.wo (setL s l.es.length)).holdsB then some (setL s l.es.length) else l.bestW s
def RWrongV (l : Lg) (v : Value) (Hn : List Blk) : Prop :=
  (l.err ≠ 0 → v = .tuple #[.slice none 0 0, .int .i64 l.err] ∧ Hn = []) ∧
  (l.err = 0 → (∀ R, l.bestW (2 ^ l.es.length) = some R → ∃ fa fn fcap, v = .tuple #[.slice fa fn fcap, .int .i64 0] ∧ Row 3 1 fa fn fcap (iv R) Hn ∧ R.length = fn) ∧ (l.bestW (2 ^ l.es.length) = none → v = .tuple #[.slice none 0 0, .int .i64 6] ∧ Hn = []))
end Go.Proofs.YthkimgfgpphgnaaGreat.T

/- The first of the fewest dips that must be false: both ways of looking for it find the same; plain facts. -/
namespace Go.Proofs.YthkimgfgpphgnaaGreat.T
open Go.RowKit Go.Proofs Go.Eng
set_option maxRecDepth 100000
set_option linter.unusedVariables false
set_option linter.unusedSimpArgs false

def Lg.Fits (l : Lg) (lo : Int) (E : List Int) : Prop := E.Pairwise (· < ·) ∧ ∀ x ∈ E, lo < x ∧ x ≤ (l.es.length : Int) ∧ (l.e (x - 1).toNat).kind = 3
def Lg.Val (l : Lg) (T : List Int) : Prop := l.Fits 0 T ∧ (l.wo T).holdsB = true
theorem Lg.Fits.tail {l : Lg} {lo x : Int} {E : List Int} (h : l.Fits lo (x :: E)) : l.Fits x E :=
  ⟨(List.pairwise_cons.1 h.1).2, fun y hy => ⟨(List.pairwise_cons.1 h.1).1 y hy, (h.2 y (List.mem_cons_of_mem _ hy)).2⟩⟩
/-! ### Sets as numbers -/
theorem setL_of (n : Nat) : ∀ T : List Int, T.Pairwise (· < ·) → (∀ x ∈ T, 0 < x ∧ x ≤ (n : Int)) → ∃ s, s < 2 ^ n ∧ setL s n = T := by
  induction n with
  | zero =>
    intro T _ h
    refine ⟨0, by decide, ?_⟩
    cases T with
    | nil => rfl
    | cons x T => have := h x List.mem_cons_self; omega
  | succ n ih =>
    intro T hp h
    have small : (∀ x ∈ T, x ≤ (n : Int)) → ∃ s, s < 2 ^ (n + 1) ∧ setL s (n + 1) = T := fun hs => by
      obtain ⟨s, h1, h2⟩ := ih T hp fun x hx => ⟨(h x hx).1, hs x hx⟩
      refine ⟨s, by rw [Nat.pow_succ]; omega, ?_⟩
      rw [setL_succ, Nat.testBit_lt_two_pow h1]
      exact h2
    rcases List.eq_nil_or_concat T with rfl | ⟨L, x, rfl⟩
    · exact small fun x hx => by cases hx
    · rw [List.concat_eq_append] at hp h small ⊢
      have hlt : ∀ y ∈ L, y < x := fun y hy => (List.pairwise_append.1 hp).2.2 y hy x List.mem_cons_self
      have hx := h x (List.mem_append_right _ List.mem_cons_self)
      by_cases hxn : x = (n : Int) + 1
      · obtain ⟨s, h1, h2⟩ := ih L (List.pairwise_append.1 hp).1 fun y hy => ⟨(h y (List.mem_append_left _ hy)).1, by have := hlt y hy; omega⟩
        refine ⟨2 ^ n + s, by rw [Nat.pow_succ]; omega, ?_⟩
        rw [setL_succ, Nat.testBit_two_pow_add_eq, Nat.testBit_lt_two_pow h1]
        have : setL (2 ^ n + s) n = setL s n := by
          unfold setL
          congr 1
          exact List.filter_congr fun i hi => Nat.testBit_two_pow_add_gt (List.mem_range.1 hi) s
        rw [this, h2, hxn]; rfl
      · refine small fun y hy => ?_
        rcases List.mem_append.1 hy with hy | hy
        · have := hlt y hy; omega
        · rw [List.mem_singleton.1 hy]; omega
theorem Lg.Val.set {l : Lg} {T : List Int} (h : l.Val T) : ∃ s, s < 2 ^ l.es.length ∧ setL s l.es.length = T :=
  setL_of _ T h.1.1 fun x hx => ⟨(h.1.2 x hx).1, (h.1.2 x hx).2.1⟩
/-! ### The order of lists -/
end Go.Proofs.YthkimgfgpphgnaaGreat.T

/- Blocks whose contents nobody asks for any more: stores into them, one by one. No project text. -/
namespace Go.Eng
open Go.RowKit

theorem W_sub {C : Ctx} {F : Fence} {n : Nat} {ds : List Deferred} {c : Code} {Q : Exit → Env → List Blk → Prop} {e : Env} {H H' : List Blk} (hs : HSub H H') (h : W C F n ds c Q e H') : W C F n ds c Q e H :=
  fun dd w hw a ha => h dd w ⟨hw.1, hs _ _ hw.2, hw.3⟩ a ha
section
variable {S1 S2 M M' L : List Blk} {x y : Blk}
theorem Pul.base : (S1 ++ x :: S2).Perm (x :: (S1 ++ S2)) := List.perm_middle
theorem Pul.cons (h : M.Perm (x :: M')) : (y :: M).Perm (x :: y :: M') := (h.cons y).trans (List.Perm.swap ..)
theorem Pul.app (h : M.Perm (x :: M')) : (L ++ M).Perm (x :: (L ++ M')) := (h.append_left L).trans List.perm_middle
theorem Pul.end (h : M.Perm (x :: M')) : M.Perm (x :: M') := h
end

/-- Two blocks of one shape: the place, the length and the kind. -/
def Sh1 (x y : Blk) : Prop := x.1 = y.1 ∧ ∃ vs us T, x.2 = CB vs T ∧ y.2 = CB us T ∧ us.length = vs.length
inductive Shp : List Blk → List Blk → Prop
  | nil : Shp [] []
  | cons {x y : Blk} {l m : List Blk} : Sh1 x y → Shp l m → Shp (x :: l) (y :: m)
theorem Sh1.refl {b : Nat} {vs : List Value} {T : TypeId} : Sh1 (b, CB vs T) (b, CB vs T) := ⟨rfl, vs, vs, T, rfl, rfl, rfl⟩
theorem Shp.app {a b c d : List Blk} (h : Shp a b) (h' : Shp c d) : Shp (a ++ c) (b ++ d) := by
  induction h with
  | nil => exact h'
  | cons h1 _ ih => exact .cons h1 ih
theorem CB_inj {vs us : List Value} {T T' : TypeId} (h : CB vs T = CB us T') : vs = us ∧ T = T' := by
  unfold CB at h
  simp only [Obj.cells.injEq] at h
  exact ⟨by simpa using h.1, by simpa using h.2⟩
/-- A block of such a list stands somewhere in it, and a store leaves the shape. -/
theorem Shp.get {S0 S : List Blk} {b : Nat} {vs : List Value} {T : TypeId} (h : Shp S0 S) (hm : (b, CB vs T) ∈ S0) :
    ∃ S1 us S2, S = S1 ++ (b, CB us T) :: S2 ∧ us.length = vs.length ∧ ∀ us', us'.length = us.length → Shp S0 (S1 ++ (b, CB us' T) :: S2) := by
  induction h with
  | nil => cases hm
  | @cons x y l m h1 h2 ih =>
    rcases List.mem_cons.1 hm with rfl | hm
    · obtain ⟨rfl, vs', us, T', e1, e2, hl⟩ := h1
      obtain ⟨rfl, rfl⟩ := CB_inj e1
      obtain ⟨yb, yo⟩ := y
      simp only at e2
      subst e2
      exact ⟨[], us, m, rfl, hl, fun us' hl' => .cons ⟨rfl, _, _, _, rfl, rfl, hl'.trans hl⟩ h2⟩
    · obtain ⟨S1, us, S2, rfl, hl, hp⟩ := ih hm
      exact ⟨y :: S1, us, S2, rfl, hl, fun us' hl' => .cons h1 (hp us' hl')⟩
/-- A slice whose cells lie in such a block. -/
def OwnR (S0 : List Blk) (T : TypeId) (sz : Nat) (a : Option Addr) (n : Nat) : Prop := n = 0 ∨ ∃ b vs, a = some ⟨b, 0, none⟩ ∧ (b, CB vs T) ∈ S0 ∧ n * sz ≤ vs.length
theorem NewRow.own {S0 : List Blk} {T : TypeId} {sz n cap : Nat} {us : List Value} {a : Option Addr} {Hn : List Blk} (h : NewRow T sz n us (.slice a n cap) Hn) (hs : ∀ x ∈ Hn, x ∈ S0) : OwnR S0 T sz a n := by
  obtain ⟨a', cap', he, hle, ⟨hn, b, junk, rfl, rfl, hl⟩ | ⟨h0, _⟩⟩ := h
  · cases he
    exact .inr ⟨b, _, rfl, hs _ (List.mem_singleton.2 rfl), by rw [hl]; exact Nat.mul_le_mul_right _ hle⟩
  · exact .inl h0
theorem OwnR.get {S0 S : List Blk} {T : TypeId} {sz n k : Nat} {a : Option Addr} (h : OwnR S0 T sz a n) (hk : k < n) (hS : Shp S0 S) :
    ∃ b S1 us S2, a = some ⟨b, 0, none⟩ ∧ S = S1 ++ (b, CB us T) :: S2 ∧ k * sz + sz ≤ us.length ∧ ∀ us', us'.length = us.length → Shp S0 (S1 ++ (b, CB us' T) :: S2) := by
  rcases h with h | ⟨b, vs, rfl, hm, hl⟩
  · omega
  · obtain ⟨S1, us, S2, rfl, hu, hp⟩ := hS.get hm
    refine ⟨b, S1, us, S2, rfl, rfl, ?_, hp⟩
    rw [hu]
    refine Nat.le_trans ?_ hl
    rw [← Nat.succ_mul]
    exact Nat.mul_le_mul_right _ hk
end Go.Eng
namespace Go.Eng
section
variable {C : Ctx} {F : Fence} {n : Nat} {ds : List Deferred} {c : Code} {Q : Exit → Env → List Blk → Prop} {e : Env} {H M M' : List Blk}
end
end Go.Eng

/- Comparisons whose answer is known; equality of Bools. No project text. -/
namespace Go.Eng
open Go.RowKit
theorem ieq_no {a b : Int} : ieq a b = false ↔ ¬ a = b := by unfold ieq; simp
section
variable {C : Ctx} {e : Env} {H : List Blk} {o : Oper} {d : Option Tmp} {x y : Operand} {t t' ty : TypeId} {pos : String} {af : Array Edge} {g : Option (Nat × Bool)} {b c : Bool}
theorem YD_yes (h : YD C o e H (.bool b)) (hb : b = true) : YD C o e H (.bool true) := by subst hb; exact h
theorem YD_no (h : YD C o e H (.bool b)) (hb : b = false) : YD C o e H (.bool false) := by subst hb; exact h
theorem YD_eq {u v : Value} (h : YD C o e H u) (hb : u = v) : YD C o e H v := by subst hb; exact h
end
end Go.Eng
namespace Go.Eng
/-- Slots that nobody reads any more are forgotten. -/
theorem W_keep {C : Ctx} {F : Fence} {n : Nat} {ds : List Deferred} {c : Code} {Q : Exit → Env → List Blk → Prop} {e : Env} {H : List Blk} (L : List (Nat × Value)) (hL : Slots e L) (h : ∀ e, W C F n ds c Q (sets e L) H) : W C F n ds c Q e H := by
  have := h e
  rwa [hL.sets] at this
end Go.Eng

/- Short words for what is asked often; a rest that is walked once. No project text. -/
namespace Go.Eng
open Go.RowKit
theorem sbA {A B : List Blk} (h : A.Sublist B := by (try simp only [List.append_assoc, List.cons_append, List.nil_append, List.set_cons_zero, List.set_cons_succ]); repeat (first | exact List.Sublist.refl _ | exact List.nil_sublist _ | exact List.sublist_append_left _ _ | apply List.Sublist.append_left | apply List.Sublist.cons_cons | apply List.Sublist.cons | refine List.Sublist.trans ?_ (List.sublist_append_right _ _))) : A.Sublist B := h
theorem dect {p : Prop} (h : p := by (try simp only [decide_eq_true_eq, decide_eq_false_iff_not, Bool.not_eq_true', Bool.not_eq_false', Bool.and_eq_true, Bool.and_eq_false_iff, ieq_iff, ieq_no, ne_eq, Classical.not_not]) <;> omega) : p := h
theorem slt {e : Env} {L : List (Nat × Value)} (h : Slots e L := by repeat (first | exact trivial | refine ⟨by rfl, ?_⟩)) : Slots e L := h
section
variable {C : Ctx} {F : Fence} {n : Nat} {ds : List Deferred} {x1 x2 x3 x4 x5 x6 y : Code} {Q : Exit → Env → List Blk → Prop} {e : Env} {H : List Blk} {γ : Type}
/-- The rest, whatever way led to it: some slots as they were, some as a ghost says. -/
def Rest (C : Ctx) (F : Fence) (n : Nat) (ds : List Deferred) (y : Code) (Q : Exit → Env → List Blk → Prop) {γ : Type} (I : γ → Prop) (L : List (Nat × Value)) (M : γ → List (Nat × Value)) (B : γ → List Blk) : Prop :=
  ∀ g e H, I g → Slots e L → Slots e (M g) → HSub H (B g) → W C F n ds y Q e H
theorem Slots.app {e : Env} : ∀ {L M : List (Nat × Value)}, Slots e L → Slots e M → Slots e (L ++ M)
  | [], _, _, h => h
  | _ :: _, _, h, h' => ⟨h.1, Slots.app h.2 h'⟩
theorem rest_of {I : γ → Prop} {L : List (Nat × Value)} {M : γ → List (Nat × Value)} {B : γ → List Blk} (h : ∀ g e, I g → W C F n ds y Q (sets e (L ++ M g)) (B g)) : Rest C F n ds y Q I L M B := fun g e H hi hL hM hB => by
  have := h g e hi
  rw [(hL.app hM).sets] at this
  exact W_sub hB this
theorem W_J1H (I : γ → Prop) (L : List (Nat × Value)) (M : γ → List (Nat × Value)) (_ : Slots e L) (hr : ∀ g e, I g → W C F n ds y Q (sets e (L ++ M g)) H) (h : Rest C F n ds y Q I L M (fun _ => H) → W C F n ds (.seq x1 y) Q e H) :
    W C F n ds (.seq x1 y) Q e H := h (rest_of (B := (fun _ => H)) hr)
end
end Go.Eng

/- The law of changes, walked. -/
namespace Go.Proofs.YthkimgfgpphgnaaGreat.T
open Go.RowKit Go.Proofs Go.Eng
set_option maxRecDepth 100000
set_option maxHeartbeats 1000000
set_option linter.unusedVariables false
set_option linter.unusedSimpArgs false



def Lg.wrL (l : Lg) : List Int := if l.err = 0 then l.wr.getD [] else []
def Lg.wrE (l : Lg) : Int := if l.err = 0 then (if l.wr.isSome then 0 else 6) else l.err
def WrI (l : Lg) (v : Value) (Hn : List Blk) : Prop :=
  ∃ fa fcap, v = .tuple #[.slice fa l.wrL.length fcap, .int .i64 l.wrE] ∧ ∀ (C : Ctx) (H : List Blk) (w : World), Hn.Sublist H → St C H w → Ints w fa l.wrL.length fcap l.wrL
theorem WrongV.ints {l : Lg} {v : Value} {Hn : List Blk} (h : WrongV l v Hn) : WrI l v Hn := by
  unfold WrI Lg.wrL Lg.wrE
  by_cases h0 : l.err = 0
  · rw [if_pos h0, if_pos h0]
    cases hw : l.wr with
    | none =>
      obtain ⟨rfl, rfl⟩ := (h.2 h0).2 hw
      exact ⟨none, 0, rfl, fun C H w _ _ => Ints.nil _ _ _⟩
    | some R =>
      obtain ⟨fa, fn, fcap, rfl, hr, rfl⟩ := (h.2 h0).1 R hw
      exact ⟨fa, fcap, rfl, fun C H w hs hw => Row.ints hr rfl hs w hw⟩
  · rw [if_neg h0, if_neg h0]
    obtain ⟨rfl, rfl⟩ := h.1 h0
    exact ⟨none, 0, rfl, fun C H w _ _ => Ints.nil _ _ _⟩
def Lg.zero : Lg := ⟨⟨[], 0, 0⟩, ⟨0, 0⟩, []⟩
def Lg.addL (l : Lg) (x : En) : Lg := if l.addE x = 0 then l.put x else Lg.zero
def Lg.strL (l : Lg) (D : List Int) : Lg := if l.strE D = 0 then l.wo D else Lg.zero
end Go.Proofs.YthkimgfgpphgnaaGreat.T

/- The examples that every outright law calls: alive, walked. -/
namespace Go.Proofs.YthkimgfgpphgnaaGreat.T
open Go.RowKit Go.Proofs Go.Eng
set_option maxRecDepth 100000
set_option maxHeartbeats 1000000
set_option linter.unusedVariables false
set_option linter.unusedSimpArgs false

theorem bd38_0_1_2 {x0 : Int} {x1 : Int} {x2_0 : Int} {x2_1 : Int} : ∀ w, (Instr.build 38 #[(0, .int .i64 x0), (1, .int .i64 x1), (2, .agg #[.int .i64 x2_0, .int .i64 x2_1])]).run Tryz.prog w = .ok (.agg #[.int .i64 x0, .int .i64 x1, .int .i64 x2_0, .int .i64 x2_1]) w := fun w => by kernel_rfl
theorem bs22_5_0_1_2_3_4 {x0 : Int} {x1 : Int} {x2 : Int} {x3 : Int} {x4 : Int} : ∀ w, (Instr.buildSlice 22 5 #[(0, .int .i64 x0), (1, .int .i64 x1), (2, .int .i64 x2), (3, .int .i64 x3), (4, .int .i64 x4)]).run Tryz.prog w = .ok (.slice (some ⟨w.heap.size, 0, none⟩) 5 5) (w.alloc (CB [.int .i64 x0, .int .i64 x1, .int .i64 x2, .int .i64 x3, .int .i64 x4] 3)) := fun w => by kernel_rfl
theorem bs27_4_0_1_2_3 {x0_0 : Int} {x0_1 : Int} {x0_2 : Int} {x0_3 : Int} {x1_0 : Int} {x1_1 : Int} {x1_2 : Int} {x1_3 : Int} {x2_0 : Int} {x2_1 : Int} {x2_2 : Int} {x2_3 : Int} {x3_0 : Int} {x3_1 : Int} {x3_2 : Int} {x3_3 : Int} : ∀ w, (Instr.buildSlice 27 4 #[(0, .agg #[.int .i64 x0_0, .int .i64 x0_1, .int .i64 x0_2, .int .i64 x0_3]), (1, .agg #[.int .i64 x1_0, .int .i64 x1_1, .int .i64 x1_2, .int .i64 x1_3]), (2, .agg #[.int .i64 x2_0, .int .i64 x2_1, .int .i64 x2_2, .int .i64 x2_3]), (3, .agg #[.int .i64 x3_0, .int .i64 x3_1, .int .i64 x3_2, .int .i64 x3_3])]).run Tryz.prog w = .ok (.slice (some ⟨w.heap.size, 0, none⟩) 4 4) (w.alloc (CB [.int .i64 x0_0, .int .i64 x0_1, .int .i64 x0_2, .int .i64 x0_3, .int .i64 x1_0, .int .i64 x1_1, .int .i64 x1_2, .int .i64 x1_3, .int .i64 x2_0, .int .i64 x2_1, .int .i64 x2_2, .int .i64 x2_3, .int .i64 x3_0, .int .i64 x3_1, .int .i64 x3_2, .int .i64 x3_3] 38)) := fun w => by kernel_rfl

theorem lpart_any (x y : Int) (w : World) : Ct Tryz.prog 37 #[.int .i64 x, .int .i64 y] w fun v _ => v = .agg #[.int .i64 x, .int .i64 y] := by
  have hF := wide_wide
  refine Ct_start (args := [_, _]) Tryz.func37 (by rfl) Tryz.ntmps37 (by rfl) ?_
  refine W_seq ?_
  refine W_region_lit (fun ds => ?_)
  refine WS_new hF (by rfl) (y_alloc Tryz.zeroValue50 (by rfl)) (fun b1 => ?_)
  refine WS_nil ?_
  refine Then_normal ?_
  refine W_seq ?_
  refine W_region_lit (fun ds => ?_)
  refine WS_det hF (by rfl) (y_move (c := .int .i64 _) (by rfl)) ?_
  refine WS_det hF (by rfl) (y_move (c := .int .i64 _) (by rfl)) ?_
  refine WS_det hF (by rfl) (y_buildL bd50_0_1 (by rfl)) ?_
  refine WS_store hF (i := 0) (by rfl) (by rfl) Tryz.sizeOf50 (by rfl) (by rfl) (by rfl) (by first | decide | exact Nat.le_of_ble_eq_true rfl | simp) ?_
  refine WS_nil ?_
  refine Then_normal ?_
  refine W_ret ?_
  refine Fin_ret [_] [] Tryz.results37 ⟨lvN (by rfl) Tryz.isAgg50 Tryz.sizeOf50 (Mem.own (us := [.int .i64 _, .int .i64 _]) 0 (by rfl) (by rfl)) (by rfl), trivial⟩ HSub.nil ?_
  rfl
theorem lspan_any (x y : Int) (w : World) : Ct Tryz.prog 22 #[.int .i64 x, .int .i64 y] w fun v _ => v = .agg #[.int .i64 x, .int .i64 y] := by
  have hF := wide_wide
  refine Ct_start (args := [_, _]) Tryz.func22 (by rfl) Tryz.ntmps22 (by rfl) ?_
  refine W_seq ?_
  refine W_region_lit (fun ds => ?_)
  refine WS_new hF (by rfl) (y_alloc Tryz.zeroValue26 (by rfl)) (fun b1 => ?_)
  refine WS_nil ?_
  refine Then_normal ?_
  refine W_seq ?_
  refine W_region_lit (fun ds => ?_)
  refine WS_det hF (by rfl) (y_move (c := .int .i64 _) (by rfl)) ?_
  refine WS_det hF (by rfl) (y_move (c := .int .i64 _) (by rfl)) ?_
  refine WS_det hF (by rfl) (y_buildL bd26_0_1 (by rfl)) ?_
  refine WS_store hF (i := 0) (by rfl) (by rfl) Tryz.sizeOf26 (by rfl) (by rfl) (by rfl) (by first | decide | exact Nat.le_of_ble_eq_true rfl | simp) ?_
  refine WS_nil ?_
  refine Then_normal ?_
  refine W_ret ?_
  refine Fin_ret [_] [] Tryz.results22 ⟨lvN (by rfl) Tryz.isAgg26 Tryz.sizeOf26 (Mem.own (us := [.int .i64 _, .int .i64 _]) 0 (by rfl) (by rfl)) (by rfl), trivial⟩ HSub.nil ?_
  rfl
theorem lentry_any (d k x y : Int) (w : World) : Ct Tryz.prog 15 #[.int .i64 d, .int .i64 k, .int .i64 x, .int .i64 y] w fun v _ => v = .agg #[.int .i64 d, .int .i64 k, .int .i64 x, .int .i64 y] := by
  have hF := wide_wide
  refine Ct_start (args := [_, _, _, _]) Tryz.func15 (by rfl) Tryz.ntmps15 (by rfl) ?_
  refine W_seq ?_
  refine W_region_lit (fun ds => ?_)
  refine WS_new hF (by rfl) (y_alloc Tryz.zeroValue38 (by rfl)) (fun b1 => ?_)
  refine WS_nil ?_
  refine Then_normal ?_
  refine W_seq ?_
  refine W_region_lit (fun ds => ?_)
  refine WS_det hF (by rfl) (y_move (c := .int .i64 _) (by rfl)) ?_
  refine WS_det hF (by rfl) (y_move (c := .int .i64 _) (by rfl)) ?_
  refine WS_det hF (by rfl) (y_move (c := .int .i64 _) (by rfl)) ?_
  refine WS_det hF (by rfl) (y_move (c := .int .i64 _) (by rfl)) ?_
  refine WS_det hF (by rfl) (y_callL (by rfl) (by rfl) Tryz.call22 (fun w hw => lspan_any _ _ w)) ?_
  refine WS_det hF (by rfl) (y_buildL bd38_0_1_2 (by rfl)) ?_
  refine WS_store hF (i := 0) (by rfl) (by rfl) Tryz.sizeOf38 (by rfl) (by rfl) (by rfl) (by first | decide | exact Nat.le_of_ble_eq_true rfl | simp) ?_
  refine WS_nil ?_
  refine Then_normal ?_
  refine W_ret ?_
  refine Fin_ret [_] [] Tryz.results15 ⟨lvN (by rfl) Tryz.isAgg38 Tryz.sizeOf38 (Mem.own (us := [.int .i64 _, .int .i64 _, .int .i64 _, .int .i64 _]) 0 (by rfl) (by rfl)) (by rfl), trivial⟩ HSub.nil ?_
  rfl
def tunT : Tk := ⟨[0, 10, 30, 60, 100], 2, 8⟩
def logL : Lg := ⟨tunT, ⟨20, 40⟩, [⟨0, 1, ⟨10, 15⟩⟩, ⟨3, 3, ⟨18, 20⟩⟩, ⟨5, 2, ⟨10, 20⟩⟩, ⟨5, 3, ⟨12, 16⟩⟩]⟩
def TwinT (t : Tk) (v : Value) (Hn : List Blk) : Prop := ∃ a cap, v = .agg #[.slice a t.n cap, .int .i64 t.leak, .int .i64 t.foot] ∧ NewRow 3 1 t.n (iv t.pints) (.slice a t.n cap) Hn
theorem tun_any (w : World) : Ct Tryz.prog 33 #[] w (TwinT tunT) := by
  have hF := wide_wide
  refine Ct_start (args := []) Tryz.func33 (by rfl) Tryz.ntmps33 (by rfl) ?_
  refine W_seq ?_
  refine W_region_lit (fun ds => ?_)
  refine WS_new hF (by rfl) (y_alloc Tryz.zeroValue24 (by rfl)) (fun b1 => ?_)
  refine WS_nil ?_
  refine Then_normal ?_
  refine W_seq ?_
  refine W_region_lit (fun ds => ?_)
  refine WS_newS hF (by rfl) (y_buildSliceL bs22_5_0_1_2_3_4 (by rfl)) (fun b2 => ?_)
  refine WS_det hF (by rfl) (y_buildL bd24_0_1_2 (by rfl)) ?_
  refine WS_store hF (i := 1) (by rfl) (by rfl) Tryz.sizeOf24 (by rfl) (by rfl) (by rfl) (by first | decide | exact Nat.le_of_ble_eq_true rfl | simp) ?_
  refine WS_nil ?_
  refine Then_normal ?_
  refine W_ret ?_
  refine Fin_ret [_] [(b2, _)] Tryz.results33 ⟨lvN (by rfl) Tryz.isAgg24 Tryz.sizeOf24 (Mem.own (us := [.slice _ _ _, .int .i64 _, .int .i64 _]) 1 (by rfl) (by rfl)) (by rfl), trivial⟩ (HSub.sub (by repeat (first | exact List.nil_sublist _ | apply List.Sublist.cons_cons | apply List.Sublist.cons))) ?_
  exact ⟨_, _, rfl, ⟨_, _, rfl, Nat.le_refl _, .inl ⟨by decide, b2, [], rfl, rfl, rfl⟩⟩⟩
theorem log_any (w : World) : Ct Tryz.prog 36 #[] w (TwinL logL) := by
  have hF := wide_wide
  refine Ct_start (args := []) Tryz.func36 (by rfl) Tryz.ntmps36 (by rfl) ?_
  refine W_seq ?_
  refine W_region_lit (fun ds => ?_)
  refine WS_new hF (by rfl) (y_alloc Tryz.zeroValue29 (by rfl)) (fun b1 => ?_)
  refine WS_nil ?_
  refine Then_normal ?_
  refine W_seq ?_
  refine W_region_lit (fun ds => ?_)
  refine WS_gen hF (by rfl) (y_callL (by rfl) (by rfl) Tryz.call33 (fun w hw => tun_any w)) ?_
  rintro _ Hn ⟨a, cap, rfl, hr⟩
  refine WS_back ?_
  refine WS_det hF (by rfl) (y_callL (by rfl) (by rfl) Tryz.call22 (fun w hw => lspan_any _ _ w)) ?_
  refine WS_det hF (by rfl) (y_callL (by rfl) (by rfl) Tryz.call15 (fun w hw => lentry_any _ _ _ _ w)) ?_
  refine WS_det hF (by rfl) (y_callL (by rfl) (by rfl) Tryz.call15 (fun w hw => lentry_any _ _ _ _ w)) ?_
  refine WS_det hF (by rfl) (y_callL (by rfl) (by rfl) Tryz.call15 (fun w hw => lentry_any _ _ _ _ w)) ?_
  refine WS_det hF (by rfl) (y_callL (by rfl) (by rfl) Tryz.call15 (fun w hw => lentry_any _ _ _ _ w)) ?_
  refine WS_newS hF (by rfl) (y_buildSliceL bs27_4_0_1_2_3 (by rfl)) (fun b2 => ?_)
  refine WS_det hF (by rfl) (y_buildL bd29_0_1_2 (by rfl)) ?_
  refine WS_store hF (i := 1) (by rfl) (by rfl) Tryz.sizeOf29 (by rfl) (by rfl) (by rfl) (by first | decide | exact Nat.le_of_ble_eq_true rfl | simp) ?_
  refine WS_nil ?_
  refine Then_normal ?_
  refine W_ret ?_
  refine Fin_ret [_] (Hn ++ [(b2, CB (rowOf En.cells logL.e logL.es.length) 38)]) Tryz.results36 ⟨lvN (by rfl) Tryz.isAgg29 Tryz.sizeOf29 (Mem.own (us := [.slice _ _ _, .int .i64 _, .int .i64 _, .int .i64 _, .int .i64 _, .slice _ _ _]) 1 (by rfl) (by rfl)) (by rfl), trivial⟩ (fun _ _ h => (h.sub (H' := [(b2, CB (rowOf En.cells logL.e logL.es.length) 38)] ++ Hn) (List.Sublist.cons_cons _ (List.Sublist.cons _ (List.Sublist.refl _)))).perm List.perm_append_comm) ?_
  exact ⟨_, _, _, _, _, [(b2, _)], rfl, hr, ⟨_, _, rfl, Nat.le_refl _, .inl ⟨by decide, b2, [], by rfl, by rw [List.append_nil], by rfl⟩⟩, rfl⟩
end Go.Proofs.YthkimgfgpphgnaaGreat.T

/- What the examples come to: by the kernel's own run. -/
namespace Go.Proofs.YthkimgfgpphgnaaGreat.T
open Go.RowKit Go.Proofs Go.Eng
set_option maxRecDepth 100000

theorem k_vol : tunT.volume 9 = .tuple #[.agg #[.int .i64 25, .int .i64 2], .int .i64 0] := by kernel_rfl
theorem k_eig : tunT.eighthV 35 3 = .tuple #[.agg #[.int .i64 52, .int .i64 3], .int .i64 0] := by kernel_rfl
theorem k_lb : tunT.Lb 35 3 := ⟨by decide, fun k hk => by
  obtain rfl | rfl | rfl : k = 0 ∨ k = 1 ∨ k = 2 := by omega
  all_goals decide, fun k h1 h2 => by
  have : k < 5 := h2
  obtain rfl | rfl : k = 3 ∨ k = 4 := by omega
  all_goals decide⟩
theorem k_rng : tunT.range 9 12 = .tuple #[.agg #[.int .i64 13, .int .i64 20], .int .i64 0] := by kernel_rfl
theorem k_hol : logL.holdsV 1 = .tuple #[.agg #[.int .i64 38, .int .i64 51], .int .i64 0] := by kernel_rfl
theorem k_trs : logL.trs = [23, 38, 38, 20, 20] := by kernel_rfl
theorem k_aerr : logL.aerr = 0 := by kernel_rfl
theorem k_mov : logL.movedV 3 = .tuple #[.agg #[.int .i64 10, .int .i64 20], .int .i64 0] := by kernel_rfl
theorem k_los : logL.lostV 1 = .tuple #[.agg #[.int .i64 0, .int .i64 6], .int .i64 0] := by kernel_rfl
theorem k_lea : logL.leakedV = .tuple #[.agg #[.int .i64 0, .int .i64 10], .int .i64 0] := by kernel_rfl
theorem k_sur : logL.sureV 21 = .tuple #[.int .u8 1, .int .i64 0] := by kernel_rfl
theorem k_whe : logL.whenV 38 = .tuple #[.int .i64 1, .int .i64 0] := by kernel_rfl
theorem k_rea : logL.readyV = .tuple #[.agg #[.int .i64 10, .int .i64 20], .int .i64 0] := by kernel_rfl
theorem k_roo : logL.roomV = .tuple #[.agg #[.int .i64 70, .int .i64 80], .int .i64 0] := by kernel_rfl
theorem k_ask : logL.askV = .tuple #[.int .i64 14, .int .i64 6, .int .i64 0] := by kernel_rfl
def oddX : En := ⟨5, 3, ⟨20, 24⟩⟩
def oddL : Lg := logL.put oddX
theorem k_add : logL.addE oddX = 0 := by kernel_rfl
theorem k_wrL : oddL.wrL = [5] := by kernel_rfl
theorem k_wrE : oddL.wrE = 0 := by kernel_rfl
theorem k_odd : oddL.aerr = 8 := by kernel_rfl
end Go.Proofs.YthkimgfgpphgnaaGreat.T

/- alive returns true, walked. -/
namespace Go.Proofs.YthkimgfgpphgnaaGreat.T
open Go.RowKit Go.Proofs Go.Eng
set_option maxRecDepth 100000
set_option maxHeartbeats 4000000
set_option linter.unusedVariables false
set_option linter.unusedSimpArgs false

theorem a_ep50_0 {x_0 : Int} {x_1 : Int} : ∀ w, (part 3 #[.int .i64 x_0, .int .i64 x_1] 0).run Tryz.prog w = .ok (.int .i64 x_0) w := fun w => by kernel_rfl
theorem a_ep50_1 {x_0 : Int} {x_1 : Int} : ∀ w, (part 3 #[.int .i64 x_0, .int .i64 x_1] 1).run Tryz.prog w = .ok (.int .i64 x_1) w := fun w => by kernel_rfl
theorem a_gneqA26 {x y : Operand} {x_0 : Int} {x_1 : Int} {y_0 : Int} {y_1 : Int} : ∀ w, (eqGuard .neq 26 x y (.agg #[.int .i64 x_0, .int .i64 x_1]) (.agg #[.int .i64 y_0, .int .i64 y_1])).run Tryz.prog w = .ok () w := fun w => by kernel_rfl
theorem a_gneqA50 {x y : Operand} {x_0 : Int} {x_1 : Int} {y_0 : Int} {y_1 : Int} : ∀ w, (eqGuard .neq 50 x y (.agg #[.int .i64 x_0, .int .i64 x_1]) (.agg #[.int .i64 y_0, .int .i64 y_1])).run Tryz.prog w = .ok () w := fun w => by kernel_rfl
theorem a_st50 : Tryz.prog.stoodInHeld 50 = false := by kernel_rfl
theorem eq50 {x_0 : Int} {x_1 : Int} {y_0 : Int} {y_1 : Int} : ∀ w, (Op.equalIn Op.maxDepth 50 (.agg #[.int .i64 x_0, .int .i64 x_1]) (.agg #[.int .i64 y_0, .int .i64 y_1])).run Tryz.prog w = .ok (ieq x_0 y_0 && ieq x_1 y_1) w := fun w => by
  unfold Op.maxDepth Op.equalIn
  rw [Sem.run_bind, Tryz.runUnderlying50]
  simp [a_st50, a_ep50_0, eq_int (d := 9998) Tryz.runUnderlying3, a_ep50_1, eq_int (d := 9998) Tryz.runUnderlying3]
  generalize ieq x_0 y_0 = b0
  generalize ieq x_1 y_1 = b1
  cases b0 <;> cases b1 <;> simp
theorem neqA26 {x y : Operand} {x_0 : Int} {x_1 : Int} {y_0 : Int} {y_1 : Int} : ∀ w, ((do eqGuard .neq 26 x y (.agg #[.int .i64 x_0, .int .i64 x_1]) (.agg #[.int .i64 y_0, .int .i64 y_1]); binOp .neq 26 (.agg #[.int .i64 x_0, .int .i64 x_1]) (.agg #[.int .i64 y_0, .int .i64 y_1])) : Sem Value).run Tryz.prog w = .ok (.bool (!(ieq x_0 y_0 && ieq x_1 y_1))) w := eq_topN a_gneqA26 eq26
theorem neqA50 {x y : Operand} {x_0 : Int} {x_1 : Int} {y_0 : Int} {y_1 : Int} : ∀ w, ((do eqGuard .neq 50 x y (.agg #[.int .i64 x_0, .int .i64 x_1]) (.agg #[.int .i64 y_0, .int .i64 y_1]); binOp .neq 50 (.agg #[.int .i64 x_0, .int .i64 x_1]) (.agg #[.int .i64 y_0, .int .i64 y_1])) : Sem Value).run Tryz.prog w = .ok (.bool (!(ieq x_0 y_0 && ieq x_1 y_1))) w := eq_topN a_gneqA50 eq50

theorem alive_any (w : World) : Ct Tryz.prog 10 #[] w fun v _ => v = .bool true := by
  have hF := wide_wide
  refine Ct_start (args := []) Tryz.func10 (by rfl) Tryz.ntmps10 (by rfl) ?_
  refine W_seq ?_
  refine W_region_lit (fun ds => ?_)
  refine WS_det hF (by rfl) (y_assign (c := .bool _) (by rfl)) ?_
  refine WS_nil ?_
  refine Then_normal ?_
  refine W_seq ?_
  refine W_region_lit (fun ds => ?_)
  refine WS_gen hF (by rfl) (y_callL (by rfl) (by rfl) Tryz.call33 (fun w hw => tun_any w)) ?_
  rintro _ Ht ⟨ta, tcap, rfl, hrt⟩
  refine WS_back ?_
  refine WS_det hF (by rfl) (y_callL (by rfl) (by rfl) Tryz.call25 (fun w hw => Ct_eq (volume_any tunT _ _ 9 w (by decide) (NewRow.ints hrt rfl sbA w hw)) k_vol)) ?_
  refine WS_det hF (by rfl) (y_move (c := .tuple _) (by rfl)) ?_
  refine WS_det hF (by rfl) (y_extract (c := .agg _) (by rfl) (by rfl)) ?_
  refine WS_det hF (by rfl) (y_extract (c := .int .i64 _) (by rfl) (by rfl)) ?_
  refine WS_new hF (by rfl) (y_alloc Tryz.zeroValue50 (by rfl)) (fun b1 => ?_)
  refine WS_store hF (i := 0) (by rfl) (by rfl) Tryz.sizeOf50 (by rfl) (by rfl) (by rfl) (by first | decide | exact Nat.le_of_ble_eq_true rfl | simp) ?_
  refine WS_det hF (by rfl) (y_assign (c := .int .i64 _) (by rfl)) ?_
  refine WS_nil ?_
  refine Then_normal ?_
  refine W_seq ?_
  refine W_region_lit (fun ds => ?_)
  refine WS_gen hF (by rfl) (y_callL (by rfl) (by rfl) Tryz.call33 (fun w hw => tun_any w)) ?_
  rintro _ Ht ⟨ta, tcap, rfl, hrt⟩
  refine WS_back ?_
  refine WS_det hF (by rfl) (y_callL (by rfl) (by rfl) Tryz.call34 (fun w hw => Ct_eq (eighth_any tunT _ _ 35 3 w (by decide) (NewRow.ints hrt rfl sbA w hw) (fun _ => k_lb)) k_eig)) ?_
  refine WS_det hF (by rfl) (y_move (c := .tuple _) (by rfl)) ?_
  refine WS_det hF (by rfl) (y_extract (c := .agg _) (by rfl) (by rfl)) ?_
  refine WS_det hF (by rfl) (y_extract (c := .int .i64 _) (by rfl) (by rfl)) ?_
  refine WS_new hF (by rfl) (y_alloc Tryz.zeroValue50 (by rfl)) (fun b2 => ?_)
  refine WS_store hF (i := 0) (by rfl) (by rfl) Tryz.sizeOf50 (by rfl) (by rfl) (by rfl) (by first | decide | exact Nat.le_of_ble_eq_true rfl | simp) ?_
  refine WS_det hF (by rfl) (y_assign (c := .int .i64 _) (by rfl)) ?_
  refine WS_nil ?_
  refine Then_normal ?_
  refine W_seq ?_
  refine W_region_lit (fun ds => ?_)
  refine WS_gen hF (by rfl) (y_callL (by rfl) (by rfl) Tryz.call33 (fun w hw => tun_any w)) ?_
  rintro _ Ht ⟨ta, tcap, rfl, hrt⟩
  refine WS_back ?_
  refine WS_det hF (by rfl) (y_callL (by rfl) (by rfl) Tryz.call22 (fun w hw => lspan_any _ _ w)) ?_
  refine WS_det hF (by rfl) (y_callL (by rfl) (by rfl) Tryz.call35 (fun w hw => Ct_eq (range_any tunT _ _ 9 12 w (by decide) (NewRow.ints hrt rfl sbA w hw)) k_rng)) ?_
  refine WS_det hF (by rfl) (y_move (c := .tuple _) (by rfl)) ?_
  refine WS_det hF (by rfl) (y_extract (c := .agg _) (by rfl) (by rfl)) ?_
  refine WS_det hF (by rfl) (y_extract (c := .int .i64 _) (by rfl) (by rfl)) ?_
  refine WS_new hF (by rfl) (y_alloc Tryz.zeroValue26 (by rfl)) (fun b3 => ?_)
  refine WS_store hF (i := 0) (by rfl) (by rfl) Tryz.sizeOf26 (by rfl) (by rfl) (by rfl) (by first | decide | exact Nat.le_of_ble_eq_true rfl | simp) ?_
  refine WS_det hF (by rfl) (y_assign (c := .int .i64 _) (by rfl)) ?_
  refine WS_nil ?_
  refine Then_normal ?_
  refine W_seq ?_
  refine W_region_lit (fun ds => ?_)
  refine WS_gen hF (by rfl) (y_callL (by rfl) (by rfl) Tryz.call36 (fun w hw => log_any w)) ?_
  rintro _ _ ⟨a1, cap1, ae1, cape1, Hp, He, rfl, hrp, hre, rfl⟩
  refine WS_back ?_
  refine WS_det hF (by rfl) (y_callL (by rfl) (by rfl) Tryz.call12 (fun w hw => Ct_eq (holds_any logL _ _ _ _ 1 w (by decide) (NewRow.ints hrp rfl sbA w hw) (NewRow.rws en_len hre rfl sbA w hw)) k_hol)) ?_
  refine WS_det hF (by rfl) (y_move (c := .tuple _) (by rfl)) ?_
  refine WS_det hF (by rfl) (y_extract (c := .agg _) (by rfl) (by rfl)) ?_
  refine WS_det hF (by rfl) (y_extract (c := .int .i64 _) (by rfl) (by rfl)) ?_
  refine WS_new hF (by rfl) (y_alloc Tryz.zeroValue26 (by rfl)) (fun b4 => ?_)
  refine WS_store hF (i := 0) (by rfl) (by rfl) Tryz.sizeOf26 (by rfl) (by rfl) (by rfl) (by first | decide | exact Nat.le_of_ble_eq_true rfl | simp) ?_
  refine WS_det hF (by rfl) (y_assign (c := .int .i64 _) (by rfl)) ?_
  refine WS_nil ?_
  refine Then_normal ?_
  refine W_seq ?_
  refine W_region_lit (fun ds => ?_)
  refine WS_gen hF (by rfl) (y_callL (by rfl) (by rfl) Tryz.call36 (fun w hw => log_any w)) ?_
  rintro _ _ ⟨a1, cap1, ae1, cape1, Hp, He, rfl, hrp, hre, rfl⟩
  refine WS_back ?_
  refine WS_gen hF (by rfl) (y_callL (by rfl) (by rfl) Tryz.call31 (fun w hw => truth_any logL _ _ _ _ w (by decide) (NewRow.ints hrp rfl sbA w hw) (NewRow.rws en_len hre rfl sbA w hw))) ?_
  rintro _ Hb hTb
  obtain ⟨tb, tcap2, rfl, htb⟩ := truth_ints hTb
  rw [k_trs, k_aerr] at *
  refine WS_back ?_
  refine WS_det hF (by rfl) (y_move (c := .tuple _) (by rfl)) ?_
  refine WS_det hF (by rfl) (y_extract (c := .slice _ _ _) (by rfl) (by rfl)) ?_
  refine WS_det hF (by rfl) (y_extract (c := .int .i64 _) (by rfl) (by rfl)) ?_
  refine WS_det hF (by rfl) (y_assign (c := .slice _ _ _) (by rfl)) ?_
  refine WS_det hF (by rfl) (y_assign (c := .int .i64 _) (by rfl)) ?_
  refine WS_nil ?_
  refine Then_normal ?_
  refine W_seq ?_
  refine W_region_lit (fun ds => ?_)
  refine WS_gen hF (by rfl) (y_callL (by rfl) (by rfl) Tryz.call36 (fun w hw => log_any w)) ?_
  rintro _ _ ⟨a1, cap1, ae1, cape1, Hp, He, rfl, hrp, hre, rfl⟩
  refine WS_back ?_
  refine WS_det hF (by rfl) (y_callL (by rfl) (by rfl) Tryz.call16 (fun w hw => Ct_eq (moved_any logL _ _ _ _ 3 w (by decide) (NewRow.ints hrp rfl sbA w hw) (NewRow.rws en_len hre rfl sbA w hw)) k_mov)) ?_
  refine WS_det hF (by rfl) (y_move (c := .tuple _) (by rfl)) ?_
  refine WS_det hF (by rfl) (y_extract (c := .agg _) (by rfl) (by rfl)) ?_
  refine WS_det hF (by rfl) (y_extract (c := .int .i64 _) (by rfl) (by rfl)) ?_
  refine WS_new hF (by rfl) (y_alloc Tryz.zeroValue26 (by rfl)) (fun b5 => ?_)
  refine WS_store hF (i := 0) (by rfl) (by rfl) Tryz.sizeOf26 (by rfl) (by rfl) (by rfl) (by first | decide | exact Nat.le_of_ble_eq_true rfl | simp) ?_
  refine WS_det hF (by rfl) (y_assign (c := .int .i64 _) (by rfl)) ?_
  refine WS_nil ?_
  refine Then_normal ?_
  refine W_seq ?_
  refine W_region_lit (fun ds => ?_)
  refine WS_gen hF (by rfl) (y_callL (by rfl) (by rfl) Tryz.call36 (fun w hw => log_any w)) ?_
  rintro _ _ ⟨a1, cap1, ae1, cape1, Hp, He, rfl, hrp, hre, rfl⟩
  refine WS_back ?_
  refine WS_det hF (by rfl) (y_callL (by rfl) (by rfl) Tryz.call17 (fun w hw => Ct_eq (lost_any logL _ _ _ _ 1 w (by decide) (NewRow.ints hrp rfl sbA w hw) (NewRow.rws en_len hre rfl sbA w hw)) k_los)) ?_
  refine WS_det hF (by rfl) (y_move (c := .tuple _) (by rfl)) ?_
  refine WS_det hF (by rfl) (y_extract (c := .agg _) (by rfl) (by rfl)) ?_
  refine WS_det hF (by rfl) (y_extract (c := .int .i64 _) (by rfl) (by rfl)) ?_
  refine WS_new hF (by rfl) (y_alloc Tryz.zeroValue26 (by rfl)) (fun b6 => ?_)
  refine WS_store hF (i := 0) (by rfl) (by rfl) Tryz.sizeOf26 (by rfl) (by rfl) (by rfl) (by first | decide | exact Nat.le_of_ble_eq_true rfl | simp) ?_
  refine WS_det hF (by rfl) (y_assign (c := .int .i64 _) (by rfl)) ?_
  refine WS_nil ?_
  refine Then_normal ?_
  refine W_seq ?_
  refine W_region_lit (fun ds => ?_)
  refine WS_gen hF (by rfl) (y_callL (by rfl) (by rfl) Tryz.call36 (fun w hw => log_any w)) ?_
  rintro _ _ ⟨a1, cap1, ae1, cape1, Hp, He, rfl, hrp, hre, rfl⟩
  refine WS_back ?_
  refine WS_det hF (by rfl) (y_callL (by rfl) (by rfl) Tryz.call21 (fun w hw => Ct_eq (leaked_any logL _ _ _ _ w (by decide) (NewRow.ints hrp rfl sbA w hw) (NewRow.rws en_len hre rfl sbA w hw)) k_lea)) ?_
  refine WS_det hF (by rfl) (y_move (c := .tuple _) (by rfl)) ?_
  refine WS_det hF (by rfl) (y_extract (c := .agg _) (by rfl) (by rfl)) ?_
  refine WS_det hF (by rfl) (y_extract (c := .int .i64 _) (by rfl) (by rfl)) ?_
  refine WS_new hF (by rfl) (y_alloc Tryz.zeroValue26 (by rfl)) (fun b7 => ?_)
  refine WS_store hF (i := 0) (by rfl) (by rfl) Tryz.sizeOf26 (by rfl) (by rfl) (by rfl) (by first | decide | exact Nat.le_of_ble_eq_true rfl | simp) ?_
  refine WS_det hF (by rfl) (y_assign (c := .int .i64 _) (by rfl)) ?_
  refine WS_nil ?_
  refine Then_normal ?_
  refine W_seq ?_
  refine W_seq ?_
  refine W_draw0 hF Tryzmixed [] (by decide +kernel) (fun ds => ?_)
  refine P_det (by rfl) (Over_nil (y_move (c := .int .i64 _) (by rfl))) ?_
  refine P_det (by rfl) (Over_nil (y_neqF (by rfl) (by rfl))) ?_
  refine P_det (by rfl) (Over_nil (y_move (c := .bool _) (by rfl))) ?_
  refine P_det (by rfl) (Over_nil (y_loadN (by rfl) Tryz.isAgg50 Tryz.sizeOf50 (Mem.own (us := [.int .i64 _, .int .i64 _]) 6 (by rfl) (by rfl)) (by rfl))) ?_
  refine P_det (by rfl) (Over_nil (y_callL (by rfl) (by rfl) Tryz.call37 (fun w hw => lpart_any _ _ w))) ?_
  refine P_det (by rfl) (Over_nil (y_neqlAF (by rfl) (by rfl) neqA50 (by simp only [ieq_self, Bool.and_self, Bool.not_true]))) ?_
  refine P_det (by rfl) (Over_nil (by first | exact y_pick_t (c := .bool _) (by rfl) (by rfl) | exact y_pick_f (c := .bool _) (by rfl) (by rfl))) ?_
  refine P_det (by rfl) (Over_nil (y_move (c := .bool _) (by rfl))) ?_
  refine P_det (by rfl) (Over_nil (y_move (c := .int .i64 _) (by rfl))) ?_
  refine P_det (by rfl) (Over_nil (y_neqF (by rfl) (by rfl))) ?_
  refine P_det (by rfl) (Over_nil (by first | exact y_pick_t (c := .bool _) (by rfl) (by rfl) | exact y_pick_f (c := .bool _) (by rfl) (by rfl))) ?_
  refine P_det (by rfl) (Over_nil (y_move (c := .bool _) (by rfl))) ?_
  refine P_det (by rfl) (Over_nil (y_loadN (by rfl) Tryz.isAgg50 Tryz.sizeOf50 (Mem.own (us := [.int .i64 _, .int .i64 _]) 5 (by rfl) (by rfl)) (by rfl))) ?_
  refine P_det (by rfl) (Over_nil (y_callL (by rfl) (by rfl) Tryz.call37 (fun w hw => lpart_any _ _ w))) ?_
  refine P_det (by rfl) (Over_nil (y_neqlAF (by rfl) (by rfl) neqA50 (by simp only [ieq_self, Bool.and_self, Bool.not_true]))) ?_
  refine P_det (by rfl) (Over_nil (by first | exact y_pick_t (c := .bool _) (by rfl) (by rfl) | exact y_pick_f (c := .bool _) (by rfl) (by rfl))) ?_
  refine P_det (by rfl) (Over_nil (y_move (c := .bool _) (by rfl))) ?_
  refine P_det (by rfl) (Over_nil (y_move (c := .int .i64 _) (by rfl))) ?_
  refine P_det (by rfl) (Over_nil (y_neqF (by rfl) (by rfl))) ?_
  refine P_det (by rfl) (Over_nil (by first | exact y_pick_t (c := .bool _) (by rfl) (by rfl) | exact y_pick_f (c := .bool _) (by rfl) (by rfl))) ?_
  refine P_det (by rfl) (Over_nil (y_move (c := .bool _) (by rfl))) ?_
  refine P_det (by rfl) (Over_nil (y_loadN (by rfl) Tryz.isAgg26 Tryz.sizeOf26 (Mem.own (us := [.int .i64 _, .int .i64 _]) 4 (by rfl) (by rfl)) (by rfl))) ?_
  refine P_det (by rfl) (Over_nil (y_callL (by rfl) (by rfl) Tryz.call22 (fun w hw => lspan_any _ _ w))) ?_
  refine P_det (by rfl) (Over_nil (y_neqlAF (by rfl) (by rfl) neqA26 (by simp only [ieq_self, Bool.and_self, Bool.not_true]))) ?_
  refine P_det (by rfl) (Over_nil (by first | exact y_pick_t (c := .bool _) (by rfl) (by rfl) | exact y_pick_f (c := .bool _) (by rfl) (by rfl))) ?_
  refine P_det (by rfl) (Over_nil (y_move (c := .bool _) (by rfl))) ?_
  refine P_det (by rfl) (Over_nil (y_move (c := .int .i64 _) (by rfl))) ?_
  refine P_det (by rfl) (Over_nil (y_neqF (by rfl) (by rfl))) ?_
  refine P_det (by rfl) (Over_nil (by first | exact y_pick_t (c := .bool _) (by rfl) (by rfl) | exact y_pick_f (c := .bool _) (by rfl) (by rfl))) ?_
  refine P_det (by rfl) (Over_nil (y_move (c := .bool _) (by rfl))) ?_
  refine P_det (by rfl) (Over_nil (y_loadN (by rfl) Tryz.isAgg26 Tryz.sizeOf26 (Mem.own (us := [.int .i64 _, .int .i64 _]) 3 (by rfl) (by rfl)) (by rfl))) ?_
  refine P_det (by rfl) (Over_nil (y_callL (by rfl) (by rfl) Tryz.call22 (fun w hw => lspan_any _ _ w))) ?_
  refine P_det (by rfl) (Over_nil (y_neqlAF (by rfl) (by rfl) neqA26 (by simp only [ieq_self, Bool.and_self, Bool.not_true]))) ?_
  refine P_det (by rfl) (Over_nil (by first | exact y_pick_t (c := .bool _) (by rfl) (by rfl) | exact y_pick_f (c := .bool _) (by rfl) (by rfl))) ?_
  refine P_det (by rfl) (Over_nil (y_move (c := .bool _) (by rfl))) ?_
  refine P_det (by rfl) (Over_nil (y_move (c := .int .i64 _) (by rfl))) ?_
  refine P_det (by rfl) (Over_nil (y_neqF (by rfl) (by rfl))) ?_
  refine P_det (by rfl) (Over_nil (by first | exact y_pick_t (c := .bool _) (by rfl) (by rfl) | exact y_pick_f (c := .bool _) (by rfl) (by rfl))) ?_
  refine P_det (by rfl) (Over_nil (y_move (c := .bool _) (by rfl))) ?_
  refine P_det (by rfl) (Over_nil (y_move (c := .slice _ _ _) (by rfl))) ?_
  refine P_new (by rfl) (by rfl) (Over_nil (y_buildSliceL bs22_5_0_1_2_3_4 (by rfl))) ?_
  refine P_det (by rfl) (Over_in (by rfl) (Over_nil (by rintro _ _ ⟨b9, rfl, rfl⟩; exact (y_callL (by rfl) (by rfl) Tryz.call38 (fun w hw => Ct_eq (c' := .bool true) (sameInts_any _ _ _ _ _ _ [23, 38, 38, 20, 20] [23, 38, 38, 20, 20] w (by decide) (htb _ _ w sbA hw) (Ints.mem (rest := []) 0 (by rfl) (by rfl) (by decide) w hw)) (by simp)))))) ?_
  refine P_det (by rfl) (Over_out (by rfl) (Over_nil (y_not (by rfl)))) ?_
  refine P_det (by rfl) (Over_out (by rfl) (Over_nil (by first | exact y_pick_t (c := .bool _) (by rfl) (by rfl) | exact y_pick_f (c := .bool _) (by rfl) (by rfl)))) ?_
  refine P_det (by rfl) (Over_out (by rfl) (Over_nil (y_move (c := .bool _) (by rfl)))) ?_
  refine P_det (by rfl) (Over_out (by rfl) (Over_nil (y_move (c := .int .i64 _) (by rfl)))) ?_
  refine P_det (by rfl) (Over_out (by rfl) (Over_nil (y_neqF (by rfl) (by rfl)))) ?_
  refine P_det (by rfl) (Over_out (by rfl) (Over_nil (by first | exact y_pick_t (c := .bool _) (by rfl) (by rfl) | exact y_pick_f (c := .bool _) (by rfl) (by rfl)))) ?_
  refine P_det (by rfl) (Over_out (by rfl) (Over_nil (y_move (c := .bool _) (by rfl)))) ?_
  refine P_det (by rfl) (Over_out (by rfl) (Over_nil (y_loadN (by rfl) Tryz.isAgg26 Tryz.sizeOf26 (Mem.own (us := [.int .i64 _, .int .i64 _]) 2 (by rfl) (by rfl)) (by rfl)))) ?_
  refine P_det (by rfl) (Over_out (by rfl) (Over_nil (y_callL (by rfl) (by rfl) Tryz.call22 (fun w hw => lspan_any _ _ w)))) ?_
  refine P_det (by rfl) (Over_out (by rfl) (Over_nil (y_neqlAF (by rfl) (by rfl) neqA26 (by simp only [ieq_self, Bool.and_self, Bool.not_true])))) ?_
  refine P_det (by rfl) (Over_out (by rfl) (Over_nil (by first | exact y_pick_t (c := .bool _) (by rfl) (by rfl) | exact y_pick_f (c := .bool _) (by rfl) (by rfl)))) ?_
  refine P_det (by rfl) (Over_out (by rfl) (Over_nil (y_move (c := .bool _) (by rfl)))) ?_
  refine P_det (by rfl) (Over_out (by rfl) (Over_nil (y_move (c := .int .i64 _) (by rfl)))) ?_
  refine P_det (by rfl) (Over_out (by rfl) (Over_nil (y_neqF (by rfl) (by rfl)))) ?_
  refine P_det (by rfl) (Over_out (by rfl) (Over_nil (by first | exact y_pick_t (c := .bool _) (by rfl) (by rfl) | exact y_pick_f (c := .bool _) (by rfl) (by rfl)))) ?_
  refine P_det (by rfl) (Over_out (by rfl) (Over_nil (y_move (c := .bool _) (by rfl)))) ?_
  refine P_det (by rfl) (Over_out (by rfl) (Over_nil (y_loadN (by rfl) Tryz.isAgg26 Tryz.sizeOf26 (Mem.own (us := [.int .i64 _, .int .i64 _]) 1 (by rfl) (by rfl)) (by rfl)))) ?_
  refine P_det (by rfl) (Over_out (by rfl) (Over_nil (y_callL (by rfl) (by rfl) Tryz.call22 (fun w hw => lspan_any _ _ w)))) ?_
  refine P_det (by rfl) (Over_out (by rfl) (Over_nil (y_neqlAF (by rfl) (by rfl) neqA26 (by simp only [ieq_self, Bool.and_self, Bool.not_true])))) ?_
  refine P_det (by rfl) (Over_out (by rfl) (Over_nil (by first | exact y_pick_t (c := .bool _) (by rfl) (by rfl) | exact y_pick_f (c := .bool _) (by rfl) (by rfl)))) ?_
  refine P_det (by rfl) (Over_out (by rfl) (Over_nil (y_move (c := .bool _) (by rfl)))) ?_
  refine P_det (by rfl) (Over_out (by rfl) (Over_nil (y_move (c := .int .i64 _) (by rfl)))) ?_
  refine P_det (by rfl) (Over_out (by rfl) (Over_nil (y_neqF (by rfl) (by rfl)))) ?_
  refine P_det (by rfl) (Over_out (by rfl) (Over_nil (by first | exact y_pick_t (c := .bool _) (by rfl) (by rfl) | exact y_pick_f (c := .bool _) (by rfl) (by rfl)))) ?_
  refine P_det (by rfl) (Over_out (by rfl) (Over_nil (y_move (c := .bool _) (by rfl)))) ?_
  refine P_det (by rfl) (Over_out (by rfl) (Over_nil (y_loadN (by rfl) Tryz.isAgg26 Tryz.sizeOf26 (Mem.own (us := [.int .i64 _, .int .i64 _]) 0 (by rfl) (by rfl)) (by rfl)))) ?_
  refine P_det (by rfl) (Over_out (by rfl) (Over_nil (y_callL (by rfl) (by rfl) Tryz.call22 (fun w hw => lspan_any _ _ w)))) ?_
  refine P_det (by rfl) (Over_out (by rfl) (Over_nil (y_neqlAF (by rfl) (by rfl) neqA26 (by simp only [ieq_self, Bool.and_self, Bool.not_true])))) ?_
  refine P_det (by rfl) (Over_out (by rfl) (Over_nil (by first | exact y_pick_t (c := .bool _) (by rfl) (by rfl) | exact y_pick_f (c := .bool _) (by rfl) (by rfl)))) ?_
  refine PW_end (by rfl) ?_
  refine OverAll_cons (fun w106 l106 => ?_)
  refine OverAll_nil ?_
  rintro ⟨-, h106⟩
  obtain ⟨b8, rfl, rfl⟩ := h106
  refine Then_normal ?_
  refine W_cond (by rfl) (fun c9 => ?_) (fun c9 => ?_)
  · cases c9
  ·
    try simp only [Bool.not_eq_true', Bool.not_eq_false', decide_eq_true_eq, decide_eq_false_iff_not, ne_eq, Classical.not_not, Int.not_lt, Int.not_le] at c9
    refine W_skip ?_
    refine Then_normal ?_
    refine W_seq ?_
    refine W_region_lit (fun ds => ?_)
    refine WS_gen hF (by rfl) (y_callL (by rfl) (by rfl) Tryz.call36 (fun w hw => log_any w)) ?_
    rintro _ _ ⟨a1, cap1, ae1, cape1, Hp, He, rfl, hrp, hre, rfl⟩
    refine WS_back ?_
    refine WS_det hF (by rfl) (y_callL (by rfl) (by rfl) Tryz.call26 (fun w hw => Ct_eq (sure_any logL _ _ _ _ 21 w (by decide) (NewRow.ints hrp rfl sbA w hw) (NewRow.rws en_len hre rfl sbA w hw)) k_sur)) ?_
    refine WS_det hF (by rfl) (y_move (c := .tuple _) (by rfl)) ?_
    refine WS_det hF (by rfl) (y_extract (c := .int .u8 _) (by rfl) (by rfl)) ?_
    refine WS_det hF (by rfl) (y_extract (c := .int .i64 _) (by rfl) (by rfl)) ?_
    refine WS_det hF (by rfl) (y_assign (c := .int .u8 _) (by rfl)) ?_
    refine WS_det hF (by rfl) (y_assign (c := .int .i64 _) (by rfl)) ?_
    refine WS_nil ?_
    refine Then_normal ?_
    refine W_seq ?_
    refine W_region_lit (fun ds => ?_)
    refine WS_gen hF (by rfl) (y_callL (by rfl) (by rfl) Tryz.call36 (fun w hw => log_any w)) ?_
    rintro _ _ ⟨a1, cap1, ae1, cape1, Hp, He, rfl, hrp, hre, rfl⟩
    refine WS_back ?_
    refine WS_det hF (by rfl) (y_callL (by rfl) (by rfl) Tryz.call27 (fun w hw => Ct_eq (when_any logL _ _ _ _ 38 w (by decide) (NewRow.ints hrp rfl sbA w hw) (NewRow.rws en_len hre rfl sbA w hw)) k_whe)) ?_
    refine WS_det hF (by rfl) (y_move (c := .tuple _) (by rfl)) ?_
    refine WS_det hF (by rfl) (y_extract (c := .int .i64 _) (by rfl) (by rfl)) ?_
    refine WS_det hF (by rfl) (y_extract (c := .int .i64 _) (by rfl) (by rfl)) ?_
    refine WS_det hF (by rfl) (y_assign (c := .int .i64 _) (by rfl)) ?_
    refine WS_det hF (by rfl) (y_assign (c := .int .i64 _) (by rfl)) ?_
    refine WS_nil ?_
    refine Then_normal ?_
    refine W_seq ?_
    refine W_region_lit (fun ds => ?_)
    refine WS_gen hF (by rfl) (y_callL (by rfl) (by rfl) Tryz.call36 (fun w hw => log_any w)) ?_
    rintro _ _ ⟨a1, cap1, ae1, cape1, Hp, He, rfl, hrp, hre, rfl⟩
    refine WS_back ?_
    refine WS_det hF (by rfl) (y_callL (by rfl) (by rfl) Tryz.call28 (fun w hw => Ct_eq (ready_any logL _ _ _ _ w (by decide) (NewRow.ints hrp rfl sbA w hw) (NewRow.rws en_len hre rfl sbA w hw)) k_rea)) ?_
    refine WS_det hF (by rfl) (y_move (c := .tuple _) (by rfl)) ?_
    refine WS_det hF (by rfl) (y_extract (c := .agg _) (by rfl) (by rfl)) ?_
    refine WS_det hF (by rfl) (y_extract (c := .int .i64 _) (by rfl) (by rfl)) ?_
    refine WS_new hF (by rfl) (y_alloc Tryz.zeroValue26 (by rfl)) (fun b10 => ?_)
    refine WS_store hF (i := 0) (by rfl) (by rfl) Tryz.sizeOf26 (by rfl) (by rfl) (by rfl) (by first | decide | exact Nat.le_of_ble_eq_true rfl | simp) ?_
    refine WS_det hF (by rfl) (y_assign (c := .int .i64 _) (by rfl)) ?_
    refine WS_nil ?_
    refine Then_normal ?_
    refine W_seq ?_
    refine W_region_lit (fun ds => ?_)
    refine WS_gen hF (by rfl) (y_callL (by rfl) (by rfl) Tryz.call36 (fun w hw => log_any w)) ?_
    rintro _ _ ⟨a1, cap1, ae1, cape1, Hp, He, rfl, hrp, hre, rfl⟩
    refine WS_back ?_
    refine WS_det hF (by rfl) (y_callL (by rfl) (by rfl) Tryz.call29 (fun w hw => Ct_eq (room_any logL _ _ _ _ w (by decide) (NewRow.ints hrp rfl sbA w hw) (NewRow.rws en_len hre rfl sbA w hw)) k_roo)) ?_
    refine WS_det hF (by rfl) (y_move (c := .tuple _) (by rfl)) ?_
    refine WS_det hF (by rfl) (y_extract (c := .agg _) (by rfl) (by rfl)) ?_
    refine WS_det hF (by rfl) (y_extract (c := .int .i64 _) (by rfl) (by rfl)) ?_
    refine WS_new hF (by rfl) (y_alloc Tryz.zeroValue26 (by rfl)) (fun b11 => ?_)
    refine WS_store hF (i := 0) (by rfl) (by rfl) Tryz.sizeOf26 (by rfl) (by rfl) (by rfl) (by first | decide | exact Nat.le_of_ble_eq_true rfl | simp) ?_
    refine WS_det hF (by rfl) (y_assign (c := .int .i64 _) (by rfl)) ?_
    refine WS_nil ?_
    refine Then_normal ?_
    refine W_seq ?_
    refine W_region_lit (fun ds => ?_)
    refine WS_gen hF (by rfl) (y_callL (by rfl) (by rfl) Tryz.call36 (fun w hw => log_any w)) ?_
    rintro _ _ ⟨a1, cap1, ae1, cape1, Hp, He, rfl, hrp, hre, rfl⟩
    refine WS_back ?_
    refine WS_det hF (by rfl) (y_callL (by rfl) (by rfl) Tryz.call23 (fun w hw => Ct_eq (ask_any logL _ _ _ _ w (by decide) (NewRow.ints hrp rfl sbA w hw) (NewRow.rws en_len hre rfl sbA w hw)) k_ask)) ?_
    refine WS_det hF (by rfl) (y_move (c := .tuple _) (by rfl)) ?_
    refine WS_det hF (by rfl) (y_extract (c := .int .i64 _) (by rfl) (by rfl)) ?_
    refine WS_det hF (by rfl) (y_extract (c := .int .i64 _) (by rfl) (by rfl)) ?_
    refine WS_det hF (by rfl) (y_extract (c := .int .i64 _) (by rfl) (by rfl)) ?_
    refine WS_det hF (by rfl) (y_assign (c := .int .i64 _) (by rfl)) ?_
    refine WS_det hF (by rfl) (y_assign (c := .int .i64 _) (by rfl)) ?_
    refine WS_det hF (by rfl) (y_assign (c := .int .i64 _) (by rfl)) ?_
    refine WS_nil ?_
    refine Then_normal ?_
    refine W_seq ?_
    refine W_region_lit (fun ds => ?_)
    refine WS_gen hF (by rfl) (y_callL (by rfl) (by rfl) Tryz.call36 (fun w hw => log_any w)) ?_
    rintro _ _ ⟨a1, cap1, ae1, cape1, Hp, He, rfl, hrp, hre, rfl⟩
    refine WS_back ?_
    refine WS_det hF (by rfl) (y_callL (by rfl) (by rfl) Tryz.call15 (fun w hw => lentry_any _ _ _ _ w)) ?_
    refine WS_gen hF (by rfl) (y_callL (by rfl) (by rfl) Tryz.call19 (fun w hw => add_any logL _ _ _ _ oddX w (by decide) (NewRow.ints hrp rfl sbA w hw) (NewRow.rws en_len hre rfl sbA w hw))) ?_
    rintro _ _ hT
    obtain ⟨_, rfl, _, hT2⟩ := hT
    obtain ⟨o1, oc1, o2, oc2, Ho1, Ho2, rfl, ho1, ho2, rfl⟩ := hT2 k_add
    rw [k_add]
    refine WS_back ?_
    refine WS_det hF (by rfl) (y_move (c := .tuple _) (by rfl)) ?_
    refine WS_det hF (by rfl) (y_extract (c := .agg _) (by rfl) (by rfl)) ?_
    refine WS_det hF (by rfl) (y_extract (c := .int .i64 _) (by rfl) (by rfl)) ?_
    refine WS_new hF (by rfl) (y_alloc Tryz.zeroValue29 (by rfl)) (fun b12 => ?_)
    refine WS_store hF (i := 0) (by rfl) (by rfl) Tryz.sizeOf29 (by rfl) (by rfl) (by rfl) (by first | decide | exact Nat.le_of_ble_eq_true rfl | simp) ?_
    refine WS_det hF (by rfl) (y_assign (c := .int .i64 _) (by rfl)) ?_
    refine WS_nil ?_
    refine Then_normal ?_
    refine W_seq ?_
    refine W_seq ?_
    refine W_draw0 hF Tryzmixed [] (by decide +kernel) (fun ds => ?_)
    refine P_det (by rfl) (Over_nil (y_move (c := .int .i64 _) (by rfl))) ?_
    refine P_det (by rfl) (Over_nil (y_neqF (by rfl) (by rfl))) ?_
    refine P_det (by rfl) (Over_nil (y_move (c := .bool _) (by rfl))) ?_
    refine P_det (by rfl) (Over_nil (y_move (c := .int .u8 _) (by rfl))) ?_
    refine P_det (by rfl) (Over_nil (y_neqF (by rfl) (by rfl))) ?_
    refine P_det (by rfl) (Over_nil (by first | exact y_pick_t (c := .bool _) (by rfl) (by rfl) | exact y_pick_f (c := .bool _) (by rfl) (by rfl))) ?_
    refine P_det (by rfl) (Over_nil (y_move (c := .bool _) (by rfl))) ?_
    refine P_det (by rfl) (Over_nil (y_move (c := .int .i64 _) (by rfl))) ?_
    refine P_det (by rfl) (Over_nil (y_neqF (by rfl) (by rfl))) ?_
    refine P_det (by rfl) (Over_nil (by first | exact y_pick_t (c := .bool _) (by rfl) (by rfl) | exact y_pick_f (c := .bool _) (by rfl) (by rfl))) ?_
    refine P_det (by rfl) (Over_nil (y_move (c := .bool _) (by rfl))) ?_
    refine P_det (by rfl) (Over_nil (y_move (c := .int .i64 _) (by rfl))) ?_
    refine P_det (by rfl) (Over_nil (y_neqF (by rfl) (by rfl))) ?_
    refine P_det (by rfl) (Over_nil (by first | exact y_pick_t (c := .bool _) (by rfl) (by rfl) | exact y_pick_f (c := .bool _) (by rfl) (by rfl))) ?_
    refine P_det (by rfl) (Over_nil (y_move (c := .bool _) (by rfl))) ?_
    refine P_det (by rfl) (Over_nil (y_move (c := .int .i64 _) (by rfl))) ?_
    refine P_det (by rfl) (Over_nil (y_neqF (by rfl) (by rfl))) ?_
    refine P_det (by rfl) (Over_nil (by first | exact y_pick_t (c := .bool _) (by rfl) (by rfl) | exact y_pick_f (c := .bool _) (by rfl) (by rfl))) ?_
    refine P_det (by rfl) (Over_nil (y_move (c := .bool _) (by rfl))) ?_
    refine P_det (by rfl) (Over_nil (y_loadN (by rfl) Tryz.isAgg26 Tryz.sizeOf26 (Mem.own (us := [.int .i64 _, .int .i64 _]) 2 (by rfl) (by rfl)) (by rfl))) ?_
    refine P_det (by rfl) (Over_nil (y_callL (by rfl) (by rfl) Tryz.call22 (fun w hw => lspan_any _ _ w))) ?_
    refine P_det (by rfl) (Over_nil (y_neqlAF (by rfl) (by rfl) neqA26 (by simp only [ieq_self, Bool.and_self, Bool.not_true]))) ?_
    refine P_det (by rfl) (Over_nil (by first | exact y_pick_t (c := .bool _) (by rfl) (by rfl) | exact y_pick_f (c := .bool _) (by rfl) (by rfl))) ?_
    refine P_det (by rfl) (Over_nil (y_move (c := .bool _) (by rfl))) ?_
    refine P_det (by rfl) (Over_nil (y_move (c := .int .i64 _) (by rfl))) ?_
    refine P_det (by rfl) (Over_nil (y_neqF (by rfl) (by rfl))) ?_
    refine P_det (by rfl) (Over_nil (by first | exact y_pick_t (c := .bool _) (by rfl) (by rfl) | exact y_pick_f (c := .bool _) (by rfl) (by rfl))) ?_
    refine P_det (by rfl) (Over_nil (y_move (c := .bool _) (by rfl))) ?_
    refine P_det (by rfl) (Over_nil (y_loadN (by rfl) Tryz.isAgg26 Tryz.sizeOf26 (Mem.own (us := [.int .i64 _, .int .i64 _]) 1 (by rfl) (by rfl)) (by rfl))) ?_
    refine P_det (by rfl) (Over_nil (y_callL (by rfl) (by rfl) Tryz.call22 (fun w hw => lspan_any _ _ w))) ?_
    refine P_det (by rfl) (Over_nil (y_neqlAF (by rfl) (by rfl) neqA26 (by simp only [ieq_self, Bool.and_self, Bool.not_true]))) ?_
    refine P_det (by rfl) (Over_nil (by first | exact y_pick_t (c := .bool _) (by rfl) (by rfl) | exact y_pick_f (c := .bool _) (by rfl) (by rfl))) ?_
    refine P_det (by rfl) (Over_nil (y_move (c := .bool _) (by rfl))) ?_
    refine P_det (by rfl) (Over_nil (y_move (c := .int .i64 _) (by rfl))) ?_
    refine P_det (by rfl) (Over_nil (y_neqF (by rfl) (by rfl))) ?_
    refine P_det (by rfl) (Over_nil (by first | exact y_pick_t (c := .bool _) (by rfl) (by rfl) | exact y_pick_f (c := .bool _) (by rfl) (by rfl))) ?_
    refine P_det (by rfl) (Over_nil (y_move (c := .bool _) (by rfl))) ?_
    refine P_det (by rfl) (Over_nil (y_move (c := .int .i64 _) (by rfl))) ?_
    refine P_det (by rfl) (Over_nil (y_neqF (by rfl) (by rfl))) ?_
    refine P_det (by rfl) (Over_nil (by first | exact y_pick_t (c := .bool _) (by rfl) (by rfl) | exact y_pick_f (c := .bool _) (by rfl) (by rfl))) ?_
    refine P_det (by rfl) (Over_nil (y_move (c := .bool _) (by rfl))) ?_
    refine P_det (by rfl) (Over_nil (y_move (c := .int .i64 _) (by rfl))) ?_
    refine P_det (by rfl) (Over_nil (y_neqF (by rfl) (by rfl))) ?_
    refine P_det (by rfl) (Over_nil (by first | exact y_pick_t (c := .bool _) (by rfl) (by rfl) | exact y_pick_f (c := .bool _) (by rfl) (by rfl))) ?_
    refine P_det (by rfl) (Over_nil (y_move (c := .bool _) (by rfl))) ?_
    refine P_det (by rfl) (Over_nil (y_move (c := .int .i64 _) (by rfl))) ?_
    refine P_det (by rfl) (Over_nil (y_neqF (by rfl) (by rfl))) ?_
    refine P_det (by rfl) (Over_nil (by first | exact y_pick_t (c := .bool _) (by rfl) (by rfl) | exact y_pick_f (c := .bool _) (by rfl) (by rfl))) ?_
    refine PW_end (by rfl) ?_
    refine OverAll_nil ?_
    rintro -
    refine Then_normal ?_
    refine W_cond (by rfl) (fun c17 => ?_) (fun c17 => ?_)
    · cases c17
    ·
      try simp only [Bool.not_eq_true', Bool.not_eq_false', decide_eq_true_eq, decide_eq_false_iff_not, ne_eq, Classical.not_not, Int.not_lt, Int.not_le] at c17
      refine W_skip ?_
      refine Then_normal ?_
      refine W_seq ?_
      refine W_region_lit (fun ds => ?_)
      refine WS_det hF (by rfl) (y_loadN (by rfl) Tryz.isAgg29 Tryz.sizeOf29 (Mem.own (us := [.slice _ _ _, .int .i64 _, .int .i64 _, .int .i64 _, .int .i64 _, .slice _ _ _]) 0 (by rfl) (by rfl)) (by rfl)) ?_
      refine WS_gen hF (by rfl) (y_callL (by rfl) (by rfl) Tryz.call39 (fun w hw => wrong_any oddL _ _ _ _ w (by decide) (NewRow.ints ho1 rfl sbA w hw) (NewRow.rws en_len ho2 rfl sbA w hw))) ?_
      rintro _ Ha hTa
      obtain ⟨wa, wcap, rfl, hwa⟩ := WrongV.ints hTa
      rw [k_wrL, k_wrE] at *
      refine WS_back ?_
      refine WS_det hF (by rfl) (y_move (c := .tuple _) (by rfl)) ?_
      refine WS_det hF (by rfl) (y_extract (c := .slice _ _ _) (by rfl) (by rfl)) ?_
      refine WS_det hF (by rfl) (y_extract (c := .int .i64 _) (by rfl) (by rfl)) ?_
      refine WS_det hF (by rfl) (y_assign (c := .slice _ _ _) (by rfl)) ?_
      refine WS_det hF (by rfl) (y_assign (c := .int .i64 _) (by rfl)) ?_
      refine WS_nil ?_
      refine Then_normal ?_
      refine W_seq ?_
      refine W_region_lit (fun ds => ?_)
      refine WS_det hF (by rfl) (y_loadN (by rfl) Tryz.isAgg29 Tryz.sizeOf29 (Mem.own (us := [.slice _ _ _, .int .i64 _, .int .i64 _, .int .i64 _, .int .i64 _, .slice _ _ _]) 0 (by rfl) (by rfl)) (by rfl)) ?_
      refine WS_gen hF (by rfl) (y_callL (by rfl) (by rfl) Tryz.call31 (fun w hw => truth_any oddL _ _ _ _ w (by decide) (NewRow.ints ho1 rfl sbA w hw) (NewRow.rws en_len ho2 rfl sbA w hw))) ?_
      rintro _ _ hTb
      obtain ⟨rfl, rfl⟩ := hTb.1 (by rw [k_odd]; decide)
      rw [k_odd]
      refine WS_det hF (by rfl) (y_move (c := .tuple _) (by rfl)) ?_
      refine WS_det hF (by rfl) (y_extract (c := .slice _ _ _) (by rfl) (by rfl)) ?_
      refine WS_det hF (by rfl) (y_extract (c := .int .i64 _) (by rfl) (by rfl)) ?_
      refine WS_det hF (by rfl) (y_assign (c := .int .i64 _) (by rfl)) ?_
      refine WS_nil ?_
      refine Then_normal ?_
      refine W_seq ?_
      refine W_region_lit (fun ds => ?_)
      refine WS_det hF (by rfl) (y_move (c := .int .i64 _) (by rfl)) ?_
      refine WS_det hF (by rfl) (y_eqlT (by rfl) (by rfl)) ?_
      refine WS_det hF (by rfl) (y_move (c := .bool _) (by rfl)) ?_
      refine WS_det hF (by rfl) (y_move (c := .slice _ _ _) (by rfl)) ?_
      refine WS_newS hF (by rfl) (y_buildSliceL bs22_1_0 (by rfl)) (fun b13 => ?_)
      refine WS_det hF (by rfl) (y_callL (by rfl) (by rfl) Tryz.call38 (fun w hw => Ct_eq (c' := .bool true) (sameInts_any _ _ _ _ _ _ [5] [5] w (by decide) (hwa _ _ w sbA hw) (Ints.mem (rest := []) 0 (by rfl) (by rfl) (by decide) w hw)) (by simp))) ?_
      refine WS_det hF (by rfl) (by first | exact y_pick_t (c := .bool _) (by rfl) (by rfl) | exact y_pick_f (c := .bool _) (by rfl) (by rfl)) ?_
      refine WS_det hF (by rfl) (y_move (c := .bool _) (by rfl)) ?_
      refine WS_det hF (by rfl) (y_move (c := .int .i64 _) (by rfl)) ?_
      refine WS_det hF (by rfl) (y_eqlT (by rfl) (by rfl)) ?_
      refine WS_det hF (by rfl) (by first | exact y_pick_t (c := .bool _) (by rfl) (by rfl) | exact y_pick_f (c := .bool _) (by rfl) (by rfl)) ?_
      refine WS_det hF (by rfl) (y_assign (c := .bool _) (by rfl)) ?_
      refine WS_nil ?_
      refine Then_normal ?_
      refine W_ret ?_
      refine Fin_ret [.bool _] [] Tryz.results10 ⟨by rfl, trivial⟩ HSub.nil ?_
      rfl
end Go.Proofs.YthkimgfgpphgnaaGreat.T

/- Truths of a log: plain facts on spans and truths. -/
namespace Go.Proofs.YthkimgfgpphgnaaGreat.T
open Go.RowKit Go.Proofs Go.Eng
set_option maxRecDepth 100000
set_option linter.unusedVariables false
set_option linter.unusedSimpArgs false

def Sn.In (s : Sn) (v : Int) : Prop := s.lo ≤ v ∧ v ≤ s.hi
/-- What an entry may make of a number. -/
def Tk.Mv (t : Tk) (x : En) (u w : Int) : Prop :=
  (x.kind = 1 ∧ u + x.size.lo ≤ w ∧ w ≤ u + x.size.hi ∧ 0 ≤ w ∧ w ≤ t.full) ∨ (x.kind = 2 ∧ u - x.size.hi ≤ w ∧ w ≤ u - x.size.lo ∧ 0 ≤ w ∧ w ≤ t.full) ∨ (x.kind = 3 ∧ w = u ∧ (t.dip x.size).In w)
theorem Sn.met_in {a b : Sn} {v : Int} : (a.met b).In v ↔ a.In v ∧ b.In v := by
  unfold Sn.met Sn.In; simp only; omega
theorem Tk.forth_of {t : Tk} {x : En} {s : Sn} {u w : Int} (hu : s.In u) (hm : t.Mv x u w) : (t.forth x s).In w := by
  unfold Tk.forth
  rcases hm with ⟨hk, hm⟩ | ⟨hk, hm⟩ | ⟨hk, rfl, hm⟩
  · rw [if_pos hk]; unfold Sn.In at hu ⊢; simp only [Sn.met, Sn.add, Tk.all]; omega
  · rw [if_neg (by omega), if_pos hk]; unfold Sn.In at hu ⊢; simp only [Sn.met, Sn.sub, Tk.all]; omega
  · rw [if_neg (by omega), if_neg (by omega), Sn.met_in]; exact ⟨hu, hm⟩
theorem Tk.forth_to {t : Tk} {x : En} {s : Sn} {w : Int} (hk : 1 ≤ x.kind ∧ x.kind ≤ 3) (hz : x.size.lo ≤ x.size.hi) (hs : s.lo ≤ s.hi) (h : (t.forth x s).In w) : ∃ u, s.In u ∧ t.Mv x u w := by
  unfold Tk.forth at h
  unfold Tk.Mv
  obtain h1 | h1 | h1 : x.kind = 1 ∨ x.kind = 2 ∨ x.kind = 3 := by omega
  · rw [if_pos h1] at h
    unfold Sn.In at h ⊢
    simp only [Sn.met, Sn.add, Tk.all] at h
    exact ⟨max s.lo (w - x.size.hi), by omega, .inl (by omega)⟩
  · rw [if_neg (by omega), if_pos h1] at h
    unfold Sn.In at h ⊢
    simp only [Sn.met, Sn.sub, Tk.all] at h
    exact ⟨max s.lo (w + x.size.lo), by omega, .inr (.inl (by omega))⟩
  · rw [if_neg (by omega), if_neg (by omega), Sn.met_in] at h
    exact ⟨w, h.1, .inr (.inr ⟨h1, rfl, h.2⟩)⟩
theorem Tk.back_of {t : Tk} {x : En} {s : Sn} {u w : Int} (hw : s.In w) (hm : t.Mv x u w) (h0 : 0 ≤ u) (h1 : u ≤ t.full) : (t.back x s).In u := by
  unfold Tk.back
  rcases hm with ⟨hk, hm⟩ | ⟨hk, hm⟩ | ⟨hk, rfl, hm⟩
  · rw [if_pos hk]; unfold Sn.In at hw ⊢; simp only [Sn.met, Sn.sub, Tk.all]; omega
  · rw [if_neg (by omega), if_pos hk]; unfold Sn.In at hw ⊢; simp only [Sn.met, Sn.add, Tk.all]; omega
  · rw [if_neg (by omega), if_neg (by omega), Sn.met_in]; exact ⟨hw, hm⟩
theorem Tk.back_to {t : Tk} {x : En} {s : Sn} {u : Int} (hk : 1 ≤ x.kind ∧ x.kind ≤ 3) (hz : x.size.lo ≤ x.size.hi) (hs : s.lo ≤ s.hi) (h0 : 0 ≤ s.lo) (h1 : s.hi ≤ t.full) (h : (t.back x s).In u) : ∃ w, s.In w ∧ t.Mv x u w := by
  unfold Tk.back at h
  unfold Tk.Mv
  obtain h1 | h1 | h1 : x.kind = 1 ∨ x.kind = 2 ∨ x.kind = 3 := by omega
  · rw [if_pos h1] at h
    unfold Sn.In at h ⊢
    simp only [Sn.met, Sn.sub, Tk.all] at h
    exact ⟨max s.lo (u + x.size.lo), by omega, .inl (by omega)⟩
  · rw [if_neg (by omega), if_pos h1] at h
    unfold Sn.In at h ⊢
    simp only [Sn.met, Sn.add, Tk.all] at h
    exact ⟨max s.lo (u - x.size.hi), by omega, .inr (.inl (by omega))⟩
  · rw [if_neg (by omega), if_neg (by omega), Sn.met_in] at h
    exact ⟨u, h.1, .inr (.inr ⟨h1, rfl, h.2⟩)⟩
theorem Lg.before_of {l : Lg} {i : Nat} {s : Sn} {v u : Int} (hv : s.In v) (h1 : max 0 (v - l.drip i) ≤ u) (h2 : u ≤ v) : (l.before i s).In u := by
  unfold Sn.In at hv ⊢; unfold Lg.before; simp only; omega
theorem Lg.before_to {l : Lg} {i : Nat} {s : Sn} {u : Int} (hd : 0 ≤ l.drip i) (hs : s.lo ≤ s.hi) (h : (l.before i s).In u) : ∃ v, s.In v ∧ max 0 (v - l.drip i) ≤ u ∧ u ≤ v := by
  unfold Sn.In at h ⊢; unfold Lg.before at h; simp only at h
  exact ⟨max s.lo u, by omega, by omega, by omega⟩
/-- One step of a truth: what it holds at a time, before the entry, and at the next time. -/
def Lg.Stp (l : Lg) (T U : Nat → Int) (i : Nat) : Prop := (max 0 (T i - l.drip i) ≤ U i ∧ U i ≤ T i) ∧ l.tk.Mv (l.e i) (U i) (T (i + 1))
/-- A truth. -/
structure Lg.Tru (l : Lg) (T U : Nat → Int) : Prop where
  st : l.start.In (T 0)
  sp : ∀ i, i < l.es.length → l.Stp T U i
theorem Lg.Stp.congr {l : Lg} {T U T' U' : Nat → Int} {i : Nat} (h : l.Stp T U i) (h1 : T' i = T i) (h2 : U' i = U i) (h3 : T' (i + 1) = T (i + 1)) : l.Stp T' U' i := by
  unfold Lg.Stp at h ⊢
  rw [h1, h2, h3]; exact h
theorem Tk.Mv.bd {t : Tk} {x : En} {u w : Int} (h : t.Mv x u w) (h0 : 0 ≤ u) (h1 : u ≤ t.full) : 0 ≤ w ∧ w ≤ t.full := by
  rcases h with ⟨_, h⟩ | ⟨_, h⟩ | ⟨_, rfl, h⟩ <;> omega
theorem Lg.Tru.bd {l : Lg} {T U : Nat → Int} (h : l.Tru T U) (hok : l.Ok) : ∀ i, i ≤ l.es.length → 0 ≤ T i ∧ T i ≤ l.tk.full
  | 0, _ => by
    have := Sn.inB_iff.1 hok.start
    have := h.st
    unfold Sn.In at this
    omega
  | i + 1, hi => by
    have ih := Lg.Tru.bd h hok i (by omega)
    obtain ⟨h1, h2⟩ := h.sp i (by omega)
    exact h2.bd (by omega) (by omega)
theorem Lg.Tru.ubd {l : Lg} {T U : Nat → Int} (h : l.Tru T U) (hok : l.Ok) {i : Nat} (hi : i < l.es.length) : 0 ≤ U i ∧ U i ≤ l.tk.full := by
  have h1 := h.bd hok i (by omega)
  have h2 := (h.sp i hi).1
  omega
theorem Lg.Tru.hold {l : Lg} {T U : Nat → Int} (h : l.Tru T U) : ∀ i, i ≤ l.es.length → (l.hold i).In (T i)
  | 0, _ => h.st
  | i + 1, hi => Tk.forth_of (Lg.before_of (Lg.Tru.hold h i (by omega)) (h.sp i (by omega)).1.1 (h.sp i (by omega)).1.2) (h.sp i (by omega)).2
theorem Lg.Tru.aftR {l : Lg} {T U : Nat → Int} (h : l.Tru T U) (hok : l.Ok) : ∀ m, m ≤ l.es.length → (l.aft (l.es.length - m)).In (T (l.es.length - m))
  | 0, _ => by
    rw [Nat.sub_zero, l.aft_n]
    exact h.bd hok _ (Nat.le_refl _)
  | m + 1, hm => by
    have ih := Lg.Tru.aftR h hok m (by omega)
    have hi : l.es.length - (m + 1) < l.es.length := by omega
    have hn : l.es.length - m = l.es.length - (m + 1) + 1 := by omega
    rw [hn] at ih
    generalize l.es.length - (m + 1) = i at *
    have hs := h.sp i hi
    have hu := h.ubd hok hi
    have hT := h.bd hok i (by omega)
    have ha : (l.ahd i).In (U i) := Tk.back_of ih hs.2 hu.1 hu.2
    rw [l.aft_lt hi]
    have h1 := hs.1
    unfold Sn.In at ha ⊢
    simp only
    omega
theorem Lg.Tru.aft {l : Lg} {T U : Nat → Int} (h : l.Tru T U) (hok : l.Ok) {i : Nat} (hi : i ≤ l.es.length) : (l.aft i).In (T i) := by
  have := h.aftR hok (l.es.length - i) (by omega)
  rwa [show l.es.length - (l.es.length - i) = i by omega] at this
theorem Lg.Tru.ahd {l : Lg} {T U : Nat → Int} (h : l.Tru T U) (hok : l.Ok) {i : Nat} (hi : i < l.es.length) : (l.ahd i).In (U i) :=
  Tk.back_of (h.aft hok (i := i + 1) hi) (h.sp i hi).2 (h.ubd hok hi).1 (h.ubd hok hi).2
theorem Lg.Tru.at {l : Lg} {T U : Nat → Int} (h : l.Tru T U) (hok : l.Ok) {i : Nat} (hi : i ≤ l.es.length) : (l.at i).In (T i) := Sn.met_in.2 ⟨h.hold i hi, h.aft hok hi⟩
theorem Lg.pre {l : Lg} (hok : l.Ok) : ∀ k, k ≤ l.es.length → (∀ j, j < k → (l.hold j).lo ≤ (l.hold j).hi) → ∀ v, (l.hold k).In v → ∃ T U : Nat → Int, T k = v ∧ l.start.In (T 0) ∧ ∀ i, i < k → l.Stp T U i
  | 0, _, _, v, hv => ⟨fun _ => v, fun _ => v, rfl, hv, fun i hi => absurd hi (by omega)⟩
  | k + 1, hk, hne, v, hv => by
    have hd := hok.drip_bd (i := k) (by omega)
    have hn := hne k (by omega)
    have hb : (l.before k (l.hold k)).lo ≤ (l.before k (l.hold k)).hi ∨ (l.before k (l.hold k)).hi < (l.before k (l.hold k)).lo := by omega
    have h0 := (hok.hold_bd k (by omega) fun j hj => by unfold Sn.empty; simp only [decide_eq_false_iff_not]; have := hne j (by omega); omega).1
    have hb2 : (l.before k (l.hold k)).lo ≤ (l.before k (l.hold k)).hi := by unfold Lg.before; simp only; omega
    obtain ⟨u, hu, hm⟩ := Tk.forth_to (hok.kind k (by omega)) (Sn.inB_iff.1 (hok.size k (by omega))).2.1 hb2 hv
    obtain ⟨v', hv', h1, h2⟩ := Lg.before_to hd.1 hn hu
    obtain ⟨T, U, ht, hs, hp⟩ := Lg.pre hok k (by omega) (fun j hj => hne j (by omega)) v' hv'
    refine ⟨fun j => if j = k + 1 then v else T j, fun j => if j = k then u else U j, if_pos rfl, by simpa using hs, fun i hi => ?_⟩
    by_cases hik : i = k
    · subst hik
      unfold Lg.Stp
      simp only [if_true]
      rw [if_neg (by omega), ht]
      exact ⟨⟨h1, h2⟩, hm⟩
    · exact (hp i (by omega)).congr (by rw [if_neg (by omega)]) (by rw [if_neg hik]) (by rw [if_neg (by omega)])
theorem Lg.suf {l : Lg} (hok : l.Ok) (hne : ∀ j, j ≤ l.es.length → (l.aft j).lo ≤ (l.aft j).hi) (hne2 : ∀ j, j < l.es.length → (l.ahd j).lo ≤ (l.ahd j).hi) :
    ∀ m, m ≤ l.es.length → ∀ v, (l.aft (l.es.length - m)).In v → ∃ T U : Nat → Int, T (l.es.length - m) = v ∧ ∀ i, l.es.length - m ≤ i → i < l.es.length → l.Stp T U i
  | 0, _, v, hv => ⟨fun _ => v, fun _ => v, rfl, fun i h1 h2 => absurd h2 (by omega)⟩
  | m + 1, hm, v, hv => by
    have ih := Lg.suf hok hne hne2 m (by omega)
    have hi : l.es.length - (m + 1) < l.es.length := by omega
    have hn : l.es.length - m = l.es.length - (m + 1) + 1 := by omega
    rw [hn] at ih
    generalize l.es.length - (m + 1) = k at *
    have hd := hok.drip_bd hi
    have ha := hok.ahd_bd hi
    have hf := hok.aft_bd (i := k + 1) hi
    have hk2 := hne2 k hi
    rw [l.aft_lt hi] at hv
    have hu : (l.ahd k).In (min v (l.ahd k).hi) := by
      unfold Sn.In at hv ⊢
      simp only at hv
      omega
    obtain ⟨w, hw, hm⟩ := Tk.back_to (hok.kind k hi) (Sn.inB_iff.1 (hok.size k hi)).2.1 (hne (k + 1) hi) hf.1 hf.2.1 hu
    obtain ⟨T, U, ht, hp⟩ := ih w hw
    refine ⟨fun j => if j = k then v else T j, fun j => if j = k then min v (l.ahd k).hi else U j, if_pos rfl, fun i h1 h2 => ?_⟩
    by_cases hik : i = k
    · subst hik
      unfold Lg.Stp
      simp only [if_true]
      rw [if_neg (by omega), ht]
      unfold Sn.In at hv
      simp only at hv
      exact ⟨by omega, hm⟩
    · exact (hp i (by omega) h2).congr (by rw [if_neg hik]) (by rw [if_neg hik]) (by rw [if_neg (by omega)])
theorem Sn.ne_iff {s : Sn} : s.empty = false ↔ s.lo ≤ s.hi := by unfold Sn.empty; simp only [decide_eq_false_iff_not]; omega
theorem Lg.holdsB_tru {l : Lg} (hok : l.Ok) : l.holdsB = true ↔ ∃ T U, l.Tru T U := by
  rw [l.holdsB_iff]
  constructor
  · intro h
    have hn := Sn.ne_iff.1 (h l.es.length (Nat.le_refl _))
    obtain ⟨T, U, _, h1, h2⟩ := Lg.pre hok l.es.length (Nat.le_refl _) (fun j hj => Sn.ne_iff.1 (h j (by omega))) (l.hold l.es.length).lo ⟨Int.le_refl _, hn⟩
    exact ⟨T, U, h1, h2⟩
  · rintro ⟨T, U, h⟩ k hk
    have := h.hold k hk
    unfold Sn.In at this
    exact Sn.ne_iff.2 (by omega)
theorem Lg.at_tru {l : Lg} (hok : l.Ok) (hh : l.holdsB = true) {i : Nat} (hi : i ≤ l.es.length) {v : Int} (hv : (l.at i).In v) : ∃ T U, l.Tru T U ∧ T i = v := by
  obtain ⟨h1, h2⟩ := Sn.met_in.1 hv
  have hne := l.holdsB_iff.1 hh
  obtain ⟨T0, U0, h0⟩ := (Lg.holdsB_tru hok).1 hh
  have ne1 : ∀ j, j ≤ l.es.length → (l.aft j).lo ≤ (l.aft j).hi := fun j hj => by
    have := h0.aft hok hj
    unfold Sn.In at this; omega
  have ne2 : ∀ j, j < l.es.length → (l.ahd j).lo ≤ (l.ahd j).hi := fun j hj => by
    have := h0.ahd hok hj
    unfold Sn.In at this; omega
  obtain ⟨T1, U1, t1, s1, p1⟩ := Lg.pre hok i hi (fun j hj => Sn.ne_iff.1 (hne j (by omega))) v h1
  have h2' : (l.aft (l.es.length - (l.es.length - i))).In v := by rw [show l.es.length - (l.es.length - i) = i by omega]; exact h2
  obtain ⟨T2, U2, t2, p2⟩ := Lg.suf hok ne1 ne2 (l.es.length - i) (by omega) v h2'
  rw [show l.es.length - (l.es.length - i) = i by omega] at t2 p2
  refine ⟨fun j => if j ≤ i then T1 j else T2 j, fun j => if j < i then U1 j else U2 j, ⟨by simpa using s1, fun j hj => ?_⟩, by simp only; rw [if_pos (Nat.le_refl _), t1]⟩
  by_cases hji : j < i
  · exact (p1 j hji).congr (by rw [if_pos (by omega)]) (by rw [if_pos hji]) (by rw [if_pos (by omega)])
  · refine (p2 j (by omega) hj).congr ?_ (by rw [if_neg hji]) (by rw [if_neg (by omega)])
    by_cases hje : j = i
    · subst hje; rw [if_pos (Nat.le_refl _), t1, t2]
    · rw [if_neg (by omega)]
theorem Lg.at_ne {l : Lg} (hok : l.Ok) (hh : l.holdsB = true) {i : Nat} (hi : i ≤ l.es.length) : (l.at i).lo ≤ (l.at i).hi := by
  obtain ⟨T0, U0, h0⟩ := (Lg.holdsB_tru hok).1 hh
  have := h0.at hok hi
  unfold Sn.In at this; omega
theorem Lg.at_bd {l : Lg} (hok : l.Ok) (hh : l.holdsB = true) {i : Nat} (hi : i ≤ l.es.length) : 0 ≤ (l.at i).lo ∧ (l.at i).hi ≤ l.tk.full := by
  have h1 := hok.aft_bd hi
  unfold Lg.at Sn.met
  simp only
  omega
end Go.Proofs.YthkimgfgpphgnaaGreat.T

/- A log with an entry more: plain facts; ready, walked. -/
namespace Go.Proofs.YthkimgfgpphgnaaGreat.T
open Go.RowKit Go.Proofs Go.Eng
set_option maxRecDepth 100000
set_option linter.unusedVariables false
set_option linter.unusedSimpArgs false



theorem Lg.put_e (l : Lg) (x : En) {k : Nat} (hk : k < l.es.length) : (l.put x).e k = l.e k := by
  unfold Lg.put Lg.e
  simp only [List.getD_eq_getElem?_getD]
  rw [List.getElem?_append_left hk]
theorem Lg.put_drip (l : Lg) (x : En) {k : Nat} (hk : k < l.es.length) : (l.put x).drip k = l.drip k := by
  unfold Lg.drip
  rw [l.put_e x hk]
  by_cases h : k = 0
  · rw [if_pos h, if_pos h]
  · rw [if_neg h, if_neg h, l.put_e x (by omega)]; rfl
theorem Lg.put_hold (l : Lg) (x : En) : ∀ k, k ≤ l.es.length → (l.put x).hold k = l.hold k
  | 0, _ => rfl
  | k + 1, hk => by
    show (l.put x).after k ((l.put x).hold k) = l.after k (l.hold k)
    rw [Lg.put_hold l x k (by omega)]
    unfold Lg.after Lg.before
    rw [l.put_e x (by omega), l.put_drip x (by omega)]; rfl
theorem Lg.err0_iff {l : Lg} : l.err = 0 ↔ l.tk.okB = true ∧ l.okB = true := by
  unfold Lg.err
  cases l.tk.okB <;> cases l.okB <;> simp
theorem Tk.entB_iff {t : Tk} {d : Int} {x : En} : t.entB d x = true ↔ (d ≤ x.day ∧ x.day ≤ 3652) ∧ (1 ≤ x.kind ∧ x.kind ≤ 3) ∧ 0 ≤ x.size.lo ∧ x.size.lo ≤ x.size.hi ∧ x.size.hi ≤ t.most x.kind := by
  unfold Tk.entB
  rw [Bool.and_eq_true, Bool.and_eq_true, inB1, inB1, Sn.inB_iff, and_assoc]
theorem AddV.ok {l : Lg} {x : En} {v : Value} {Hn : List Blk} (h : AddV l x v Hn) (h0 : l.addE x = 0) : ∃ a cap ae cape H1 H2, v = .tuple #[.agg #[.slice a (l.put x).tk.n cap, .int .i64 (l.put x).tk.leak, .int .i64 (l.put x).tk.foot, .int .i64 (l.put x).start.lo, .int .i64 (l.put x).start.hi, .slice ae (l.put x).es.length cape], .int .i64 0] ∧
    NewRow 3 1 (l.put x).tk.n (iv (l.put x).tk.pints) (.slice a (l.put x).tk.n cap) H1 ∧ NewRow 38 4 (l.put x).es.length (rowOf En.cells (l.put x).e (l.put x).es.length) (.slice ae (l.put x).es.length cape) H2 ∧ Hn = H1 ++ H2 := by
  obtain ⟨v0, rfl, _, h2⟩ := h
  obtain ⟨a, cap, ae, cape, H1, H2, rfl, h3, h4, rfl⟩ := h2 h0
  rw [h0]
  exact ⟨a, cap, ae, cape, H1, H2, rfl, h3, h4, rfl⟩
def Lg.great (l : Lg) : Bool := decide ((l.tk.n : Int) > 40) || decide ((l.es.length : Int) > 24)
def Lg.rdy (l : Lg) : Bool := !l.great && decide (l.err = 0)
theorem Lg.rdy_iff {l : Lg} : l.rdy = true ↔ l.tk.n ≤ 40 ∧ l.es.length ≤ 24 ∧ l.err = 0 := by
  unfold Lg.rdy Lg.great
  simp only [Bool.and_eq_true, Bool.not_eq_true', Bool.or_eq_false_iff, decide_eq_false_iff_not, decide_eq_true_eq]
  omega
theorem lready_any (l : Lg) (a : Option Addr) (cap : Nat) (ae : Option Addr) (cape : Nat) (w : World) (hx : Ints w a l.tk.n cap l.tk.pints) (he : Ens w ae l.es.length cape l.es) : Ct Tryz.prog 40 #[.agg #[.slice a l.tk.n cap, .int .i64 l.tk.leak, .int .i64 l.tk.foot, .int .i64 l.start.lo, .int .i64 l.start.hi, .slice ae l.es.length cape]] w fun v _ => v = .bool l.rdy := by
  have hF := wide_wide
  refine Ct_start (args := [_]) Tryz.func40 (by rfl) Tryz.ntmps40 (by rfl) ?_
  refine W_seq ?_
  refine W_region_lit (fun ds => ?_)
  refine WS_new hF (by rfl) (y_box (by rfl)) (fun b1 => ?_)
  refine WS_det hF (by rfl) (y_assign (c := .bool _) (by rfl)) ?_
  refine WS_nil ?_
  refine Then_normal ?_
  refine W_seq ?_
  refine W_region_lit (fun ds => ?_)
  refine WS_det hF (by rfl) (y_loadN (by rfl) Tryz.isAgg29 Tryz.sizeOf29 (Mem.own (us := [.slice _ _ _, .int .i64 _, .int .i64 _, .int .i64 _, .int .i64 _, .slice _ _ _]) 0 (by rfl) (by rfl)) (by rfl)) ?_
  refine WS_det hF (by rfl) (y_callL (by rfl) (by rfl) Tryz.call74 (fun w hw => great_any l a cap ae cape w)) ?_
  refine WS_det hF (by rfl) (y_not (by rfl)) ?_
  refine WS_det hF (by rfl) (y_move (c := .bool _) (by rfl)) ?_
  refine WS_split 6 (by rfl) (fun g1_3 => ?_) (fun g1_3 => ?_)
  ·
    try simp only [Bool.not_eq_true', Bool.not_eq_false', decide_eq_true_eq, decide_eq_false_iff_not, ne_eq, Classical.not_not, Int.not_lt, Int.not_le] at g1_3
    have hg : l.great = false := g1_3
    have hn : l.tk.n ≤ 1000000 := by unfold Lg.great at hg; simp only [Bool.or_eq_false_iff, decide_eq_false_iff_not] at hg; omega
    refine WS_det hF (by rfl) (y_loadN (by rfl) Tryz.isAgg29 Tryz.sizeOf29 (Mem.own (us := [.slice _ _ _, .int .i64 _, .int .i64 _, .int .i64 _, .int .i64 _, .slice _ _ _]) 0 (by rfl) (by rfl)) (by rfl)) ?_
    refine WS_det hF (by rfl) (y_callL (by rfl) (by rfl) Tryz.call75 (fun w hw => rvalid_any l a cap ae cape w hn (hx.st w hw) (he.st w hw))) ?_
    refine WS_det hF (by rfl) (y_eql (by rfl) (by rfl)) ?_
    refine WS_det hF (by rfl) (by first | exact y_pick_t (c := .bool _) (by rfl) (by rfl) | exact y_pick_f (c := .bool _) (by rfl) (by rfl)) ?_
    refine WS_det hF (by rfl) (y_assign (c := .bool _) (by rfl)) ?_
    refine WS_nil ?_
    refine Then_normal ?_
    refine W_ret ?_
    refine Fin_ret [.bool _] [] Tryz.results40 ⟨by rfl, trivial⟩ HSub.nil ?_
    show Value.bool _ = _
    unfold Lg.rdy
    rw [hg]; rfl
  ·
    try simp only [Bool.not_eq_true', Bool.not_eq_false', decide_eq_true_eq, decide_eq_false_iff_not, ne_eq, Classical.not_not, Int.not_lt, Int.not_le] at g1_3
    refine WS_no hF (by rfl) ?_
    refine WS_no hF (by rfl) ?_
    refine WS_no hF (by rfl) ?_
    refine WS_det hF (by rfl) (by first | exact y_pick_t (c := .bool _) (by rfl) (by rfl) | exact y_pick_f (c := .bool _) (by rfl) (by rfl)) ?_
    refine WS_det hF (by rfl) (y_assign (c := .bool _) (by rfl)) ?_
    refine WS_nil ?_
    refine Then_normal ?_
    refine W_ret ?_
    refine Fin_ret [.bool _] [] Tryz.results40 ⟨by rfl, trivial⟩ HSub.nil ?_
    show Value.bool _ = _
    have hg : l.great = true := g1_3
    unfold Lg.rdy
    rw [hg]; rfl
theorem Lg.aerr_cases {l : Lg} (h : l.err = 0) : l.aerr = 0 ∧ l.holdsB = true ∨ l.aerr = 8 ∧ l.holdsB = false := by
  unfold Lg.aerr
  rw [if_pos h]
  cases hh : l.holdsB
  · exact .inr ⟨rfl, rfl⟩
  · exact .inl ⟨rfl, rfl⟩
theorem Lg.holdsV_at {l : Lg} (h : l.aerr = 0) {i : Nat} (hi : i ≤ l.es.length) : l.holdsV (i : Int) = .tuple #[.agg #[.int .i64 (l.at i).lo, .int .i64 (l.at i).hi], .int .i64 0] := by
  unfold Lg.holdsV
  rw [if_pos h, if_pos (by rw [inB1]; omega), Int.toNat_natCast]; rfl
/-- The same from another start. -/
def Lg.sta (l : Lg) (v : Int) : Lg := ⟨l.tk, ⟨v, v⟩, l.es⟩
theorem Lg.sta_err {l : Lg} {v : Int} (h : l.err = 0) (h0 : 0 ≤ v) (h1 : v ≤ l.tk.full) : (l.sta v).err = 0 := by
  obtain ⟨e1, e2⟩ := Lg.err0_iff.1 h
  refine Lg.err0_iff.2 ⟨e1, ?_⟩
  unfold Lg.okB at e2 ⊢
  rw [Bool.and_eq_true, Bool.and_eq_true] at e2 ⊢
  exact ⟨⟨Sn.inB_iff.2 ⟨h0, Int.le_refl _, h1⟩, e2.1.2⟩, e2.2⟩
theorem Lg.sta_tru {l : Lg} {v : Int} {T U : Nat → Int} : (l.sta v).Tru T U ↔ T 0 = v ∧ ∀ i, i < l.es.length → l.Stp T U i := by
  constructor
  · intro h
    have := h.st
    exact ⟨by unfold Sn.In Lg.sta at this; simp only at this; omega, h.sp⟩
  · rintro ⟨h1, h2⟩
    exact ⟨by unfold Sn.In Lg.sta; simp only; omega, h2⟩
end Go.Proofs.YthkimgfgpphgnaaGreat.T

/- What the tank holds is exact: plain facts, and the law walked. -/
namespace Go.Proofs.YthkimgfgpphgnaaGreat.T
open Go.RowKit Go.Proofs Go.Eng
set_option maxRecDepth 100000
set_option maxHeartbeats 2000000
set_option linter.unusedVariables false
set_option linter.unusedSimpArgs false



theorem Tk.forth_2 {t : Tk} {x : En} {s : Sn} (h : x.kind = 2) : t.forth x s = (s.sub x.size).met t.all := by unfold Tk.forth; rw [if_neg (by omega), if_pos h]
def drE (d v : Int) : En := ⟨d, 2, ⟨v, v⟩⟩
def dpE (d : Int) : En := ⟨d, 3, ⟨0, 0⟩⟩
structure Lg.Exact (l : Lg) (d v : Int) : Prop where
  a1 : l.addE (drE d v) = 0
  a2 : (l.put (drE d v)).addE (dpE d) = 0
  err : ((l.put (drE d v)).put (dpE d)).err = 0
  iff : ((l.put (drE d v)).put (dpE d)).holdsB = true ↔ (l.at l.es.length).In v
theorem emod_bd {n m : Int} (h : 0 ≤ m) : 0 ≤ n % (m + 1) ∧ n % (m + 1) ≤ m := ⟨Int.emod_nonneg _ (by omega), by have := Int.emod_lt_of_pos n (show 0 < m + 1 by omega); omega⟩
end Go.Proofs.YthkimgfgpphgnaaGreat.T

/- What is sure, and when: the law walked. -/
namespace Go.Proofs.YthkimgfgpphgnaaGreat.T
open Go.RowKit Go.Proofs Go.Eng
set_option maxRecDepth 100000
set_option maxHeartbeats 2000000
set_option linter.unusedVariables false
set_option linter.unusedSimpArgs false



def Lg.trB (l : Lg) : Bool := l.rdy && l.holdsB
theorem Lg.trB_iff {l : Lg} : l.trB = true ↔ l.rdy = true ∧ l.aerr = 0 := by
  unfold Lg.trB
  rw [Bool.and_eq_true]
  constructor
  · rintro ⟨h1, h2⟩
    refine ⟨h1, ?_⟩
    rcases Lg.aerr_cases (Lg.rdy_iff.1 h1).2.2 with ⟨h, _⟩ | ⟨_, h⟩
    · exact h
    · rw [h] at h2; cases h2
  · rintro ⟨h1, h2⟩
    exact ⟨h1, l.holdsB_iff.2 (l.aerr0 h2).2⟩
theorem ltruth_any (l : Lg) (a : Option Addr) (cap : Nat) (ae : Option Addr) (cape : Nat) (w : World) (hx : Ints w a l.tk.n cap l.tk.pints) (he : Ens w ae l.es.length cape l.es) : Ct Tryz.prog 11 #[.agg #[.slice a l.tk.n cap, .int .i64 l.tk.leak, .int .i64 l.tk.foot, .int .i64 l.start.lo, .int .i64 l.start.hi, .slice ae l.es.length cape]] w fun v _ => v = .bool l.trB := by
  have hF := wide_wide
  refine Ct_start (args := [_]) Tryz.func11 (by rfl) Tryz.ntmps11 (by rfl) ?_
  refine W_seq ?_
  refine W_region_lit (fun ds => ?_)
  refine WS_new hF (by rfl) (y_box (by rfl)) (fun b1 => ?_)
  refine WS_det hF (by rfl) (y_assign (c := .bool _) (by rfl)) ?_
  refine WS_nil ?_
  refine Then_normal ?_
  refine W_seq ?_
  refine W_region_lit (fun ds => ?_)
  refine WS_det hF (by rfl) (y_loadN (by rfl) Tryz.isAgg29 Tryz.sizeOf29 (Mem.own (us := [.slice _ _ _, .int .i64 _, .int .i64 _, .int .i64 _, .int .i64 _, .slice _ _ _]) 0 (by rfl) (by rfl)) (by rfl)) ?_
  refine WS_det hF (by rfl) (y_callL (by rfl) (by rfl) Tryz.call40 (fun w hw => lready_any l a cap ae cape w (hx.st w hw) (he.st w hw))) ?_
  refine WS_det hF (by rfl) (y_move (c := .bool _) (by rfl)) ?_
  refine WS_split 5 (by rfl) (fun g1_2 => ?_) (fun g1_2 => ?_)
  ·
    try simp only [Bool.not_eq_true', Bool.not_eq_false', decide_eq_true_eq, decide_eq_false_iff_not, ne_eq, Classical.not_not, Int.not_lt, Int.not_le] at g1_2
    have hr : l.rdy = true := g1_2
    obtain ⟨h1, h2, h3⟩ := Lg.rdy_iff.1 hr
    have hn : l.tk.n ≤ 1000000 := by omega
    refine WS_det hF (by rfl) (y_loadN (by rfl) Tryz.isAgg29 Tryz.sizeOf29 (Mem.own (us := [.slice _ _ _, .int .i64 _, .int .i64 _, .int .i64 _, .int .i64 _, .slice _ _ _]) 0 (by rfl) (by rfl)) (by rfl)) ?_
    refine WS_det hF (by rfl) (y_callL (by rfl) (by rfl) Tryz.call41 (fun w hw => holding_ref l a cap ae cape w (l.ok_of h3) hn (hx.st w hw) (he.st w hw))) ?_
    refine WS_det hF (by rfl) (by first | exact y_pick_t (c := .bool _) (by rfl) (by rfl) | exact y_pick_f (c := .bool _) (by rfl) (by rfl)) ?_
    refine WS_det hF (by rfl) (y_assign (c := .bool _) (by rfl)) ?_
    refine WS_nil ?_
    refine Then_normal ?_
    refine W_ret ?_
    refine Fin_ret [.bool _] [] Tryz.results11 ⟨by rfl, trivial⟩ HSub.nil ?_
    show Value.bool _ = _
    unfold Lg.trB
    rw [hr]; rfl
  ·
    try simp only [Bool.not_eq_true', Bool.not_eq_false', decide_eq_true_eq, decide_eq_false_iff_not, ne_eq, Classical.not_not, Int.not_lt, Int.not_le] at g1_2
    refine WS_no hF (by rfl) ?_
    refine WS_no hF (by rfl) ?_
    refine WS_det hF (by rfl) (by first | exact y_pick_t (c := .bool _) (by rfl) (by rfl) | exact y_pick_f (c := .bool _) (by rfl) (by rfl)) ?_
    refine WS_det hF (by rfl) (y_assign (c := .bool _) (by rfl)) ?_
    refine WS_nil ?_
    refine Then_normal ?_
    refine W_ret ?_
    refine Fin_ret [.bool _] [] Tryz.results11 ⟨by rfl, trivial⟩ HSub.nil ?_
    show Value.bool _ = _
    have hr : l.rdy = false := g1_2
    unfold Lg.trB
    rw [hr]; rfl
def fiN (f : Nat → Bool) (k : Nat) : Int := match firstN f k with
  | some i => (i : Int)
  | none => -1
def Lg.gz (l : Lg) : Nat → Sn
  | 0 => Sn.z
  | k + 1 => l.at k
def Lg.fs (l : Lg) (p : Int) (i : Nat) : Bool := decide (p ≤ (l.at i).lo)
end Go.Proofs.YthkimgfgpphgnaaGreat.T

/- The dip that tells most: the law walked. -/
namespace Go.Proofs.YthkimgfgpphgnaaGreat.T
open Go.RowKit Go.Proofs Go.Eng
set_option maxRecDepth 100000
set_option maxHeartbeats 2000000
set_option linter.unusedVariables false
set_option linter.unusedSimpArgs false

structure Tk.Vol (t : Tk) (x num den : Int) : Prop where
  v : t.volume x = .tuple #[.agg #[.int .i64 num, .int .i64 den], .int .i64 0]
  d1 : 1 ≤ den
  d8 : den ≤ 8
  n0 : 0 ≤ num
  n1 : num ≤ 8 * t.full
  eq : num * 8 = den * t.eight x
  cop : Int.gcd num den = 1
theorem Tk.Vol.below {t : Tk} {x num den v : Int} (h : t.Vol x num den) : v * den < num ↔ v < t.up x := by
  have h1 := h.eq
  have h2 := h.d1
  have hu : v < t.up x ↔ v * 8 < t.eight x := by unfold Tk.up; omega
  rw [hu]
  have e : (v * 8) * den = (v * den) * 8 := by rw [Int.mul_assoc, Int.mul_comm 8 den, ← Int.mul_assoc]
  constructor
  · intro h
    have : (v * 8) * den < t.eight x * den := by rw [e, Int.mul_comm (t.eight x) den, ← h1]; omega
    exact Int.lt_of_mul_lt_mul_right this (by omega)
  · intro h
    have := Int.mul_lt_mul_of_pos_right h (show 0 < den by omega)
    rw [e, Int.mul_comm (t.eight x) den, ← h1] at this
    omega
end Go.Proofs.YthkimgfgpphgnaaGreat.T

/- A log with an entry more: what it holds by what is behind, and what leaks: plain facts. -/
namespace Go.Proofs.YthkimgfgpphgnaaGreat.T
open Go.RowKit Go.Proofs Go.Eng
set_option maxRecDepth 100000
set_option linter.unusedVariables false
set_option linter.unusedSimpArgs false

def Sn.Le (a b : Sn) : Prop := b.lo ≤ a.lo ∧ a.hi ≤ b.hi
theorem Tk.back_mono {t : Tk} {x : En} {a b : Sn} (h : a.Le b) : (t.back x a).Le (t.back x b) := by
  unfold Sn.Le at h
  unfold Tk.back
  split
  · unfold Sn.Le; simp only [Sn.met, Sn.sub, Tk.all]; omega
  · split
    · unfold Sn.Le; simp only [Sn.met, Sn.add, Tk.all]; omega
    · unfold Sn.Le; simp only [Sn.met]; omega
theorem Lg.put_aft_le {l : Lg} {x : En} (h : ((l.put x).aft l.es.length).Le (l.aft l.es.length)) : ∀ m, m ≤ l.es.length → ((l.put x).aft (l.es.length - m)).Le (l.aft (l.es.length - m))
  | 0, _ => h
  | m + 1, hm => by
    have ih := Lg.put_aft_le h m (by omega)
    have hi : l.es.length - (m + 1) < l.es.length := by omega
    have hn : l.es.length - m = l.es.length - (m + 1) + 1 := by omega
    rw [hn] at ih
    generalize l.es.length - (m + 1) = i at *
    rw [l.aft_lt hi, (l.put x).aft_lt (by rw [l.put_len]; omega)]
    have ha : ((l.put x).ahd i).Le (l.ahd i) := by
      unfold Lg.ahd
      rw [l.put_e x hi]
      exact Tk.back_mono ih
    rw [l.put_drip x hi]
    unfold Sn.Le at ha ⊢
    simp only
    have : (l.put x).tk.full = l.tk.full := rfl
    omega
/-- A drawing of nothing more. -/
structure Lg.Stay (l : Lg) (d : Int) : Prop where
  a1 : l.addE (drE d 0) = 0
  ae : (l.put (drE d 0)).aerr = 0
  at_ : ∀ i, i ≤ l.es.length → (l.put (drE d 0)).at i = l.at i
  last : (l.put (drE d 0)).at (l.es.length + 1) = l.at l.es.length
  lost : ∀ sign, sign = -1 ∨ sign = 1 → (l.put (drE d 0)).lostI sign = l.lostI sign
  moved : (l.put (drE d 0)).moved l.es.length = ⟨0, 0⟩
end Go.Proofs.YthkimgfgpphgnaaGreat.T

/- What leaks in a truth, and altogether: plain facts. -/
namespace Go.Proofs.YthkimgfgpphgnaaGreat.T
open Go.RowKit Go.Proofs Go.Eng
set_option maxRecDepth 100000
set_option linter.unusedVariables false
set_option linter.unusedSimpArgs false

def lkS (T U : Nat → Int) : Nat → Int
  | 0 => 0
  | k + 1 => lkS T U k + (T k - U k)
theorem lkS_congr {T U T' U' : Nat → Int} : ∀ k, (∀ i, i < k → T i = T' i ∧ U i = U' i) → lkS T U k = lkS T' U' k
  | 0, _ => rfl
  | k + 1, h => by
    show lkS T U k + (T k - U k) = lkS T' U' k + (T' k - U' k)
    rw [lkS_congr k fun i hi => h i (by omega), (h k (by omega)).1, (h k (by omega)).2]
theorem Lg.Tru.lk0 {l : Lg} {T U : Nat → Int} (h : l.Tru T U) : ∀ k, k ≤ l.es.length → 0 ≤ lkS T U k
  | 0, _ => Int.le_refl _
  | k + 1, hk => by
    have ih := Lg.Tru.lk0 h k (by omega)
    have := (h.sp k (by omega)).1
    show 0 ≤ lkS T U k + (T k - U k)
    omega
theorem Lg.best_ge {l : Lg} (hok : l.Ok) {F : Nat} (hFu : l.tk.full = (F : Int)) {sign : Int} (hs : sign = -1 ∨ sign = 1) {T U : Nat → Int} (h : l.Tru T U) : ∀ k, k ≤ l.es.length → sign * lkS T U k ≤ l.bestK F sign k (T k).toNat
  | 0, _ => by
    have hb := h.bd hok 0 (Nat.zero_le _)
    have hst := h.st
    unfold Sn.In at hst
    show sign * 0 ≤ l.best0 (T 0).toNat
    unfold Lg.best0
    rw [if_pos (by omega), Int.mul_zero]; exact Int.le_refl _
  | k + 1, hk => by
    have ih := Lg.best_ge hok hFu hs h k (by omega)
    have hb := h.bd hok k (by omega)
    have hb1 := h.bd hok (k + 1) hk
    have hu := h.ubd hok (i := k) (by omega)
    obtain ⟨h1, h2⟩ := h.sp k (by omega)
    obtain ⟨v, hv⟩ := Int.eq_ofNat_of_zero_le hb.1
    obtain ⟨u, hu'⟩ := Int.eq_ofNat_of_zero_le hu.1
    obtain ⟨t, ht⟩ := Int.eq_ofNat_of_zero_le hb1.1
    have e1 : lkS T U (k + 1) = lkS T U k + ((v : Int) - (u : Int)) := by show lkS T U k + (T k - U k) = _; rw [hv, hu']
    rw [hv, Int.toNat_natCast] at ih
    rw [ht, Int.toNat_natCast, e1]
    have m1 := mv_ge (F := F) (lo := -l.drip k) (hi := 0) (wo := sign) (best := l.bestK F sign k) (t := u) (v := v) (by omega) (by omega) (by omega)
    have m1' : sign * (lkS T U k + ((v : Int) - (u : Int))) ≤ mv F (-l.drip k) 0 sign (l.bestK F sign k) u := by
      unfold mvG at m1
      rw [Int.mul_add]; omega
    show _ ≤ l.bstep F sign k (l.bestK F sign k) t
    unfold Lg.bstep
    rw [hu', ht] at h2
    have m2 : ∀ lo hi : Int, lo ≤ (t : Int) - u → (t : Int) - u ≤ hi → sign * (lkS T U k + ((v : Int) - (u : Int))) ≤ mv F lo hi 0 (mv F (-l.drip k) 0 sign (l.bestK F sign k)) t := fun lo hi g1 g2 => by
      have := mv_ge (F := F) (lo := lo) (hi := hi) (wo := 0) (best := mv F (-l.drip k) 0 sign (l.bestK F sign k)) (t := t) (v := u) (by omega) g1 g2
      unfold mvG at this
      rw [Int.zero_mul, Int.add_zero] at this
      exact Int.le_trans m1' this
    rcases h2 with ⟨hk1, h2⟩ | ⟨hk2, h2⟩ | ⟨hk3, h2, h3⟩
    · rw [if_pos hk1]; exact m2 _ _ (by omega) (by omega)
    · rw [if_neg (by omega), if_pos hk2]; exact m2 _ _ (by omega) (by omega)
    · rw [if_neg (by omega), if_neg (by omega)]
      obtain rfl : t = u := by omega
      unfold Sn.In at h3
      unfold dipF
      rw [if_pos (inB1.2 h3)]
      exact m1'
theorem mxF_at {g : Nat → Int} {a : Nat} : ∀ {n : Nat}, never < mxF g a n → ∃ j, j < n ∧ mxF g a n = g (a + j)
  | 0, h => absurd h (by show ¬ never < never; omega)
  | n + 1, h => by
    have hd : mxF g a (n + 1) = max (mxF g a n) (g (a + n)) := rfl
    by_cases hc : g (a + n) < mxF g a n
    · obtain ⟨j, hj, he⟩ := mxF_at (g := g) (a := a) (n := n) (by omega)
      exact ⟨j, by omega, by omega⟩
    · exact ⟨n, by omega, by omega⟩
theorem maxN_at {f : Nat → Int} : ∀ {n : Nat}, 0 < n → ∃ j, j < n ∧ maxN f n = f j
  | 0, h => by omega
  | 1, _ => ⟨0, by omega, by show max (f 0) (f 0) = f 0; omega⟩
  | n + 2, _ => by
    obtain ⟨j, hj, he⟩ := maxN_at (f := f) (n := n + 1) (by omega)
    have hd : maxN f (n + 2) = max (maxN f (n + 1)) (f (n + 1)) := rfl
    by_cases hc : f (n + 1) < maxN f (n + 1)
    · exact ⟨j, by omega, by omega⟩
    · exact ⟨n + 1, by omega, by omega⟩
theorem mv_at {F : Nat} {lo hi wo : Int} {best : Nat → Int} {t : Nat} (h : never < mv F lo hi wo best t) : ∃ v : Nat, v ≤ F ∧ lo ≤ (t : Int) - v ∧ (t : Int) - v ≤ hi ∧ mv F lo hi wo best t = best v + wo * ((v : Int) - (t : Int)) := by
  unfold mv at h ⊢
  obtain ⟨j, hj, he⟩ := mxF_at h
  refine ⟨mvA hi t + j, ?_, ?_, ?_, he⟩
  all_goals (unfold mvN at hj; unfold mvA; omega)
def thr (k : Nat) : Int := -1000000000 + 1000 * (k : Int)
theorem Lg.best_at {l : Lg} (hok : l.Ok) {F : Nat} (hFu : l.tk.full = (F : Int)) (hF6 : F ≤ 600) {sign : Int} (hs : sign = -1 ∨ sign = 1) : ∀ k, k ≤ l.es.length → ∀ t, t ≤ F → thr k < l.bestK F sign k t →
    ∃ T U : Nat → Int, T k = (t : Int) ∧ l.start.In (T 0) ∧ (∀ i, i < k → l.Stp T U i) ∧ sign * lkS T U k = l.bestK F sign k t
  | 0, _, t, ht, h => by
    have hd : l.bestK F sign 0 t = l.best0 t := rfl
    rw [hd] at h ⊢
    unfold Lg.best0 at h ⊢
    have hn := never_eq
    by_cases hc : l.start.lo ≤ (t : Int) ∧ (t : Int) ≤ l.start.hi
    · rw [if_pos hc]
      exact ⟨fun _ => t, fun _ => t, rfl, hc, fun i hi => absurd hi (by omega), Int.mul_zero _⟩
    · rw [if_neg hc] at h
      unfold thr at h; omega
  | k + 1, hk, t, ht, h => by
    have hn := never_eq
    have hd := hok.drip_bd (i := k) (by omega)
    have hkd := hok.kind k (by omega)
    have hz := Sn.inB_iff.1 (hok.size k (by omega))
    have hstep : l.bestK F sign (k + 1) t = l.bstep F sign k (l.bestK F sign k) t := rfl
    rw [hstep] at h ⊢
    have hth : thr (k + 1) = thr k + 1000 := by unfold thr; push_cast; omega
    have hth0 : -1000000000 ≤ thr k := by unfold thr; omega
    -- from the number before the entry on
    have key : ∀ u : Nat, u ≤ F → thr k + 700 < mv F (-l.drip k) 0 sign (l.bestK F sign k) u → l.tk.Mv (l.e k) (u : Int) (t : Int) →
        ∃ T U : Nat → Int, T (k + 1) = (t : Int) ∧ l.start.In (T 0) ∧ (∀ i, i < k + 1 → l.Stp T U i) ∧ sign * lkS T U (k + 1) = mv F (-l.drip k) 0 sign (l.bestK F sign k) u := fun u hu h1 hm => by
      obtain ⟨v, hv, g1, g2, g3⟩ := mv_at (show never < mv F (-l.drip k) 0 sign (l.bestK F sign k) u by omega)
      have hvb : thr k < l.bestK F sign k v := by
        rcases hs with rfl | rfl <;> omega
      obtain ⟨T, U, t1, t2, t3, t4⟩ := Lg.best_at hok hFu hF6 hs k (by omega) v hv hvb
      refine ⟨fun j => if j = k + 1 then (t : Int) else T j, fun j => if j = k then (u : Int) else U j, if_pos rfl, by simpa using t2, fun i hi => ?_, ?_⟩
      · by_cases hik : i = k
        · subst hik
          unfold Lg.Stp
          simp only [if_true]
          rw [if_neg (by omega), t1]
          exact ⟨⟨by omega, by omega⟩, hm⟩
        · exact (t3 i (by omega)).congr (by rw [if_neg (by omega)]) (by rw [if_neg hik]) (by rw [if_neg (by omega)])
      · have e : lkS (fun j => if j = k + 1 then (t : Int) else T j) (fun j => if j = k then (u : Int) else U j) k = lkS T U k := lkS_congr k fun i hi => ⟨if_neg (by omega), if_neg (by omega)⟩
        show sign * (lkS _ _ k + ((if k = k + 1 then (t : Int) else T k) - (if k = k then (u : Int) else U k))) = _
        rw [e, if_neg (by omega), if_pos rfl, t1, g3, ← t4, Int.mul_add]
    unfold Lg.bstep at h ⊢
    have two : ∀ lo hi : Int, thr (k + 1) < mv F lo hi 0 (mv F (-l.drip k) 0 sign (l.bestK F sign k)) t → (∀ u : Nat, u ≤ F → lo ≤ (t : Int) - u → (t : Int) - u ≤ hi → l.tk.Mv (l.e k) (u : Int) (t : Int)) →
        ∃ T U : Nat → Int, T (k + 1) = (t : Int) ∧ l.start.In (T 0) ∧ (∀ i, i < k + 1 → l.Stp T U i) ∧ sign * lkS T U (k + 1) = mv F lo hi 0 (mv F (-l.drip k) 0 sign (l.bestK F sign k)) t := fun lo hi h hm => by
      obtain ⟨u, hu, g1, g2, g3⟩ := mv_at (show never < mv F lo hi 0 (mv F (-l.drip k) 0 sign (l.bestK F sign k)) t by omega)
      rw [Int.zero_mul, Int.add_zero] at g3
      rw [g3] at h ⊢
      exact key u hu (by omega) (hm u hu g1 g2)
    obtain h1 | h1 | h1 : (l.e k).kind = 1 ∨ (l.e k).kind = 2 ∨ (l.e k).kind = 3 := by omega
    · rw [if_pos h1] at h ⊢
      exact two _ _ h fun u hu g1 g2 => .inl ⟨h1, by omega, by omega, by omega, by omega⟩
    · rw [if_neg (by omega), if_pos h1] at h ⊢
      exact two _ _ h fun u hu g1 g2 => .inr (.inl ⟨h1, by omega, by omega, by omega, by omega⟩)
    · rw [if_neg (by omega), if_neg (by omega)] at h ⊢
      unfold dipF at h ⊢
      by_cases hc : inB (l.tk.dip (l.e k).size).lo (l.tk.dip (l.e k).size).hi [(t : Int)] = true
      · rw [if_pos hc] at h ⊢
        exact key t ht (by omega) (.inr (.inr ⟨h1, rfl, inB1.1 hc⟩))
      · rw [if_neg hc] at h; omega
/-- All that leaks: no truth leaks less, or more, and some leak just that. -/
structure Lg.Leak (l : Lg) : Prop where
  ge : ∀ T U, l.Tru T U → lkS T U l.es.length ≤ l.lostI 1 ∧ -l.lostI (-1) ≤ lkS T U l.es.length
  hi : ∃ T U, l.Tru T U ∧ lkS T U l.es.length = l.lostI 1
  lo : ∃ T U, l.Tru T U ∧ lkS T U l.es.length = -l.lostI (-1)
theorem Lg.leak {l : Lg} (hok : l.Ok) (hh : l.holdsB = true) : l.Leak := by
  have hf := hok.tk.full_bd
  have h12 := hok.n12
  have hFu : l.tk.full = (l.tk.full.toNat : Int) := by omega
  have hF6 : l.tk.full.toNat ≤ 600 := by omega
  have ge : ∀ sign : Int, sign = -1 ∨ sign = 1 → ∀ T U, l.Tru T U → sign * lkS T U l.es.length ≤ l.lostI sign := fun sign hs T U h => by
    have h1 := Lg.best_ge hok hFu hs h l.es.length (Nat.le_refl _)
    have hb := h.bd hok l.es.length (Nat.le_refl _)
    have h2 := maxN_ge (f := l.bestK l.tk.full.toNat sign l.es.length) (n := l.tk.full.toNat + 1) (j := (T l.es.length).toNat) (by omega)
    exact Int.le_trans h1 h2
  have lkb : ∀ T U, l.Tru T U → ∀ k, k ≤ l.es.length → lkS T U k ≤ 600 * (k : Int) := fun T U h k => by
    induction k with
    | zero => intro _; exact Int.le_refl _
    | succ k ih =>
      intro hk
      have := ih (by omega)
      have h1 := h.bd hok k (by omega)
      have h2 := h.ubd hok (i := k) (by omega)
      show lkS T U k + (T k - U k) ≤ _
      push_cast; omega
  have at_ : ∀ sign : Int, sign = -1 ∨ sign = 1 → ∃ T U, l.Tru T U ∧ sign * lkS T U l.es.length = l.lostI sign := fun sign hs => by
    obtain ⟨T0, U0, h0⟩ := (Lg.holdsB_tru hok).1 hh
    have g1 := ge sign hs T0 U0 h0
    have g2 := lkb T0 U0 h0 l.es.length (Nat.le_refl _)
    have g3 := h0.lk0 l.es.length (Nat.le_refl _)
    obtain ⟨j, hj, he⟩ := maxN_at (f := l.bestK l.tk.full.toNat sign l.es.length) (n := l.tk.full.toNat + 1) (by omega)
    have he' : l.lostI sign = l.bestK l.tk.full.toNat sign l.es.length j := he
    obtain ⟨T, U, t1, t2, t3, t4⟩ := Lg.best_at hok hFu hF6 hs l.es.length (Nat.le_refl _) j (by omega) (by rw [← he']; unfold thr; rcases hs with rfl | rfl <;> omega)
    exact ⟨T, U, ⟨t2, t3⟩, by rw [he', t4]⟩
  refine ⟨fun T U h => ⟨?_, ?_⟩, ?_, ?_⟩
  · have := ge 1 (.inr rfl) T U h; omega
  · have := ge (-1) (.inl rfl) T U h; omega
  · obtain ⟨T, U, h1, h2⟩ := at_ 1 (.inr rfl); exact ⟨T, U, h1, by omega⟩
  · obtain ⟨T, U, h1, h2⟩ := at_ (-1) (.inl rfl); exact ⟨T, U, h1, by omega⟩
end Go.Proofs.YthkimgfgpphgnaaGreat.T

/- A drawing of nothing more leaves all as it was: the law walked. -/
namespace Go.Proofs.YthkimgfgpphgnaaGreat.T
open Go.RowKit Go.Proofs Go.Eng
set_option maxRecDepth 100000
set_option maxHeartbeats 2000000
set_option linter.unusedVariables false
set_option linter.unusedSimpArgs false



theorem AddV.full {l : Lg} {x : En} {v : Value} {Hn : List Blk} (h : AddV l x v Hn) (h9 : l.addE x = 9) : v = .tuple #[zeroLg, .int .i64 9] ∧ Hn = [] := by
  obtain ⟨v0, rfl, h1, _⟩ := h
  obtain ⟨rfl, rfl⟩ := h1 (by omega)
  rw [h9]
  exact ⟨rfl, rfl⟩
end Go.Proofs.YthkimgfgpphgnaaGreat.T

/- One dip more never widens what is known: plain facts, and the law walked. -/
namespace Go.Proofs.YthkimgfgpphgnaaGreat.T
open Go.RowKit Go.Proofs Go.Eng
set_option maxRecDepth 100000
set_option maxHeartbeats 2000000
set_option linter.unusedVariables false
set_option linter.unusedSimpArgs false



def Sn.W3 (a b : Sn) : Prop := b.lo ≤ a.lo ∧ a.hi ≤ b.hi ∧ a.lo ≤ a.hi
def Lg.lostS (l : Lg) (k : Nat) : Sn := Sn.met ⟨0, l.drip k⟩ ((l.hold k).sub (l.ahd k))
theorem Lg.Tru.moved {l : Lg} {T U : Nat → Int} (h : l.Tru T U) (hok : l.Ok) {k : Nat} (hk : k < l.es.length) (h3 : (l.e k).kind ≠ 3) : (l.moved k).lo ≤ (l.moved k).hi := by
  obtain ⟨h1, h2⟩ := h.sp k hk
  have hb := Lg.before_of (h.hold k (by omega)) h1.1 h1.2
  have ha := h.aft hok (i := k + 1) hk
  unfold Sn.In at hb ha
  unfold Lg.moved
  rcases h2 with ⟨hk1, h2⟩ | ⟨hk2, h2⟩ | ⟨hk3, _⟩
  · rw [if_neg (by omega)]; unfold Sn.met Sn.sub; simp only; omega
  · rw [if_pos hk2]; unfold Sn.met Sn.sub; simp only; omega
  · exact absurd hk3 h3
theorem Lg.Tru.lost {l : Lg} {T U : Nat → Int} (h : l.Tru T U) (hok : l.Ok) {k : Nat} (hk : k < l.es.length) : (l.lostS k).lo ≤ (l.lostS k).hi ∧ (l.lostS k).lo ≤ T k - U k ∧ T k - U k ≤ (l.lostS k).hi := by
  obtain ⟨h1, h2⟩ := h.sp k hk
  have hb := h.hold k (by omega)
  have ha := h.ahd hok hk
  unfold Sn.In at hb ha
  unfold Lg.lostS Sn.met Sn.sub
  simp only
  omega
structure Lg.More (l : Lg) (x : En) : Prop where
  wat : ∀ i, i ≤ l.es.length → ((l.put x).at i).W3 (l.at i)
  wmv : ∀ k, k < l.es.length → (l.e k).kind ≠ 3 → ((l.put x).moved k).W3 (l.moved k)
  wlo : ∀ k, k < l.es.length → ((l.put x).lostS k).W3 (l.lostS k)
  k1 : 0 ≤ -l.lostI (-1)
  k2 : -l.lostI (-1) ≤ -(l.put x).lostI (-1)
  k3 : -(l.put x).lostI (-1) ≤ (l.put x).lostI 1
  k4 : (l.put x).lostI 1 ≤ l.lostI 1 + (l.put x).drip l.es.length
theorem Lg.put_tru {l : Lg} {x : En} {T U : Nat → Int} (h : (l.put x).Tru T U) : l.Tru T U := ⟨h.st, fun i hi => by
  have := h.sp i (by rw [l.put_len]; omega)
  unfold Lg.Stp at this ⊢
  rw [l.put_e x hi, l.put_drip x hi] at this
  exact this⟩
theorem Lg.more {l : Lg} {x : En} (h : l.err = 0) (hh : l.holdsB = true) (h' : (l.put x).err = 0) (hh' : (l.put x).holdsB = true) : l.More x := by
  have hok := l.ok_of h
  have hok' := (l.put x).ok_of h'
  have hl := l.put_len x
  obtain ⟨T, U, ht⟩ := (Lg.holdsB_tru hok').1 hh'
  have hle0 : ((l.put x).aft l.es.length).Le (l.aft l.es.length) := by
    rw [l.aft_n]
    have := hok'.aft_bd (i := l.es.length) (by omega)
    unfold Sn.Le Tk.all
    exact ⟨this.1, this.2.1⟩
  have hle : ∀ i, i ≤ l.es.length → ((l.put x).aft i).Le (l.aft i) := fun i hi => by
    have := Lg.put_aft_le hle0 (l.es.length - i) (by omega)
    rwa [show l.es.length - (l.es.length - i) = i by omega] at this
  have hah : ∀ i, i < l.es.length → ((l.put x).ahd i).Le (l.ahd i) := fun i hi => by
    unfold Lg.ahd
    rw [l.put_e x hi]
    exact Tk.back_mono (hle (i + 1) hi)
  have hK := Lg.leak hok hh
  have hK' := Lg.leak hok' hh'
  obtain ⟨ge', hi', lo'⟩ := hK'
  rw [hl] at ge' hi' lo'
  refine ⟨fun i hi => ?_, fun k hk h3 => ?_, fun k hk => ?_, ?_, ?_, ?_, ?_⟩
  · have h1 := hle i hi
    have h2 := Lg.at_ne hok' hh' (i := i) (by omega)
    unfold Lg.at at h2 ⊢
    rw [l.put_hold x i hi] at h2 ⊢
    unfold Sn.Le at h1
    unfold Sn.W3 Sn.met at *
    simp only at *
    omega
  · have h1 := hle (k + 1) hk
    have h2 := ht.moved hok' (k := k) (by omega) (by rw [l.put_e x hk]; exact h3)
    unfold Lg.moved Lg.before at h2 ⊢
    rw [l.put_hold x k (by omega), l.put_e x hk, l.put_drip x hk] at h2 ⊢
    unfold Sn.Le at h1
    by_cases hk2 : (l.e k).kind = 2
    · rw [if_pos hk2] at h2 ⊢
      rw [if_pos hk2]
      unfold Sn.W3 Sn.met Sn.sub at *
      simp only at *
      omega
    · rw [if_neg hk2] at h2 ⊢
      rw [if_neg hk2]
      unfold Sn.W3 Sn.met Sn.sub at *
      simp only at *
      omega
  · have h1 := hah k hk
    have h2 := (ht.lost hok' (k := k) (by omega)).1
    unfold Lg.lostS at h2 ⊢
    rw [l.put_hold x k (by omega), l.put_drip x hk] at h2 ⊢
    unfold Sn.Le at h1
    unfold Sn.W3 Sn.met Sn.sub at *
    simp only at *
    omega
  · obtain ⟨T0, U0, h1, h2⟩ := hK.lo
    have := h1.lk0 l.es.length (Nat.le_refl _)
    omega
  · obtain ⟨T0, U0, h1, h2⟩ := lo'
    have h3 := (hK.ge T0 U0 (Lg.put_tru h1)).2
    have h4 := (h1.sp l.es.length (by omega)).1
    have h5 : lkS T0 U0 (l.es.length + 1) = lkS T0 U0 l.es.length + (T0 l.es.length - U0 l.es.length) := rfl
    omega
  · have := ge' T U ht
    omega
  · obtain ⟨T0, U0, h1, h2⟩ := hi'
    have h3 := (hK.ge T0 U0 (Lg.put_tru h1)).1
    have h4 := (h1.sp l.es.length (by omega)).1
    have h5 : lkS T0 U0 (l.es.length + 1) = lkS T0 U0 l.es.length + (T0 l.es.length - U0 l.es.length) := rfl
    omega
def wiB (a b c d : Int) : Bool := decide (c ≤ a) && decide (b ≤ d) && decide (a ≤ b)
def mxE (o a b : Int) : En := ⟨o, 3, ⟨min a b, max a b⟩⟩
structure Lg.MoH (l : Lg) (o A B : Int) (p1 p2 p3 : Int) : Prop where
  hp1 : 0 ≤ p1 ∧ p1 ≤ 255
  hp2 : 0 ≤ p2 ∧ p2 ≤ 255
  hp3 : 0 ≤ p3 ∧ p3 ≤ 255
  hA : p2 % (l.tk.height + 1) = A
  hB : p3 % (l.tk.height + 1) = B
  hO : min 3652 (l.dayAt l.es.length + p1 % 20) = o
end Go.Proofs.YthkimgfgpphgnaaGreat.T

/- What was there, filled in, drawn and leaked adds up: plain facts, and the law walked. -/
namespace Go.Proofs.YthkimgfgpphgnaaGreat.T
open Go.RowKit Go.Proofs Go.Eng
set_option maxRecDepth 100000
set_option maxHeartbeats 2000000
set_option linter.unusedVariables false
set_option linter.unusedSimpArgs false



def Lg.inS (l : Lg) : Nat → Sn
  | 0 => l.at 0
  | k + 1 => if (l.e k).kind = 3 then l.inS k else if (l.e k).kind = 1 then ⟨(l.inS k).lo + (l.moved k).lo, (l.inS k).hi + (l.moved k).hi⟩ else ⟨(l.inS k).lo - (l.moved k).hi, (l.inS k).hi - (l.moved k).lo⟩
def Lg.drS (l : Lg) : Nat → Sn
  | 0 => Sn.z
  | k + 1 => if k + 1 < l.es.length then ⟨(l.drS k).lo + (l.lostS (k + 1)).lo, (l.drS k).hi + (l.lostS (k + 1)).hi⟩ else l.drS k
theorem Lg.Tru.inS {l : Lg} {T U : Nat → Int} (h : l.Tru T U) (hok : l.Ok) : ∀ k, k ≤ l.es.length → (l.inS k).lo ≤ T k + lkS T U k ∧ T k + lkS T U k ≤ (l.inS k).hi
  | 0, _ => by
    have := h.at hok (Nat.zero_le _)
    unfold Sn.In at this
    show (l.at 0).lo ≤ T 0 + 0 ∧ T 0 + 0 ≤ (l.at 0).hi
    omega
  | k + 1, hk => by
    have ih := Lg.Tru.inS h hok k (by omega)
    obtain ⟨h1, h2⟩ := h.sp k (by omega)
    have hb := Lg.before_of (h.hold k (by omega)) h1.1 h1.2
    have ha := h.aft hok (i := k + 1) hk
    unfold Sn.In at hb ha
    have e1 : lkS T U (k + 1) = lkS T U k + (T k - U k) := rfl
    rw [e1]
    unfold Lg.inS
    rcases h2 with ⟨hk1, h2⟩ | ⟨hk2, h2⟩ | ⟨hk3, h2, _⟩
    · rw [if_neg (by omega), if_pos hk1]
      have hm : (l.moved k).lo ≤ T (k + 1) - U k ∧ T (k + 1) - U k ≤ (l.moved k).hi := by
        unfold Lg.moved
        rw [if_neg (by omega)]; unfold Sn.met Sn.sub; simp only; omega
      simp only; omega
    · rw [if_neg (by omega), if_neg (by omega)]
      have hm : (l.moved k).lo ≤ U k - T (k + 1) ∧ U k - T (k + 1) ≤ (l.moved k).hi := by
        unfold Lg.moved
        rw [if_pos hk2]; unfold Sn.met Sn.sub; simp only; omega
      simp only; omega
    · rw [if_pos hk3]; omega
theorem Lg.Tru.drS {l : Lg} {T U : Nat → Int} (h : l.Tru T U) (hok : l.Ok) : ∀ k, k < l.es.length → (l.drS k).lo ≤ lkS T U (k + 1) ∧ lkS T U (k + 1) ≤ (l.drS k).hi
  | 0, hk => by
    have h1 := (h.sp 0 hk).1
    have hd : l.drip 0 = 0 := rfl
    show (0 : Int) ≤ 0 + (T 0 - U 0) ∧ 0 + (T 0 - U 0) ≤ 0
    omega
  | k + 1, hk => by
    have ih := Lg.Tru.drS h hok k (by omega)
    have hl := (h.lost hok hk).2
    have e1 : lkS T U (k + 1 + 1) = lkS T U (k + 1) + (T (k + 1) - U (k + 1)) := rfl
    rw [e1]
    unfold Lg.drS
    rw [if_pos hk]
    simp only; omega
theorem Lg.Tru.drN {l : Lg} {T U : Nat → Int} (h : l.Tru T U) (hok : l.Ok) : (l.drS l.es.length).lo ≤ lkS T U l.es.length ∧ lkS T U l.es.length ≤ (l.drS l.es.length).hi := by
  rcases Nat.eq_zero_or_pos l.es.length with h0 | h0
  · rw [h0]; show (0 : Int) ≤ 0 ∧ (0 : Int) ≤ 0; omega
  · have := h.drS hok (l.es.length - 1) (by omega)
    obtain ⟨m, hm⟩ : ∃ m, l.es.length = m + 1 := ⟨l.es.length - 1, by omega⟩
    have e : l.drS l.es.length = l.drS m := by
      rw [hm]
      show (if m + 1 < l.es.length then _ else l.drS m) = _
      rw [if_neg (by omega)]
    rw [e]
    rw [hm] at this ⊢
    exact this
structure Lg.Sums (l : Lg) : Prop where
  s1 : (l.drS l.es.length).lo ≤ -l.lostI (-1)
  s2 : l.lostI 1 ≤ (l.drS l.es.length).hi
  s3 : (l.at l.es.length).hi ≤ (l.inS l.es.length).hi - -l.lostI (-1)
  s4 : (l.inS l.es.length).lo - l.lostI 1 ≤ (l.at l.es.length).lo
  s5 : (l.inS l.es.length).lo - (l.at l.es.length).hi ≤ -l.lostI (-1)
  s6 : l.lostI 1 ≤ (l.inS l.es.length).hi - (l.at l.es.length).lo
  s7 : 0 ≤ -l.lostI (-1)
  s8 : -l.lostI (-1) ≤ l.lostI 1
theorem Lg.sums {l : Lg} (hok : l.Ok) (hh : l.holdsB = true) : l.Sums := by
  have hK := Lg.leak hok hh
  have hne := Lg.at_ne hok hh (Nat.le_refl _)
  obtain ⟨T1, U1, t1, e1⟩ := hK.lo
  obtain ⟨T2, U2, t2, e2⟩ := hK.hi
  obtain ⟨T3, U3, t3, e3⟩ := Lg.at_tru hok hh (Nat.le_refl _) (v := (l.at l.es.length).hi) ⟨hne, Int.le_refl _⟩
  obtain ⟨T4, U4, t4, e4⟩ := Lg.at_tru hok hh (Nat.le_refl _) (v := (l.at l.es.length).lo) ⟨Int.le_refl _, hne⟩
  have d1 := t1.drN hok
  have d2 := t2.drN hok
  have i1 := t1.inS hok _ (Nat.le_refl _)
  have i2 := t2.inS hok _ (Nat.le_refl _)
  have i3 := t3.inS hok _ (Nat.le_refl _)
  have i4 := t4.inS hok _ (Nat.le_refl _)
  have a1 := t1.at hok (Nat.le_refl _)
  have a2 := t2.at hok (Nat.le_refl _)
  have g3 := hK.ge _ _ t3
  have g4 := hK.ge _ _ t4
  have g1 := hK.ge _ _ t1
  have z := t1.lk0 l.es.length (Nat.le_refl _)
  unfold Sn.In at a1 a2
  refine ⟨?_, ?_, ?_, ?_, ?_, ?_, ?_, ?_⟩ <;> omega
end Go.Proofs.YthkimgfgpphgnaaGreat.T

/- The fewest dips must be false: the law walked. -/
namespace Go.Eng
open Go.RowKit
section
variable {C : Ctx} {e : Env} {H : List Blk} {d : Option Tmp} {ty : TypeId} {pos : String} {af : Array Edge} {g : Option (Nat × Bool)} {x y : Operand} {t t' : TypeId} {m i : Nat}
end
end Go.Eng
namespace Go.Proofs.YthkimgfgpphgnaaGreat.T
open Go.RowKit Go.Proofs Go.Eng
set_option maxRecDepth 100000
set_option maxHeartbeats 2000000
set_option linter.unusedVariables false
set_option linter.unusedSimpArgs false



def setK (p : Nat → Bool) (n : Nat) : List Int := ((List.range n).filter p).map fun i : Nat => (i : Int) + 1
theorem setK_sorted (p : Nat → Bool) (n : Nat) : (setK p n).Pairwise (· < ·) := by
  unfold setK
  rw [List.pairwise_map]
  refine (List.pairwise_lt_range.filter _).imp fun {a b} h => ?_
  omega
theorem setK_mem {p : Nat → Bool} {n : Nat} {x : Int} (h : x ∈ setK p n) : 0 < x ∧ x ≤ (n : Int) ∧ p (x - 1).toNat = true := by
  unfold setK at h
  obtain ⟨i, hi, rfl⟩ := List.mem_map.1 h
  have h2 := List.mem_filter.1 hi
  have := List.mem_range.1 h2.1
  rw [show ((i : Int) + 1 - 1).toNat = i by omega]
  exact ⟨by omega, by omega, h2.2⟩
theorem WrongV.row {l : Lg} {v : Value} {Hn : List Blk} (h : WrongV l v Hn) : ∃ fa fcap, v = .tuple #[.slice fa l.wrL.length fcap, .int .i64 l.wrE] ∧ Row 3 1 fa l.wrL.length fcap (iv l.wrL) Hn := by
  unfold Lg.wrL Lg.wrE
  by_cases h0 : l.err = 0
  · rw [if_pos h0, if_pos h0]
    cases hw : l.wr with
    | none =>
      obtain ⟨rfl, rfl⟩ := (h.2 h0).2 hw
      exact ⟨none, 0, rfl, Row.nil 3 1⟩
    | some R =>
      obtain ⟨fa, fn, fcap, rfl, hr, rfl⟩ := (h.2 h0).1 R hw
      exact ⟨fa, fcap, rfl, hr⟩
  · rw [if_neg h0, if_neg h0]
    obtain ⟨rfl, rfl⟩ := h.1 h0
    exact ⟨none, 0, rfl, Row.nil 3 1⟩
theorem Row.adr {E : TypeId} {sz n cap : Nat} {a : Option Addr} {us : List Value} {Hn : List Blk} (h : Row E sz a n cap us Hn) (hn : 0 < n) : ∃ b, a = some ⟨b, 0, none⟩ := by
  rcases h with ⟨_, h0, _⟩ | ⟨b, _, rfl, _⟩
  · omega
  · exact ⟨b, rfl⟩
def Lg.dK (l : Lg) (i : Nat) : Bool := decide ((l.e i).kind = 3)
def Lg.oK (l : Lg) (s : Nat) (i : Nat) : Bool := decide ((l.e i).kind = 3) && s.testBit i
theorem Lg.Fits.set {l : Lg} {p : Nat → Bool} (h : ∀ i, p i = true → (l.e i).kind = 3) : l.Fits 0 (setK p l.es.length) :=
  ⟨setK_sorted _ _, fun x hx => ⟨(setK_mem hx).1, (setK_mem hx).2.1, h _ (setK_mem hx).2.2⟩⟩
theorem Lg.Ok.err {l : Lg} (h : l.Ok) : l.err = 0 := by
  refine Lg.err0_iff.2 ⟨Tk.ok_iff.2 h.tk, ?_⟩
  unfold Lg.okB
  have key : ∀ k, k ≤ l.es.length → l.tk.entsB 0 (l.es.take k) = true := by
    intro k
    induction k with
    | zero => intro _; rfl
    | succ k ih =>
      intro hk
      rw [l.tk.entsB_succ l.es 0 k hk, ih (by omega), Bool.true_and]
      have hz := Sn.inB_iff.1 (h.size k hk)
      refine Tk.entB_iff.2 ⟨⟨?_, (h.day k hk).2⟩, h.kind k hk, hz.1, hz.2.1, hz.2.2⟩
      by_cases h0 : k = 0
      · rw [if_pos h0]; exact (h.day k hk).1
      · rw [if_neg h0]
        have := h.mono (k - 1) (by omega)
        rw [show k - 1 + 1 = k by omega] at this
        exact this
  have := key l.es.length (Nat.le_refl _)
  rw [List.take_length] at this
  rw [h.start, this, decide_eq_true h.n12]; rfl
structure Lg.Wr (l : Lg) (R O D : List Int) (e : Int) : Prop where
  s1 : l.strE R = 0
  s2 : l.strE O = 0
  s3 : l.strE D = 0
  k1 : (l.wo R).aerr = 0 ∨ (l.wo R).aerr = 8
  k2 : (l.wo O).aerr = 0 ∨ (l.wo O).aerr = 8
  k3 : (l.wo D).aerr = 0 ∨ (l.wo D).aerr = 8
  ee : e = 0 ∨ e = 6
  no : e = 6 → R = [] ∧ (l.wo R).aerr = 8 ∧ (l.wo O).aerr = 8 ∧ (l.wo D).aerr = 8
  is : e = 0 → (l.wo R).aerr = 0 ∧ (befB O R = true → (l.wo O).aerr = 8) ∧ ∀ x ∈ R, 1 ≤ x ∧ x ≤ (l.es.length : Int) ∧ (l.e (x - 1).toNat).kind = 3
theorem StrikeV.ok {l : Lg} {D : List Int} {v : Value} {Hn : List Blk} (h : StrikeV l D v Hn) (h0 : l.strE D = 0) : ∃ a cap ae cape H1 H2, v = .tuple #[.agg #[.slice a (l.wo D).tk.n cap, .int .i64 (l.wo D).tk.leak, .int .i64 (l.wo D).tk.foot, .int .i64 (l.wo D).start.lo, .int .i64 (l.wo D).start.hi, .slice ae (l.wo D).es.length cape], .int .i64 0] ∧
    NewRow 3 1 (l.wo D).tk.n (iv (l.wo D).tk.pints) (.slice a (l.wo D).tk.n cap) H1 ∧ NewRow 38 4 (l.wo D).es.length (rowOf En.cells (l.wo D).e (l.wo D).es.length) (.slice ae (l.wo D).es.length cape) H2 ∧ Hn = H1 ++ H2 := by
  obtain ⟨v0, rfl, _, h2⟩ := h
  obtain ⟨a, cap, ae, cape, H1, H2, rfl, h3, h4, rfl⟩ := h2 h0
  rw [h0]
  exact ⟨a, cap, ae, cape, H1, H2, rfl, h3, h4, rfl⟩
end Go.Proofs.YthkimgfgpphgnaaGreat.T

/- A log cut in two: plain facts. -/
namespace Go.Proofs.YthkimgfgpphgnaaGreat.T
open Go.RowKit Go.Proofs Go.Eng
set_option maxRecDepth 100000
set_option linter.unusedVariables false
set_option linter.unusedSimpArgs false

/-- The log up to a time. -/
def Lg.hd (l : Lg) (m : Nat) : Lg := ⟨l.tk, l.start, l.es.take m⟩
theorem Lg.hd_len {l : Lg} {m : Nat} (h : m ≤ l.es.length) : (l.hd m).es.length = m := by unfold Lg.hd; rw [List.length_take]; omega
theorem Lg.hd_e {l : Lg} {m k : Nat} (h : k < m) : (l.hd m).e k = l.e k := by
  unfold Lg.hd Lg.e
  simp only [List.getD_eq_getElem?_getD, List.getElem?_take]
  rw [if_pos h]
theorem Lg.Ok.hd {l : Lg} (h : l.Ok) {m : Nat} (hm : m ≤ l.es.length) : (l.hd m).Ok := by
  have hl := Lg.hd_len hm
  have h12 := h.n12
  refine ⟨h.tk, h.start, by omega, fun k hk => ?_, fun k hk => ?_, fun k hk => ?_, fun k hk => ?_⟩
  · rw [Lg.hd_e (by omega)]; exact h.day k (by omega)
  · rw [Lg.hd_e (by omega), Lg.hd_e (by omega)]; exact h.mono k (by omega)
  · rw [Lg.hd_e (by omega)]; exact h.kind k (by omega)
  · rw [Lg.hd_e (by omega)]; exact h.size k (by omega)
theorem Lg.hold_all {l : Lg} (hok : l.Ok) (hh : l.holdsB = true) {m : Nat} (hm : m ≤ l.es.length) : 0 ≤ (l.hold m).lo ∧ (l.hold m).lo ≤ (l.hold m).hi ∧ (l.hold m).hi ≤ l.tk.full := by
  have hh' := l.holdsB_iff.1 hh
  have hb := hok.hold_bd m hm fun j hj => hh' j (by omega)
  have hne := Sn.ne_iff.1 (hh' m hm)
  omega
/-- The rest of the log from a time on, which begins with a drawing of what can leak. -/
def Lg.rs (l : Lg) (m : Nat) (s : Sn) : Lg := ⟨l.tk, s, ⟨(l.e m).day, 2, ⟨0, min l.tk.full (l.drip m)⟩⟩ :: l.es.drop m⟩
section
variable {l : Lg} {m : Nat} {s : Sn}
theorem Lg.rs_len : (l.rs m s).es.length = l.es.length - m + 1 := by unfold Lg.rs; simp
theorem Lg.rs_e0 : (l.rs m s).e 0 = ⟨(l.e m).day, 2, ⟨0, min l.tk.full (l.drip m)⟩⟩ := rfl
theorem Lg.rs_e (k : Nat) : (l.rs m s).e (k + 1) = l.e (m + k) := by
  unfold Lg.rs Lg.e
  simp [List.getD_eq_getElem?_getD, List.getElem?_drop]
theorem Lg.rs_drip0 : (l.rs m s).drip 0 = 0 := rfl
theorem Lg.rs_drip1 : (l.rs m s).drip 1 = 0 := by
  unfold Lg.drip
  rw [if_neg (by omega), Lg.rs_e, Nat.sub_self, Lg.rs_e0, Nat.add_zero, Int.sub_self, Int.mul_zero]
theorem Lg.rs_drip (k : Nat) : (l.rs m s).drip (k + 2) = l.drip (m + k + 1) := by
  unfold Lg.drip
  rw [if_neg (by omega), if_neg (by omega), Lg.rs_e, show k + 2 - 1 = k + 1 by omega, Lg.rs_e, show m + k + 1 - 1 = m + k by omega, show m + (k + 1) = m + k + 1 by omega]; rfl
theorem Lg.Ok.rs (h : l.Ok) (h1 : 1 ≤ m) (hm : m < l.es.length) (hs : 0 ≤ s.lo ∧ s.lo ≤ s.hi ∧ s.hi ≤ l.tk.full) : (l.rs m s).Ok := by
  have h12 := h.n12
  have hl : (l.rs m s).es.length = l.es.length - m + 1 := Lg.rs_len
  have hd := h.drip_bd hm
  have hf := h.tk.full_bd
  refine ⟨h.tk, Sn.inB_iff.2 hs, by omega, fun k hk => ?_, fun k hk => ?_, fun k hk => ?_, fun k hk => ?_⟩
  · cases k with
    | zero => exact h.day m hm
    | succ k => rw [Lg.rs_e]; exact h.day _ (by omega)
  · cases k with
    | zero => rw [Lg.rs_e0, Lg.rs_e, Nat.add_zero]; exact Int.le_refl _
    | succ k => rw [Lg.rs_e, Lg.rs_e]; exact h.mono (m + k) (by omega)
  · cases k with
    | zero => rw [Lg.rs_e0]; exact ⟨by show (1 : Int) ≤ 2; decide, by show (2 : Int) ≤ 3; decide⟩
    | succ k => rw [Lg.rs_e]; exact h.kind _ (by omega)
  · cases k with
    | zero =>
      rw [Lg.rs_e0]
      refine Sn.inB_iff.2 ⟨Int.le_refl _, by show 0 ≤ min l.tk.full (l.drip m); omega, by show min l.tk.full (l.drip m) ≤ l.tk.full; omega⟩
    | succ k => rw [Lg.rs_e]; exact h.size _ (by omega)
end
structure Lg.Cut (l : Lg) (m : Nat) : Prop where
  ae : (l.rs m (l.hold m)).aerr = 0
  at0 : (l.rs m (l.hold m)).at 0 = l.at m
  atn : (l.rs m (l.hold m)).at (l.rs m (l.hold m)).es.length = l.at l.es.length
  mv : (l.rs m (l.hold m)).moved 0 = l.lostS m
theorem Lg.cut {l : Lg} (hok : l.Ok) (hh : l.holdsB = true) {m : Nat} (h1 : 1 ≤ m) (hm : m < l.es.length) : l.Cut m := by
  have hA := Lg.hold_all hok hh (m := m) (by omega)
  have hR := hok.rs h1 hm hA
  have hl : (l.rs m (l.hold m)).es.length = l.es.length - m + 1 := Lg.rs_len
  have hh' := l.holdsB_iff.1 hh
  have hd := hok.drip_bd hm
  have hf := hok.tk.full_bd
  have hah := hok.ahd_bd hm
  obtain ⟨T, U, ht⟩ := (Lg.holdsB_tru hok).1 hh
  have hahne := ht.ahd hok hm
  unfold Sn.In at hahne
  have g1 : (l.rs m (l.hold m)).hold 1 = l.before m (l.hold m) := by
    show (l.rs m (l.hold m)).tk.forth ((l.rs m (l.hold m)).e 0) ((l.rs m (l.hold m)).before 0 (l.hold m)) = _
    rw [Lg.rs_e0, Tk.forth_2 rfl]
    unfold Lg.before
    rw [Lg.rs_drip0]
    show (⟨max (max 0 ((l.hold m).lo - 0) - min l.tk.full (l.drip m)) 0, min ((l.hold m).hi - 0) l.tk.full⟩ : Sn) = _
    congr 1 <;> omega
  have g2 : ∀ k, m + k + 1 ≤ l.es.length → (l.rs m (l.hold m)).hold (k + 2) = l.hold (m + k + 1) := by
    intro k
    induction k with
    | zero =>
      intro _
      show (l.rs m (l.hold m)).tk.forth ((l.rs m (l.hold m)).e 1) ((l.rs m (l.hold m)).before 1 ((l.rs m (l.hold m)).hold 1)) = l.tk.forth (l.e m) (l.before m (l.hold m))
      rw [g1, Lg.rs_e, Nat.add_zero]
      have e : (l.rs m (l.hold m)).before 1 (l.before m (l.hold m)) = l.before m (l.hold m) := by
        unfold Lg.before
        rw [Lg.rs_drip1]
        simp only
        congr 1
        omega
      rw [e]; rfl
    | succ k ih =>
      intro hk
      show (l.rs m (l.hold m)).tk.forth ((l.rs m (l.hold m)).e (k + 2)) ((l.rs m (l.hold m)).before (k + 2) ((l.rs m (l.hold m)).hold (k + 2))) = l.tk.forth (l.e (m + k + 1)) (l.before (m + k + 1) (l.hold (m + k + 1)))
      rw [ih (by omega), Lg.rs_e (k + 1)]
      unfold Lg.before
      rw [Lg.rs_drip]; rfl
  have hholds : (l.rs m (l.hold m)).holdsB = true := by
    rw [Lg.holdsB_iff, hl]
    intro k hk
    match k, hk with
    | 0, _ => exact hh' m (by omega)
    | 1, _ =>
      rw [g1]
      refine Sn.ne_iff.2 ?_
      unfold Lg.before
      simp only; omega
    | k + 2, hk => rw [g2 k (by omega)]; exact hh' _ (by omega)
  have a2 : ∀ j, j + m < l.es.length → (l.rs m (l.hold m)).aft (l.es.length - m + 1 - j) = l.aft (l.es.length - j) := by
    intro j
    induction j with
    | zero =>
      intro _
      have := (l.rs m (l.hold m)).aft_n
      rw [hl] at this
      rw [Nat.sub_zero, Nat.sub_zero, this, l.aft_n]; rfl
    | succ j ih =>
      intro hj
      have ih := ih (by omega)
      obtain ⟨k, hk⟩ : ∃ k, l.es.length - m + 1 - (j + 1) = k + 2 := ⟨l.es.length - m + 1 - (j + 1) - 2, by omega⟩
      rw [hk, show l.es.length - (j + 1) = m + k + 1 by omega]
      rw [show l.es.length - m + 1 - j = k + 2 + 1 by omega, show l.es.length - j = m + k + 1 + 1 by omega] at ih
      rw [(l.rs m (l.hold m)).aft_lt (by omega), l.aft_lt (by omega)]
      have ha : (l.rs m (l.hold m)).ahd (k + 2) = l.ahd (m + k + 1) := by
        unfold Lg.ahd
        rw [ih, Lg.rs_e (k + 1)]; rfl
      rw [ha, Lg.rs_drip]; rfl
  have b1 : (l.rs m (l.hold m)).ahd 1 = l.ahd m := by
    unfold Lg.ahd
    have := a2 (l.es.length - m - 1) (by omega)
    rw [show l.es.length - m + 1 - (l.es.length - m - 1) = 1 + 1 by omega, show l.es.length - (l.es.length - m - 1) = m + 1 by omega] at this
    rw [this, Lg.rs_e, Nat.add_zero]; rfl
  have a1 : (l.rs m (l.hold m)).aft 1 = l.ahd m := by
    rw [(l.rs m (l.hold m)).aft_lt (by omega), b1, Lg.rs_drip1]
    show (⟨(l.ahd m).lo, min l.tk.full ((l.ahd m).hi + 0)⟩ : Sn) = ⟨(l.ahd m).lo, (l.ahd m).hi⟩
    congr 1
    omega
  have a0 : (l.rs m (l.hold m)).aft 0 = l.aft m := by
    rw [(l.rs m (l.hold m)).aft_lt (by omega), l.aft_lt hm, Lg.rs_drip0]
    have hb0 : (l.rs m (l.hold m)).ahd 0 = ⟨max ((l.ahd m).lo + 0) 0, min ((l.ahd m).hi + min l.tk.full (l.drip m)) l.tk.full⟩ := by
      unfold Lg.ahd
      rw [a1, Lg.rs_e0]
      unfold Tk.back
      rw [if_neg (show ¬ (2 : Int) = 1 by decide), if_pos (show (2 : Int) = 2 from rfl)]; rfl
    rw [hb0]
    show (⟨max ((l.ahd m).lo + 0) 0, min l.tk.full (min ((l.ahd m).hi + min l.tk.full (l.drip m)) l.tk.full + 0)⟩ : Sn) = _
    congr 1 <;> omega
  refine ⟨?_, ?_, ?_, ?_⟩
  · rcases Lg.aerr_cases hR.err with h | h
    · exact h.1
    · rw [hholds] at h; cases h.2
  · unfold Lg.at
    rw [a0]; rfl
  · unfold Lg.at
    obtain ⟨k, hk⟩ : ∃ k, (l.rs m (l.hold m)).es.length = k + 2 := ⟨l.es.length - m - 1, by omega⟩
    have e := (l.rs m (l.hold m)).aft_n
    rw [hk] at e ⊢
    rw [e, g2 k (by omega), l.aft_n, show m + k + 1 = l.es.length by omega]; rfl
  · unfold Lg.moved Lg.lostS
    rw [Lg.rs_e0, if_pos (show (2 : Int) = 2 from rfl), a1]
    show Sn.met ⟨0, min l.tk.full (l.drip m)⟩ (Sn.sub ((l.rs m (l.hold m)).before 0 (l.hold m)) (l.ahd m)) = _
    unfold Lg.before
    rw [Lg.rs_drip0]
    unfold Sn.met Sn.sub
    simp only
    congr 1 <;> omega
end Go.Proofs.YthkimgfgpphgnaaGreat.T

/- append onto a full slice: a new row. No project text. -/
namespace Go.Eng
open Go.RowKit
section
variable {C : Ctx} {e : Env} {H : List Blk} {d : Option Tmp} {ty : TypeId} {pos : String} {af : Array Edge} {g : Option (Nat × Bool)}
theorem y_appendF {x y : Operand} {T E : TypeId} {b o : Nat} {a' : Option Addr} {n' m cap' sz by_ : Nat} {us news : List Value} {z : Value} (hx : ev e x = .slice (some ⟨b, o, none⟩) n' n') (hy : ev e y = .slice a' m cap')
    (hT : C.P.underlying T = some (.slice E)) (hinf : (C.P.info? E).map (fun i => (i.zero, i.size, i.bytes)) = some (some z, sz, by_)) (hzs : z.cells.size = sz) (hu : Mem C H b o us) (hul : us.length = n' * sz)
    (hs : Src C H a' m news) (hl : news.length = m * sz) (h0 : 0 < m) (hb : (n' + m) * by_ ≤ 140737488355328) (hm : n' + m ≤ 140737488355328) :
    YR C ⟨d, .call ⟨.builtin .append, #[x, y], #[T, T]⟩, ty, pos, af, g⟩ e H (NewRow E sz (n' + m) (us ++ news)) := fun w hw => by
  obtain ⟨i, hi, hz, hsz, hby⟩ := info_parts hinf
  obtain ⟨b', o', rfl, hmem⟩ := hs.resolve_left fun h => by omega
  have hat := src_get rfl (hmem w hw)
  have hau := src_get rfl (hu w hw)
  subst hsz hby
  have hge := grownCap_ge w (n' + m) n' E
  have hlen : ((us ++ news) ++ (Builtin.zeroCells z.cells (grownCap w (n' + m) n' E - (n' + m))).toList).length = grownCap w (n' + m) n' E * i.size := by
    rw [List.length_append, List.length_append, hul, hl, Array.length_toList, size_zeroCells, hzs, ← Nat.add_mul, ← Nat.add_mul]
    congr 1; omega
  have key : (Builtin.append_ #[T, T] ty #[.slice (some ⟨b, o, none⟩) n' n', .slice (some ⟨b', o', none⟩) m cap']).run C.P w =
      .ok (.slice (some ⟨w.heap.size, 0, none⟩) (n' + m) (grownCap w (n' + m) n' E)) (w.drew.alloc (CB ((us ++ news) ++ (Builtin.zeroCells z.cells (grownCap w (n' + m) n' E - (n' + m))).toList) E)) := by
    have hobj : CB ((us ++ news) ++ (Builtin.zeroCells z.cells (grownCap w (n' + m) n' E - (n' + m))).toList) E = .cells (us.toArray ++ news.toArray ++ Builtin.zeroCells z.cells (grownCap w (n' + m) n' E - (n' + m))) E := by
      unfold CB; congr 1; simp
    rw [hobj]
    exact run_append_grow (P := C.P) w T ty E i z hT hi hz ⟨b, o, none⟩ n' n' us hul hau ⟨b', o', none⟩ m cap' news hl hat (by omega) (by omega) (growslice_fits (by omega) hb)
  rw [exec_append hx hy key]
  exact out_new_drew (fun h => by cases h) ⟨_, _, rfl, hge, .inl ⟨by omega, _, _, rfl, rfl, hlen⟩⟩
end
end Go.Eng
namespace Go.Eng
theorem sbB {A B : List Blk} (h : A.Sublist B := by (try simp only [List.append_assoc, List.cons_append, List.nil_append, List.set_cons_zero, List.set_cons_succ, List.eraseIdx_cons_zero, List.eraseIdx_cons_succ]); repeat (first | exact List.Sublist.refl _ | exact List.nil_sublist _ | exact List.sublist_append_left _ _ | apply List.Sublist.append_left | apply List.Sublist.cons_cons | apply List.Sublist.cons | refine List.Sublist.trans ?_ (List.sublist_append_right _ _))) : A.Sublist B := h
end Go.Eng

/- What is known of a time: the law TankCut walked. -/
namespace Go.Proofs.YthkimgfgpphgnaaGreat.T
open Go.RowKit Go.Proofs Go.Eng
set_option maxRecDepth 100000
set_option maxHeartbeats 2000000
set_option linter.unusedVariables false
set_option linter.unusedSimpArgs false



theorem Rws.take {α : Type} {enc : α → List Value} {sz : Nat} {d : α} {w : World} {a : Option Addr} {n cap m : Nat} {xs : List α} (h : Rws enc sz d w a n cap xs) (hm : m ≤ n) : Rws enc sz d w a (xs.take m).length cap (xs.take m) := by
  have hl := h.len
  have hle := h.le
  have hlen : (xs.take m).length = m := by rw [List.length_take]; omega
  refine ⟨rfl, by omega, fun k hk => ?_⟩
  obtain ⟨b, o, h1, h2⟩ := h.cell k (by omega)
  refine ⟨b, o, h1, ?_⟩
  have : (xs.take m).getD k d = xs.getD k d := by
    simp only [List.getD_eq_getElem?_getD, List.getElem?_take]
    rw [if_pos (by omega)]
  rw [this]; exact h2
theorem Rws.rowFrom {α : Type} {enc : α → List Value} {sz : Nat} {d : α} {w : World} {n cap m : Nat} {xs : List α} (hz : ∀ x, (enc x).length = sz) {b o : Nat} (h : Rws enc sz d w (some ⟨b, o, none⟩) n cap xs) : ∀ j, m + j ≤ n → At w b (o + m * sz) (rowOf enc (fun k => xs.getD (m + k) d) j)
  | 0, _ => trivial
  | j + 1, hj => by
    rw [rowOf_succ]
    refine At.app (Rws.rowFrom hz h j (by omega)) ?_
    rw [rowOf_len hz]
    have := h.at (k := m + j) (by omega)
    rwa [Nat.add_mul, ← Nat.add_assoc] at this
theorem rs_row {l : Lg} {m : Nat} {s : Sn} {v : Value} {Hn : List Blk} (hm : m < l.es.length) (h : NewRow 38 4 (1 + (l.es.length - m)) ([.int .i64 (l.e m).day, .int .i64 2, .int .i64 0, .int .i64 (min l.tk.full (l.drip m))] ++ rowOf En.cells (fun k => l.es.getD (m + k) En.z) (l.es.length - m)) v Hn) :
    ∃ a cap, v = .slice a (l.rs m s).es.length cap ∧ NewRow 38 4 (l.rs m s).es.length (rowOf En.cells (l.rs m s).e (l.rs m s).es.length) (.slice a (l.rs m s).es.length cap) Hn := by
  have hl : (l.rs m s).es.length = 1 + (l.es.length - m) := by rw [Lg.rs_len]; omega
  have hr : rowOf En.cells (l.rs m s).e (1 + (l.es.length - m)) = [.int .i64 (l.e m).day, .int .i64 2, .int .i64 0, .int .i64 (min l.tk.full (l.drip m))] ++ rowOf En.cells (fun k => l.es.getD (m + k) En.z) (l.es.length - m) := by
    rw [rowOf_add]
    congr 1
    refine rowOf_congr _ fun k hk => ?_
    rw [Nat.add_comm 1 k, Lg.rs_e]; rfl
  rw [hl, hr]
  obtain ⟨a, cap, rfl, h1, h2⟩ := h
  exact ⟨a, cap, rfl, a, cap, rfl, h1, h2⟩
theorem NewRow.at0 {T : TypeId} {sz n cap : Nat} {us : List Value} {a : Option Addr} {Hn : List Blk} (h : NewRow T sz n us (.slice a n cap) Hn) (hn : 0 < n) : ∃ b, a = some ⟨b, 0, none⟩ := by
  obtain ⟨a', cap', he, hle, ⟨_, b, junk, rfl, rfl, _⟩ | ⟨h0, _⟩⟩ := h
  · cases he; exact ⟨b, rfl⟩
  · omega
end Go.Proofs.YthkimgfgpphgnaaGreat.T

namespace Go.Proofs.YthkimgfgpphgnaaGreat.T
open Go.RowKit Go.Proofs Go.Eng
set_option maxRecDepth 100000
set_option linter.unusedVariables false
set_option linter.unusedSimpArgs false

/-- From a number that the rest allows the least next one is allowed too. -/
theorem Lg.tr_step {l : Lg} (hok : l.Ok) (hh : l.holdsB = true) {k : Nat} (hk : k < l.es.length) {v : Int} (h0 : 0 ≤ v) (hv : (l.aft k).In v) :
    ∃ u, max 0 (v - l.drip k) ≤ u ∧ u ≤ v ∧ l.tk.Mv (l.e k) u (max (l.after k ⟨v, v⟩).lo (l.aft (k + 1)).lo) ∧ (l.aft (k + 1)).In (max (l.after k ⟨v, v⟩).lo (l.aft (k + 1)).lo) := by
  have hd := hok.drip_bd hk
  have hkd := hok.kind k hk
  have hz := Sn.inB_iff.1 (hok.size k hk)
  obtain ⟨T0, U0, ht⟩ := (Lg.holdsB_tru hok).1 hh
  have n1 := ht.ahd hok hk
  have n2 := ht.aft hok (i := k + 1) hk
  unfold Sn.In at n1 n2
  have ha := hok.ahd_bd hk
  have hf := hok.aft_bd (i := k + 1) hk
  rw [l.aft_lt hk] at hv
  have hu : (l.ahd k).In (min v (l.ahd k).hi) := by
    unfold Sn.In at hv ⊢
    simp only at hv
    omega
  obtain ⟨w, hw, hm⟩ := Tk.back_to hkd hz.2.1 (by omega) hf.1 hf.2.1 hu
  -- w can be from v; so the least that can is no more
  unfold Sn.In at hv hu
  simp only at hv
  have hbef : (l.before k ⟨v, v⟩).In (min v (l.ahd k).hi) := by
    unfold Sn.In Lg.before
    simp only
    omega
  have hwA : (l.after k ⟨v, v⟩).In w := Tk.forth_of hbef hm
  have hlo : (l.after k ⟨v, v⟩).In (max (l.after k ⟨v, v⟩).lo (l.aft (k + 1)).lo) := by
    unfold Sn.In at hwA hw ⊢
    omega
  have hin : (l.aft (k + 1)).In (max (l.after k ⟨v, v⟩).lo (l.aft (k + 1)).lo) := by
    unfold Sn.In at hwA hw ⊢
    omega
  have hbne : (l.before k ⟨v, v⟩).lo ≤ (l.before k ⟨v, v⟩).hi := by
    unfold Lg.before
    simp only
    omega
  obtain ⟨u, hu1, hu2⟩ := Tk.forth_to hkd hz.2.1 hbne hlo
  unfold Sn.In Lg.before at hu1
  simp only at hu1
  exact ⟨u, hu1.1, hu1.2, hu2, hin⟩
theorem Lg.tr_aft {l : Lg} (hok : l.Ok) (hh : l.holdsB = true) : ∀ k, k ≤ l.es.length → (l.aft k).In (l.tr k) ∧ 0 ≤ l.tr k
  | 0, _ => by
    have hne := Lg.at_ne hok hh (Nat.zero_le _)
    have hbd := Lg.at_bd hok hh (Nat.zero_le _)
    have h := Sn.met_in.1 (show (l.at 0).In (l.at 0).lo from ⟨Int.le_refl _, hne⟩)
    exact ⟨h.2, hbd.1⟩
  | k + 1, hk => by
    obtain ⟨h1, h2⟩ := Lg.tr_aft hok hh k (by omega)
    obtain ⟨u, _, _, _, h6⟩ := Lg.tr_step hok hh (by omega) h2 h1
    have hf := hok.aft_bd (i := k + 1) hk
    unfold Sn.In at h6
    exact ⟨h6, by show 0 ≤ max (l.after k ⟨l.tr k, l.tr k⟩).lo (l.aft (k + 1)).lo; omega⟩
theorem Lg.tr_tru {l : Lg} (hok : l.Ok) (hh : l.holdsB = true) : ∃ U, l.Tru l.tr U := by
  have hst : ∀ k, k < l.es.length → ∃ u, max 0 (l.tr k - l.drip k) ≤ u ∧ u ≤ l.tr k ∧ l.tk.Mv (l.e k) u (l.tr (k + 1)) := fun k hk => by
    obtain ⟨h1, h2⟩ := Lg.tr_aft hok hh k (by omega)
    obtain ⟨u, g1, g2, g3, _⟩ := Lg.tr_step hok hh hk h2 h1
    exact ⟨u, g1, g2, g3⟩
  have hne := Lg.at_ne hok hh (Nat.zero_le _)
  have h := Sn.met_in.1 (show (l.at 0).In (l.at 0).lo from ⟨Int.le_refl _, hne⟩)
  refine ⟨fun k => if hk : k < l.es.length then Classical.choose (hst k hk) else 0, ⟨h.1, fun k hk => ?_⟩⟩
  have hs := Classical.choose_spec (hst k hk)
  unfold Lg.Stp
  simp only [hk, dif_pos]
  exact ⟨⟨hs.1, hs.2.1⟩, hs.2.2⟩
theorem Lg.aft_sta {l : Lg} {v : Int} : ∀ m, m ≤ l.es.length → (l.sta v).aft (l.es.length - m) = l.aft (l.es.length - m)
  | 0, _ => by
    have h := (l.sta v).aft_n
    rw [Nat.sub_zero, l.aft_n]
    exact h
  | m + 1, hm => by
    have ih := Lg.aft_sta (l := l) (v := v) m (by omega)
    have hi : l.es.length - (m + 1) < l.es.length := by omega
    have hn : l.es.length - m = l.es.length - (m + 1) + 1 := by omega
    rw [hn] at ih
    generalize l.es.length - (m + 1) = i at *
    rw [l.aft_lt hi, (l.sta v).aft_lt hi]
    have ha : (l.sta v).ahd i = l.ahd i := by
      unfold Lg.ahd
      rw [ih]; rfl
    rw [ha]; rfl
/-- What the law asks of the rest of the log. -/
structure Lg.Rst (l : Lg) (m : Nat) : Prop where
  ae : (l.rs m ⟨l.tr m, l.tr m⟩).aerr = 0
  at2 : ((l.rs m ⟨l.tr m, l.tr m⟩).at 2).lo = l.tr (m + 1)
theorem Lg.rst {l : Lg} (hok : l.Ok) (hh : l.holdsB = true) {m : Nat} (h1 : 1 ≤ m) (hm : m < l.es.length) : l.Rst m := by
  obtain ⟨U, ht⟩ := Lg.tr_tru hok hh
  have hb := ht.bd hok m (by omega)
  have hu := ht.ubd hok hm
  have hs : 0 ≤ l.tr m ∧ l.tr m ≤ l.tr m ∧ l.tr m ≤ l.tk.full := by omega
  have hR := hok.rs (s := ⟨l.tr m, l.tr m⟩) h1 hm hs
  have hl : (l.rs m ⟨l.tr m, l.tr m⟩).es.length = l.es.length - m + 1 := Lg.rs_len
  have hd := hok.drip_bd hm
  have hf := hok.tk.full_bd
  obtain ⟨g1, g2⟩ := ht.sp m hm
  -- a truth of the rest
  have htru : (l.rs m ⟨l.tr m, l.tr m⟩).Tru (fun j => if j = 0 then l.tr m else if j = 1 then U m else l.tr (m + j - 1)) (fun j => if j = 0 then l.tr m else U (m + j - 1)) := by
    refine ⟨by unfold Sn.In Lg.rs; simp, fun i hi => ?_⟩
    match i, hi with
    | 0, _ =>
      refine ⟨by rw [Lg.rs_drip0]; simp only [if_true]; omega, ?_⟩
      rw [Lg.rs_e0]
      refine .inr (.inl ⟨rfl, ?_⟩)
      show l.tr m - min l.tk.full (l.drip m) ≤ U m ∧ U m ≤ l.tr m - 0 ∧ 0 ≤ U m ∧ U m ≤ l.tk.full
      omega
    | 1, _ =>
      refine ⟨?_, ?_⟩
      · rw [Lg.rs_drip1]
        show max 0 (U m - 0) ≤ U m ∧ U m ≤ U m
        omega
      · rw [Lg.rs_e]
        exact g2
    | i + 2, hi =>
      have hs2 := ht.sp (m + i + 1) (by omega)
      unfold Lg.Stp at hs2 ⊢
      rw [Lg.rs_drip, Lg.rs_e (i + 1)]
      simp only [show ¬ (i + 2 = 0) by omega, show ¬ (i + 2 = 1) by omega, show ¬ (i + 2 + 1 = 0) by omega, show ¬ (i + 2 + 1 = 1) by omega, if_false]
      rw [show m + (i + 2) - 1 = m + i + 1 by omega, show m + (i + 2 + 1) - 1 = m + i + 1 + 1 by omega]
      exact hs2
  have hholds : (l.rs m ⟨l.tr m, l.tr m⟩).holdsB = true := (Lg.holdsB_tru hR).2 ⟨_, _, htru⟩
  have q1 : (l.rs m ⟨l.tr m, l.tr m⟩).hold 1 = l.before m ⟨l.tr m, l.tr m⟩ := by
    show (l.rs m ⟨l.tr m, l.tr m⟩).tk.forth ((l.rs m ⟨l.tr m, l.tr m⟩).e 0) ((l.rs m ⟨l.tr m, l.tr m⟩).before 0 ⟨l.tr m, l.tr m⟩) = _
    rw [Lg.rs_e0, Tk.forth_2 rfl]
    unfold Lg.before
    rw [Lg.rs_drip0]
    show (⟨max (max 0 (l.tr m - 0) - min l.tk.full (l.drip m)) 0, min (l.tr m - 0) l.tk.full⟩ : Sn) = ⟨max 0 (l.tr m - l.drip m), l.tr m⟩
    congr 1 <;> omega
  have q2 : (l.rs m ⟨l.tr m, l.tr m⟩).hold 2 = l.after m ⟨l.tr m, l.tr m⟩ := by
    show (l.rs m ⟨l.tr m, l.tr m⟩).tk.forth ((l.rs m ⟨l.tr m, l.tr m⟩).e 1) ((l.rs m ⟨l.tr m, l.tr m⟩).before 1 ((l.rs m ⟨l.tr m, l.tr m⟩).hold 1)) = l.tk.forth (l.e m) (l.before m ⟨l.tr m, l.tr m⟩)
    rw [q1, Lg.rs_e, Nat.add_zero]
    have e : (l.rs m ⟨l.tr m, l.tr m⟩).before 1 (l.before m ⟨l.tr m, l.tr m⟩) = l.before m ⟨l.tr m, l.tr m⟩ := by
      unfold Lg.before
      rw [Lg.rs_drip1]
      simp only
      congr 1
      omega
    rw [e]; rfl
  have a2 : ∀ j, j + m < l.es.length → (l.rs m ⟨l.tr m, l.tr m⟩).aft (l.es.length - m + 1 - j) = l.aft (l.es.length - j) := by
    intro j
    induction j with
    | zero =>
      intro _
      have := (l.rs m ⟨l.tr m, l.tr m⟩).aft_n
      rw [hl] at this
      rw [Nat.sub_zero, Nat.sub_zero, this, l.aft_n]; rfl
    | succ j ih =>
      intro hj
      have ih := ih (by omega)
      obtain ⟨k, hk⟩ : ∃ k, l.es.length - m + 1 - (j + 1) = k + 2 := ⟨l.es.length - m + 1 - (j + 1) - 2, by omega⟩
      rw [hk, show l.es.length - (j + 1) = m + k + 1 by omega]
      rw [show l.es.length - m + 1 - j = k + 2 + 1 by omega, show l.es.length - j = m + k + 1 + 1 by omega] at ih
      rw [(l.rs m ⟨l.tr m, l.tr m⟩).aft_lt (by omega), l.aft_lt (by omega)]
      have ha : (l.rs m ⟨l.tr m, l.tr m⟩).ahd (k + 2) = l.ahd (m + k + 1) := by
        unfold Lg.ahd
        rw [ih, Lg.rs_e (k + 1)]; rfl
      rw [ha, Lg.rs_drip]; rfl
  refine ⟨?_, ?_⟩
  · rcases Lg.aerr_cases hR.err with h | h
    · exact h.1
    · rw [hholds] at h; cases h.2
  · unfold Lg.at
    have := a2 (l.es.length - m - 1) (by omega)
    rw [show l.es.length - m + 1 - (l.es.length - m - 1) = 2 by omega, show l.es.length - (l.es.length - m - 1) = m + 1 by omega] at this
    rw [q2, this]; rfl
theorem Lg.rst1 {l : Lg} (hok : l.Ok) (hh : l.holdsB = true) (h1 : 1 ≤ l.es.length) : (l.sta (l.tr 0)).aerr = 0 ∧ ((l.sta (l.tr 0)).at 1).lo = l.tr 1 := by
  obtain ⟨U, ht⟩ := Lg.tr_tru hok hh
  have hb := ht.bd hok 0 (Nat.zero_le _)
  have he := Lg.sta_err hok.err hb.1 hb.2
  have hholds : (l.sta (l.tr 0)).holdsB = true := (Lg.holdsB_tru ((l.sta (l.tr 0)).ok_of he)).2 ⟨_, _, Lg.sta_tru.2 ⟨rfl, ht.sp⟩⟩
  constructor
  · rcases Lg.aerr_cases he with h | h
    · exact h.1
    · rw [hholds] at h; cases h.2
  · have := Lg.aft_sta (l := l) (v := l.tr 0) (l.es.length - 1) (by omega)
    rw [show l.es.length - (l.es.length - 1) = 1 by omega] at this
    unfold Lg.at
    rw [this]; rfl
end Go.Proofs.YthkimgfgpphgnaaGreat.T
