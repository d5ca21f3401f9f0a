/- Proved: for every input, with no condition, the law TankSums returns true and the input reads as it did (Rows.TankSumsSaid). -/
import Derived.Test.YthkimgfgpphgnaaGreatMb5
import Derived.Test.YthkimgfgpphgnaaGreatMb2
set_option linter.unusedVariables false
set_option linter.unusedSimpArgs false
/- What was there, filled in, drawn and leaked adds up: plain facts, and the law walked. -/
namespace Go.Proofs.YthkimgfgpphgnaaGreat.T
open Go.RowKit Go.Proofs Go.Eng
set_option maxRecDepth 100000
set_option maxHeartbeats 2000000
set_option linter.unusedVariables false
set_option linter.unusedSimpArgs false



def Lg.inS (l : Lg) : Nat → Sn
  | 0 => l.at 0
  | k + 1 => if (l.e k).kind = 3 then l.inS k else if (l.e k).kind = 1 then ⟨(l.inS k).lo + (l.moved k).lo, (l.inS k).hi + (l.moved k).hi⟩ else ⟨(l.inS k).lo - (l.moved k).hi, (l.inS k).hi - (l.moved k).lo⟩
def Lg.drS (l : Lg) : Nat → Sn
  | 0 => Sn.z
  | k + 1 => if k + 1 < l.es.length then ⟨(l.drS k).lo + (l.lostS (k + 1)).lo, (l.drS k).hi + (l.lostS (k + 1)).hi⟩ else l.drS k
theorem Lg.moved_W3 {l : Lg} (hok : l.Ok) (hh : l.holdsB = true) {k : Nat} (hk : k < l.es.length) (h3 : (l.e k).kind ≠ 3) : (l.moved k).W3 (l.e k).size := by
  obtain ⟨T, U, ht⟩ := (Lg.holdsB_tru hok).1 hh
  have h1 := ht.moved hok hk h3
  unfold Sn.W3
  refine ⟨?_, ?_, h1⟩
  · unfold Lg.moved; split <;> (unfold Sn.met; simp only; omega)
  · unfold Lg.moved; split <;> (unfold Sn.met; simp only; omega)
theorem Lg.moved_bd {l : Lg} (hok : l.Ok) (hh : l.holdsB = true) {k : Nat} (hk : k < l.es.length) (h3 : (l.e k).kind ≠ 3) : 0 ≤ (l.moved k).lo ∧ (l.moved k).lo ≤ (l.moved k).hi ∧ (l.moved k).hi ≤ 600 := by
  have h1 := Lg.moved_W3 hok hh hk h3
  have h2 := Sn.inB_iff.1 (hok.size k hk)
  have hf := hok.tk.full_bd
  unfold Tk.most at h2
  rw [if_neg h3] at h2
  unfold Sn.W3 at h1
  omega
theorem Lg.lostS_bd {l : Lg} (hok : l.Ok) (hh : l.holdsB = true) {k : Nat} (hk : k < l.es.length) : 0 ≤ (l.lostS k).lo ∧ (l.lostS k).lo ≤ (l.lostS k).hi ∧ (l.lostS k).hi ≤ 182600 := by
  obtain ⟨T, U, ht⟩ := (Lg.holdsB_tru hok).1 hh
  have h1 := (ht.lost hok hk).1
  have hd := hok.drip_bd hk
  refine ⟨?_, h1, ?_⟩ <;> (unfold Lg.lostS Sn.met; simp only; omega)
theorem Lg.inS_bd {l : Lg} (hok : l.Ok) (hh : l.holdsB = true) : ∀ k, k ≤ l.es.length → -(600 * (k : Int)) ≤ (l.inS k).lo ∧ (l.inS k).lo ≤ 600 * (k : Int) + 600 ∧ -(600 * (k : Int)) ≤ (l.inS k).hi ∧ (l.inS k).hi ≤ 600 * (k : Int) + 600
  | 0, _ => by
    have h1 := Lg.at_bd hok hh (Nat.zero_le _)
    have h2 := Lg.at_ne hok hh (Nat.zero_le _)
    have hf := hok.tk.full_bd
    show -(600 * 0) ≤ (l.at 0).lo ∧ (l.at 0).lo ≤ _ ∧ -(600 * 0) ≤ (l.at 0).hi ∧ (l.at 0).hi ≤ _
    omega
  | k + 1, hk => by
    have ih := Lg.inS_bd hok hh k (by omega)
    have hm := Lg.moved_bd hok hh (k := k) (by omega)
    unfold Lg.inS
    push_cast
    split
    · omega
    · rename_i h3
      have hm := hm h3
      split <;> (simp only; omega)
theorem Lg.drS_bd {l : Lg} (hok : l.Ok) (hh : l.holdsB = true) : ∀ k, k ≤ l.es.length → 0 ≤ (l.drS k).lo ∧ (l.drS k).lo ≤ (l.drS k).hi ∧ (l.drS k).hi ≤ 182600 * (k : Int)
  | 0, _ => by show (0 : Int) ≤ 0 ∧ (0 : Int) ≤ 0 ∧ (0 : Int) ≤ 182600 * 0; omega
  | k + 1, hk => by
    have ih := Lg.drS_bd hok hh k (by omega)
    unfold Lg.drS
    push_cast
    split
    · rename_i h
      have hm := Lg.lostS_bd hok hh h
      simp only; omega
    · omega
theorem Lg.Tru.inS {l : Lg} {T U : Nat → Int} (h : l.Tru T U) (hok : l.Ok) : ∀ k, k ≤ l.es.length → (l.inS k).lo ≤ T k + lkS T U k ∧ T k + lkS T U k ≤ (l.inS k).hi
  | 0, _ => by
    have := h.at hok (Nat.zero_le _)
    unfold Sn.In at this
    show (l.at 0).lo ≤ T 0 + 0 ∧ T 0 + 0 ≤ (l.at 0).hi
    omega
  | k + 1, hk => by
    have ih := Lg.Tru.inS h hok k (by omega)
    obtain ⟨h1, h2⟩ := h.sp k (by omega)
    have hb := Lg.before_of (h.hold k (by omega)) h1.1 h1.2
    have ha := h.aft hok (i := k + 1) hk
    unfold Sn.In at hb ha
    have e1 : lkS T U (k + 1) = lkS T U k + (T k - U k) := rfl
    rw [e1]
    unfold Lg.inS
    rcases h2 with ⟨hk1, h2⟩ | ⟨hk2, h2⟩ | ⟨hk3, h2, _⟩
    · rw [if_neg (by omega), if_pos hk1]
      have hm : (l.moved k).lo ≤ T (k + 1) - U k ∧ T (k + 1) - U k ≤ (l.moved k).hi := by
        unfold Lg.moved
        rw [if_neg (by omega)]; unfold Sn.met Sn.sub; simp only; omega
      simp only; omega
    · rw [if_neg (by omega), if_neg (by omega)]
      have hm : (l.moved k).lo ≤ U k - T (k + 1) ∧ U k - T (k + 1) ≤ (l.moved k).hi := by
        unfold Lg.moved
        rw [if_pos hk2]; unfold Sn.met Sn.sub; simp only; omega
      simp only; omega
    · rw [if_pos hk3]; omega
theorem Lg.Tru.drS {l : Lg} {T U : Nat → Int} (h : l.Tru T U) (hok : l.Ok) : ∀ k, k < l.es.length → (l.drS k).lo ≤ lkS T U (k + 1) ∧ lkS T U (k + 1) ≤ (l.drS k).hi
  | 0, hk => by
    have h1 := (h.sp 0 hk).1
    have hd : l.drip 0 = 0 := rfl
    show (0 : Int) ≤ 0 + (T 0 - U 0) ∧ 0 + (T 0 - U 0) ≤ 0
    omega
  | k + 1, hk => by
    have ih := Lg.Tru.drS h hok k (by omega)
    have hl := (h.lost hok hk).2
    have e1 : lkS T U (k + 1 + 1) = lkS T U (k + 1) + (T (k + 1) - U (k + 1)) := rfl
    rw [e1]
    unfold Lg.drS
    rw [if_pos hk]
    simp only; omega
theorem Lg.Tru.drN {l : Lg} {T U : Nat → Int} (h : l.Tru T U) (hok : l.Ok) : (l.drS l.es.length).lo ≤ lkS T U l.es.length ∧ lkS T U l.es.length ≤ (l.drS l.es.length).hi := by
  rcases Nat.eq_zero_or_pos l.es.length with h0 | h0
  · rw [h0]; show (0 : Int) ≤ 0 ∧ (0 : Int) ≤ 0; omega
  · have := h.drS hok (l.es.length - 1) (by omega)
    obtain ⟨m, hm⟩ : ∃ m, l.es.length = m + 1 := ⟨l.es.length - 1, by omega⟩
    have e : l.drS l.es.length = l.drS m := by
      rw [hm]
      show (if m + 1 < l.es.length then _ else l.drS m) = _
      rw [if_neg (by omega)]
    rw [e]
    rw [hm] at this ⊢
    exact this
structure Lg.Sums (l : Lg) : Prop where
  s1 : (l.drS l.es.length).lo ≤ -l.lostI (-1)
  s2 : l.lostI 1 ≤ (l.drS l.es.length).hi
  s3 : (l.at l.es.length).hi ≤ (l.inS l.es.length).hi - -l.lostI (-1)
  s4 : (l.inS l.es.length).lo - l.lostI 1 ≤ (l.at l.es.length).lo
  s5 : (l.inS l.es.length).lo - (l.at l.es.length).hi ≤ -l.lostI (-1)
  s6 : l.lostI 1 ≤ (l.inS l.es.length).hi - (l.at l.es.length).lo
  s7 : 0 ≤ -l.lostI (-1)
  s8 : -l.lostI (-1) ≤ l.lostI 1
theorem Lg.sums {l : Lg} (hok : l.Ok) (hh : l.holdsB = true) : l.Sums := by
  have hK := Lg.leak hok hh
  have hne := Lg.at_ne hok hh (Nat.le_refl _)
  obtain ⟨T1, U1, t1, e1⟩ := hK.lo
  obtain ⟨T2, U2, t2, e2⟩ := hK.hi
  obtain ⟨T3, U3, t3, e3⟩ := Lg.at_tru hok hh (Nat.le_refl _) (v := (l.at l.es.length).hi) ⟨hne, Int.le_refl _⟩
  obtain ⟨T4, U4, t4, e4⟩ := Lg.at_tru hok hh (Nat.le_refl _) (v := (l.at l.es.length).lo) ⟨Int.le_refl _, hne⟩
  have d1 := t1.drN hok
  have d2 := t2.drN hok
  have i1 := t1.inS hok _ (Nat.le_refl _)
  have i2 := t2.inS hok _ (Nat.le_refl _)
  have i3 := t3.inS hok _ (Nat.le_refl _)
  have i4 := t4.inS hok _ (Nat.le_refl _)
  have a1 := t1.at hok (Nat.le_refl _)
  have a2 := t2.at hok (Nat.le_refl _)
  have g3 := hK.ge _ _ t3
  have g4 := hK.ge _ _ t4
  have g1 := hK.ge _ _ t1
  have z := t1.lk0 l.es.length (Nat.le_refl _)
  unfold Sn.In at a1 a2
  refine ⟨?_, ?_, ?_, ?_, ?_, ?_, ?_, ?_⟩ <;> omega
theorem tankSums_no (l : Lg) (a : Option Addr) (cap : Nat) (ae : Option Addr) (cape : Nat) (w : World) (hx : Ints w a l.tk.n cap l.tk.pints) (he : Ens w ae l.es.length cape l.es) (hr : l.trB = false) :
    Ct Tryz.prog 5 #[.agg #[.slice a l.tk.n cap, .int .i64 l.tk.leak, .int .i64 l.tk.foot, .int .i64 l.start.lo, .int .i64 l.start.hi, .slice ae l.es.length cape]] w fun v _ => v = .bool true := by
  have hF := wide_wide
  refine Ct_start (args := [_]) Tryz.func5 (by rfl) Tryz.ntmps5 (by rfl) ?_
  refine W_seq ?_
  refine W_region_lit (fun ds => ?_)
  refine WS_new hF (by rfl) (y_box (by rfl)) (fun b1 => ?_)
  refine WS_det hF (by rfl) (y_assign (c := .bool _) (by rfl)) ?_
  refine WS_nil ?_
  refine Then_normal ?_
  refine W_seq ?_
  refine W_region_lit (fun ds => ?_)
  refine WS_det hF (by rfl) (y_callL (by rfl) (by rfl) Tryz.call10 (fun w hw => alive_any w)) ?_
  refine WS_det hF (by rfl) (y_assign (c := .bool _) (by rfl)) ?_
  refine WS_nil ?_
  refine Then_normal ?_
  refine W_seq ?_
  refine W_seq ?_
  refine W_region_lit (fun ds => ?_)
  refine WS_det hF (by rfl) (y_loadN (by rfl) Tryz.isAgg29 Tryz.sizeOf29 (Mem.own (us := [.slice _ _ _, .int .i64 _, .int .i64 _, .int .i64 _, .int .i64 _, .slice _ _ _]) 0 (by rfl) (by rfl)) (by rfl)) ?_
  refine WS_det hF (by rfl) (y_callL (by rfl) (by rfl) Tryz.call11 (fun w hw => Ct_eq (ltruth_any l a cap ae cape w (hx.st w hw) (he.st w hw)) (by rw [hr]))) ?_
  refine WS_det hF (by rfl) (y_not (by rfl)) ?_
  refine WS_det hF (by rfl) (y_move (c := .bool _) (by rfl)) ?_
  refine WS_no hF (by rfl) ?_
  refine WS_no hF (by rfl) ?_
  refine WS_det hF (by rfl) (by first | exact y_pick_t (c := .bool _) (by rfl) (by rfl) | exact y_pick_f (c := .bool _) (by rfl) (by rfl)) ?_
  refine WS_nil ?_
  refine Then_normal ?_
  refine W_cond (by rfl) (fun c2 => ?_) (fun c2 => ?_)
  ·
    try simp only [Bool.not_eq_true', Bool.not_eq_false', decide_eq_true_eq, decide_eq_false_iff_not, ne_eq, Classical.not_not, Int.not_lt, Int.not_le] at c2
    refine W_seq ?_
    refine W_region_lit (fun ds => ?_)
    refine WS_det hF (by rfl) (y_move (c := .bool _) (by rfl)) ?_
    refine WS_det hF (by rfl) (y_assign (c := .bool _) (by rfl)) ?_
    refine WS_nil ?_
    refine Then_normal ?_
    refine W_ret ?_
    refine Then_ret ?_
    refine Fin_ret [.bool _] [] Tryz.results5 ⟨by rfl, trivial⟩ HSub.nil ?_
    rfl
  · cases c2
theorem tankSums_ok (l : Lg) (a : Option Addr) (cap : Nat) (ae : Option Addr) (cape : Nat) (w : World) (hn : l.tk.n ≤ 1000000) (hnes : l.es.length ≤ 1000000) (hx : Ints w a l.tk.n cap l.tk.pints) (he : Ens w ae l.es.length cape l.es) (hr : l.trB = true) :
    Ct Tryz.prog 5 #[.agg #[.slice a l.tk.n cap, .int .i64 l.tk.leak, .int .i64 l.tk.foot, .int .i64 l.start.lo, .int .i64 l.start.hi, .slice ae l.es.length cape]] w fun v _ => v = .bool true := by
  obtain ⟨hrd, h0⟩ := Lg.trB_iff.1 hr
  obtain ⟨_, _, herr⟩ := Lg.rdy_iff.1 hrd
  have hh : l.holdsB = true := l.holdsB_iff.2 (l.aerr0 h0).2
  have hok := l.ok_of herr
  have hn12 := hok.n12
  have hf := hok.tk.full_bd
  have hne1 := Lg.at_ne hok hh (Nat.le_refl _)
  have hbd1 := Lg.at_bd hok hh (Nat.le_refl _)
  obtain ⟨s1, s2, s3, s4, s5, s6, s7, s8⟩ := Lg.sums hok hh
  have hlb := (l.lost_bd hok (sg := 1) (by omega)).2
  have hmvd : ∀ k, k < l.es.length → (l.e k).kind ≠ 3 → l.movedV ((k : Int) + 1) = .tuple #[.agg #[.int .i64 (l.moved k).lo, .int .i64 (l.moved k).hi], .int .i64 0] := fun k hk h3 => by
    have := Lg.movedV_at (j := k + 1) h0 (by omega) hk (by rw [Nat.add_sub_cancel]; exact h3)
    rw [Nat.add_sub_cancel] at this
    exact_mod_cast this
  have hlsd : ∀ k, k + 1 < l.es.length → l.lostV ((k : Int) + 1) = .tuple #[.agg #[.int .i64 (l.lostS (k + 1)).lo, .int .i64 (l.lostS (k + 1)).hi], .int .i64 0] := fun k hk => by
    have := Lg.lostV_at (j := k + 1) h0 (by omega) hk
    exact_mod_cast this
  have hF := wide_wide
  refine Ct_start (args := [_]) Tryz.func5 (by rfl) Tryz.ntmps5 (by rfl) ?_
  refine W_seq ?_
  refine W_region_lit (fun ds => ?_)
  refine WS_new hF (by rfl) (y_box (by rfl)) (fun b1 => ?_)
  refine WS_det hF (by rfl) (y_assign (c := .bool _) (by rfl)) ?_
  refine WS_nil ?_
  refine Then_normal ?_
  refine W_seq ?_
  refine W_region_lit (fun ds => ?_)
  refine WS_det hF (by rfl) (y_callL (by rfl) (by rfl) Tryz.call10 (fun w hw => alive_any w)) ?_
  refine WS_det hF (by rfl) (y_assign (c := .bool _) (by rfl)) ?_
  refine WS_nil ?_
  refine Then_normal ?_
  refine W_seq ?_
  refine W_seq ?_
  refine W_region_lit (fun ds => ?_)
  refine WS_det hF (by rfl) (y_loadN (by rfl) Tryz.isAgg29 Tryz.sizeOf29 (Mem.own (us := [.slice _ _ _, .int .i64 _, .int .i64 _, .int .i64 _, .int .i64 _, .slice _ _ _]) 0 (by rfl) (by rfl)) (by rfl)) ?_
  refine WS_det hF (by rfl) (y_callL (by rfl) (by rfl) Tryz.call11 (fun w hw => Ct_eq (ltruth_any l a cap ae cape w (hx.st w hw) (he.st w hw)) (by rw [hr]))) ?_
  refine WS_det hF (by rfl) (y_not (by rfl)) ?_
  refine WS_det hF (by rfl) (y_move (c := .bool _) (by rfl)) ?_
  refine WS_det hF (by rfl) (y_move (c := .bool _) (by rfl)) ?_
  refine WS_det hF (by rfl) (y_not (by rfl)) ?_
  refine WS_det hF (by rfl) (by first | exact y_pick_t (c := .bool _) (by rfl) (by rfl) | exact y_pick_f (c := .bool _) (by rfl) (by rfl)) ?_
  refine WS_nil ?_
  refine Then_normal ?_
  refine W_cond (by rfl) (fun c2 => ?_) (fun c2 => ?_)
  · cases c2
  ·
    try simp only [Bool.not_eq_true', Bool.not_eq_false', decide_eq_true_eq, decide_eq_false_iff_not, ne_eq, Classical.not_not, Int.not_lt, Int.not_le] at c2
    refine W_skip ?_
    refine Then_normal ?_
    refine W_seq ?_
    refine W_region_lit (fun ds => ?_)
    refine WS_det hF (by rfl) (y_fieldAddr (by rfl) fa29_2) ?_
    refine WS_det hF (by rfl) (y_load1 (by rfl) Tryz.isAgg27 (Mem.own1 0 (by rfl) (by rfl))) ?_
    refine WS_det hF (by rfl) (y_len (by rfl) Tryz.runUnderlying27) ?_
    refine WS_det hF (by rfl) (y_assign (c := .int .i64 _) (by rfl)) ?_
    refine WS_nil ?_
    refine Then_normal ?_
    refine W_seq ?_
    refine W_region_lit (fun ds => ?_)
    refine WS_det hF (by rfl) (y_loadN (by rfl) Tryz.isAgg29 Tryz.sizeOf29 (Mem.own (us := [.slice _ _ _, .int .i64 _, .int .i64 _, .int .i64 _, .int .i64 _, .slice _ _ _]) 0 (by rfl) (by rfl)) (by rfl)) ?_
    refine WS_det hF (by rfl) (y_callL (by rfl) (by rfl) Tryz.call12 (fun w hw => Ct_eq (holds_any l a cap ae cape 0 w hn (hx.st w hw) (he.st w hw)) (Lg.holdsV_at h0 (Nat.zero_le l.es.length)))) ?_
    refine WS_det hF (by rfl) (y_move (c := .tuple _) (by rfl)) ?_
    refine WS_det hF (by rfl) (y_extract (c := .agg _) (by rfl) (by rfl)) ?_
    refine WS_det hF (by rfl) (y_extract (c := .int .i64 _) (by rfl) (by rfl)) ?_
    refine WS_new hF (by rfl) (y_alloc Tryz.zeroValue26 (by rfl)) (fun b2 => ?_)
    refine WS_store hF (us := [.int .i64 _, .int .i64 _]) (i := 0) (by rfl) (by rfl) Tryz.sizeOf26 (by rfl) (by rfl) (by rfl) (by first | decide | exact Nat.le_of_ble_eq_true rfl | simp) ?_
    refine WS_det hF (by rfl) (y_assign (c := .int .i64 _) (by rfl)) ?_
    refine WS_nil ?_
    refine Then_normal ?_
    refine W_seq ?_
    refine W_region_lit (fun ds => ?_)
    refine WS_det hF (by rfl) (y_loadN (by rfl) Tryz.isAgg29 Tryz.sizeOf29 (Mem.own (us := [.slice _ _ _, .int .i64 _, .int .i64 _, .int .i64 _, .int .i64 _, .slice _ _ _]) 1 (by rfl) (by rfl)) (by rfl)) ?_
    refine WS_det hF (by rfl) (y_move (c := .int .i64 _) (by rfl)) ?_
    refine WS_det hF (by rfl) (y_callL (by rfl) (by rfl) Tryz.call12 (fun w hw => Ct_eq (holds_any l a cap ae cape (l.es.length : Int) w hn (hx.st w hw) (he.st w hw)) (Lg.holdsV_at h0 (Nat.le_refl l.es.length)))) ?_
    refine WS_det hF (by rfl) (y_move (c := .tuple _) (by rfl)) ?_
    refine WS_det hF (by rfl) (y_extract (c := .agg _) (by rfl) (by rfl)) ?_
    refine WS_det hF (by rfl) (y_extract (c := .int .i64 _) (by rfl) (by rfl)) ?_
    refine WS_new hF (by rfl) (y_alloc Tryz.zeroValue26 (by rfl)) (fun b3 => ?_)
    refine WS_store hF (us := [.int .i64 _, .int .i64 _]) (i := 0) (by rfl) (by rfl) Tryz.sizeOf26 (by rfl) (by rfl) (by rfl) (by first | decide | exact Nat.le_of_ble_eq_true rfl | simp) ?_
    refine WS_det hF (by rfl) (y_assign (c := .int .i64 _) (by rfl)) ?_
    refine WS_nil ?_
    refine Then_normal ?_
    refine W_seq ?_
    refine W_keep [(1, .pointer _), (2, .bool _), (3, .bool _), (4, .int .i64 _), (5, .pointer _), (6, .int .i64 _), (7, .pointer _), (8, .int .i64 _)] (by repeat (first | exact trivial | refine ⟨by rfl, ?_⟩)) (fun e => ?_)
    refine W_region_lit (fun ds => ?_)
    refine WS_det hF (by rfl) (y_loadN (by rfl) Tryz.isAgg29 Tryz.sizeOf29 (Mem.own (us := [.slice _ _ _, .int .i64 _, .int .i64 _, .int .i64 _, .int .i64 _, .slice _ _ _]) 2 (by rfl) (by rfl)) (by rfl)) ?_
    refine WS_det hF (by rfl) (y_callL (by rfl) (by rfl) Tryz.call21 (fun w hw => Ct_eq (leaked_any l a cap ae cape w hn (hx.st w hw) (he.st w hw)) (Lg.leakedV_ok h0))) ?_
    refine WS_det hF (by rfl) (y_move (c := .tuple _) (by rfl)) ?_
    refine WS_det hF (by rfl) (y_extract (c := .agg _) (by rfl) (by rfl)) ?_
    refine WS_det hF (by rfl) (y_extract (c := .int .i64 _) (by rfl) (by rfl)) ?_
    refine WS_new hF (by rfl) (y_alloc Tryz.zeroValue26 (by rfl)) (fun b4 => ?_)
    refine WS_store hF (us := [.int .i64 _, .int .i64 _]) (i := 0) (by rfl) (by rfl) Tryz.sizeOf26 (by rfl) (by rfl) (by rfl) (by first | decide | exact Nat.le_of_ble_eq_true rfl | simp) ?_
    refine WS_det hF (by rfl) (y_assign (c := .int .i64 _) (by rfl)) ?_
    refine WS_nil ?_
    refine Then_normal ?_
    refine W_seq ?_
    refine W_seq ?_
    refine W_region_lit (fun ds => ?_)
    refine WS_det hF (by rfl) (y_move (c := .int .i64 _) (by rfl)) ?_
    refine WS_det hF (by rfl) (YD_no (y_neq (by rfl) (by rfl)) dect) ?_
    refine WS_det hF (by rfl) (y_move (c := .bool _) (by rfl)) ?_
    refine WS_det hF (by rfl) (y_move (c := .int .i64 _) (by rfl)) ?_
    refine WS_det hF (by rfl) (YD_no (y_neq (by rfl) (by rfl)) dect) ?_
    refine WS_det hF (by rfl) (by first | exact y_pick_t (c := .bool _) (by rfl) (by rfl) | exact y_pick_f (c := .bool _) (by rfl) (by rfl)) ?_
    refine WS_det hF (by rfl) (y_move (c := .bool _) (by rfl)) ?_
    refine WS_det hF (by rfl) (y_move (c := .int .i64 _) (by rfl)) ?_
    refine WS_det hF (by rfl) (YD_no (y_neq (by rfl) (by rfl)) dect) ?_
    refine WS_det hF (by rfl) (by first | exact y_pick_t (c := .bool _) (by rfl) (by rfl) | exact y_pick_f (c := .bool _) (by rfl) (by rfl)) ?_
    refine WS_det hF (by rfl) (y_move (c := .bool _) (by rfl)) ?_
    refine WS_det hF (by rfl) (y_fieldAddr (by rfl) fa26_0) ?_
    refine WS_det hF (by rfl) (y_load1 (by rfl) Tryz.isAgg3 (Mem.own1 0 (by rfl) (by rfl))) ?_
    refine WS_det hF (by rfl) (YD_no (y_lss (by rfl) (by rfl)) dect) ?_
    refine WS_det hF (by rfl) (by first | exact y_pick_t (c := .bool _) (by rfl) (by rfl) | exact y_pick_f (c := .bool _) (by rfl) (by rfl)) ?_
    refine WS_det hF (by rfl) (y_move (c := .bool _) (by rfl)) ?_
    refine WS_det hF (by rfl) (y_fieldAddr (by rfl) fa26_0) ?_
    refine WS_det hF (by rfl) (y_load1 (by rfl) Tryz.isAgg3 (Mem.own1 0 (by rfl) (by rfl))) ?_
    refine WS_det hF (by rfl) (y_fieldAddr (by rfl) fa26_1) ?_
    refine WS_det hF (by rfl) (y_load1 (by rfl) Tryz.isAgg3 (Mem.own1 0 (by rfl) (by rfl))) ?_
    refine WS_det hF (by rfl) (YD_no (y_gtr (by rfl) (by rfl)) dect) ?_
    refine WS_det hF (by rfl) (by first | exact y_pick_t (c := .bool _) (by rfl) (by rfl) | exact y_pick_f (c := .bool _) (by rfl) (by rfl)) ?_
    refine WS_nil ?_
    refine Then_normal ?_
    refine W_cond (by rfl) (fun c8 => ?_) (fun c8 => ?_)
    · cases c8
    ·
      try simp only [Bool.not_eq_true', Bool.not_eq_false', decide_eq_true_eq, decide_eq_false_iff_not, ne_eq, Classical.not_not, Int.not_lt, Int.not_le] at c8
      refine W_skip ?_
      refine Then_normal ?_
      refine W_seq ?_
      refine W_region_lit (fun ds => ?_)
      refine WS_det hF (by rfl) (y_loadN (by rfl) Tryz.isAgg26 Tryz.sizeOf26 (Mem.own (us := [.int .i64 _, .int .i64 _]) 2 (by rfl) (by rfl)) (by rfl)) ?_
      refine WS_det hF (by rfl) (y_buildL bd26 (by rfl)) ?_
      refine WS_new hF (by rfl) (y_alloc Tryz.zeroValue26 (by rfl)) (fun b5 => ?_)
      refine WS_new hF (by rfl) (y_alloc Tryz.zeroValue26 (by rfl)) (fun b6 => ?_)
      refine WS_store hF (us := [.int .i64 _, .int .i64 _]) (i := 1) (by rfl) (by rfl) Tryz.sizeOf26 (by rfl) (by rfl) (by rfl) (by first | decide | exact Nat.le_of_ble_eq_true rfl | simp) ?_
      refine WS_store hF (us := [.int .i64 _, .int .i64 _]) (i := 0) (by rfl) (by rfl) Tryz.sizeOf26 (by rfl) (by rfl) (by rfl) (by first | decide | exact Nat.le_of_ble_eq_true rfl | simp) ?_
      refine WS_nil ?_
      refine Then_normal ?_
      refine W_seq ?_
      refine W_seq ?_
      refine W_keep [(1, .pointer _), (2, .bool _), (3, .bool _), (4, .int .i64 _), (7, .pointer _), (9, .pointer _), (11, .pointer _), (12, .pointer _)] (by repeat (first | exact trivial | refine ⟨by rfl, ?_⟩)) (fun e => ?_)
      refine W_region_lit (fun ds => ?_)
      refine WS_det hF (by rfl) (y_fieldAddr (by rfl) fa29_2) ?_
      refine WS_det hF (by rfl) (y_load1 (by rfl) Tryz.isAgg27 (Mem.own1 5 (by rfl) (by rfl))) ?_
      refine WS_det hF (by rfl) (y_len (by rfl) Tryz.runUnderlying27) ?_
      refine WS_det hF (by rfl) (y_move (c := .int .i64 _) (by rfl)) ?_
      refine WS_nil ?_
      refine Then_normal ?_
      refine W_block ?_
      refine W_loop (γ := Nat) (fun k => k ≤ l.es.length) (fun k => [(74, .int .i64 (k : Int)), (73, .int .i64 (l.es.length : Int)), (72, .slice ae l.es.length cape), (1, .pointer (some ⟨b1, 0, none⟩)), (3, .bool true), (4, .int .i64 (l.es.length : Int)), (7, .pointer (some ⟨b3, 0, none⟩)), (9, .pointer (some ⟨b4, 0, none⟩)), (11, .pointer (some ⟨b5, 0, none⟩)), (12, .pointer (some ⟨b6, 0, none⟩))]) (fun k => [(b6, CB (l.drS k).cells 26), (b5, CB (l.inS k).cells 26), (b4, CB [.int .i64 (-l.lostI (-1)), .int .i64 (l.lostI 1)] 26), (b3, CB [.int .i64 (l.at l.es.length).lo, .int .i64 (l.at l.es.length).hi] 26), (b1, CB [.slice a l.tk.n cap, .int .i64 l.tk.leak, .int .i64 l.tk.foot, .int .i64 l.start.lo, .int .i64 l.start.hi, .slice ae l.es.length cape] 29)]) (fun k => l.es.length - k) (0) (Nat.zero_le _) (by repeat (first | exact trivial | refine ⟨by rfl, ?_⟩)) ((by repeat (first | exact List.Sublist.refl _ | exact List.sublist_append_left _ _ | exact List.nil_sublist _ | apply List.Sublist.cons_cons | apply List.Sublist.cons | refine List.Sublist.trans ?_ (List.sublist_append_right _ _)))) ?_
      intro k e hk
      refine W_seq ?_
      refine W_region_lit (fun ds => ?_)
      refine WS_det hF (by rfl) (y_lss (by rfl) (by rfl)) ?_
      refine WS_nil ?_
      refine Then_normal ?_
      refine W_seq ?_
      refine W_cond (by rfl) (fun c12 => ?_) (fun c12 => ?_)
      ·
        try simp only [Bool.not_eq_true', Bool.not_eq_false', decide_eq_true_eq, decide_eq_false_iff_not, ne_eq, Classical.not_not, Int.not_lt, Int.not_le] at c12
        obtain ⟨b, o, rfl, hc⟩ := he.cell k (by omega)
        change At w b _ (l.e k).cells at hc
        have hib := Lg.inS_bd hok hh k (by omega)
        have hdb := Lg.drS_bd hok hh k (by omega)
        have hind : l.inS (k + 1) = if (l.e k).kind = 3 then l.inS k else if (l.e k).kind = 1 then ⟨(l.inS k).lo + (l.moved k).lo, (l.inS k).hi + (l.moved k).hi⟩ else ⟨(l.inS k).lo - (l.moved k).hi, (l.inS k).hi - (l.moved k).lo⟩ := rfl
        have hdrd : l.drS (k + 1) = if k + 1 < l.es.length then ⟨(l.drS k).lo + (l.lostS (k + 1)).lo, (l.drS k).hi + (l.lostS (k + 1)).hi⟩ else l.drS k := rfl
        refine W_skip ?_
        refine Then_normal ?_
        refine W_seq ?_
        refine W_block ?_
        refine W_seq ?_
        refine W_region_lit (fun ds => ?_)
        refine WS_det hF (by rfl) (y_move (c := .int .i64 _) (by rfl)) ?_
        refine WS_det hF (by rfl) (y_index (k := k) (by rfl) (by rfl) (by first | rfl | omega) (by first | decide | omega) Tryz.runUnderlying27 Tryz.sizeOf38) ?_
        refine WS_det hF (by rfl) (y_loadN (by rfl) Tryz.isAgg38 Tryz.sizeOf38 (by first | exact Mem.old (by assumption) | exact Mem.oldAt (us := [.int .i64 _, .int .i64 _, .int .i64 _, .int .i64 _]) (by assumption) (by rfl) | exact Mem.oldAtL (us := [.int .i64 _, .int .i64 _, .int .i64 _, .int .i64 _]) (by assumption) (by rfl) (by rfl)) (by rfl)) ?_
        refine WS_new hF (by rfl) (y_alloc Tryz.zeroValue38 (by rfl)) (fun b7 => ?_)
        refine WS_det hF (by rfl) (y_assign (c := .int .i64 _) (by rfl)) ?_
        refine WS_store hF (us := [.int .i64 _, .int .i64 _, .int .i64 _, .int .i64 _]) (i := 0) (by rfl) (by rfl) Tryz.sizeOf38 (by rfl) (by rfl) (by rfl) (by first | decide | exact Nat.le_of_ble_eq_true rfl | simp) ?_
        refine WS_nil ?_
        refine Then_normal ?_
        refine W_seq ?_
        refine W_seq ?_
        refine W_region_lit (fun ds => ?_)
        refine WS_det hF (by rfl) (y_fieldAddr (by rfl) fa38_1) ?_
        refine WS_det hF (by rfl) (y_load1 (by rfl) Tryz.isAgg3 (Mem.own1 0 (by rfl) (by rfl))) ?_
        refine WS_det hF (by rfl) (y_neq (by rfl) (by rfl)) ?_
        refine WS_nil ?_
        refine Then_normal ?_
        refine W_cond (by rfl) (fun c14 => ?_) (fun c14 => ?_)
        ·
          try simp only [Bool.not_eq_true', Bool.not_eq_false', decide_eq_true_eq, decide_eq_false_iff_not, ne_eq, Classical.not_not, Int.not_lt, Int.not_le] at c14
          have hmb := Lg.moved_bd hok hh (k := k) (by omega) c14
          refine W_seq ?_
          refine W_region_lit (fun ds => ?_)
          refine WS_det hF (by rfl) (y_loadN (by rfl) Tryz.isAgg29 Tryz.sizeOf29 (Mem.own (us := [.slice _ _ _, .int .i64 _, .int .i64 _, .int .i64 _, .int .i64 _, .slice _ _ _]) 5 (by rfl) (by rfl)) (by rfl)) ?_
          refine WS_det hF (by rfl) (y_move (c := .int .i64 _) (by rfl)) ?_
          refine WS_det hF (by rfl) (y_add (by rfl) (by rfl) (by unfold I64; omega)) ?_
          refine WS_det hF (by rfl) (y_callL (by rfl) (by rfl) Tryz.call16 (fun w hw => Ct_eq (moved_any l a cap _ cape ((k : Int) + 1) w hn (hx.st w hw) (he.st w hw)) (hmvd k (by omega) c14))) ?_
          refine WS_det hF (by rfl) (y_move (c := .tuple _) (by rfl)) ?_
          refine WS_det hF (by rfl) (y_extract (c := .agg _) (by rfl) (by rfl)) ?_
          refine WS_det hF (by rfl) (y_extract (c := .int .i64 _) (by rfl) (by rfl)) ?_
          refine WS_new hF (by rfl) (y_alloc Tryz.zeroValue26 (by rfl)) (fun b8 => ?_)
          refine WS_store hF (us := [.int .i64 _, .int .i64 _]) (i := 0) (by rfl) (by rfl) Tryz.sizeOf26 (by rfl) (by rfl) (by rfl) (by first | decide | exact Nat.le_of_ble_eq_true rfl | simp) ?_
          refine WS_det hF (by rfl) (y_assign (c := .int .i64 _) (by rfl)) ?_
          refine WS_nil ?_
          refine Then_normal ?_
          refine W_seq ?_
          refine W_seq ?_
          refine W_region_lit (fun ds => ?_)
          refine WS_det hF (by rfl) (y_move (c := .int .i64 _) (by rfl)) ?_
          refine WS_det hF (by rfl) (YD_no (y_neq (by rfl) (by rfl)) dect) ?_
          refine WS_det hF (by rfl) (y_move (c := .bool _) (by rfl)) ?_
          refine WS_det hF (by rfl) (y_loadN (by rfl) Tryz.isAgg26 Tryz.sizeOf26 (Mem.own (us := [.int .i64 _, .int .i64 _]) 0 (by rfl) (by rfl)) (by rfl)) ?_
          refine WS_det hF (by rfl) (y_fieldAddr (by rfl) fa38_2) ?_
          refine WS_det hF (by rfl) (y_loadN (by rfl) Tryz.isAgg26 Tryz.sizeOf26 (Mem.own (us := [.int .i64 _, .int .i64 _]) 1 (by rfl) (by rfl)) (by rfl)) ?_
          refine WS_det hF (by rfl) (y_callL (by rfl) (by rfl) Tryz.call20 (fun w hw => Ct_eq (lwithin_any _ _ _ _ w) (wiB_of (Lg.moved_W3 hok hh (by omega) c14)))) ?_
          refine WS_det hF (by rfl) (y_not (by rfl)) ?_
          refine WS_det hF (by rfl) (by first | exact y_pick_t (c := .bool _) (by rfl) (by rfl) | exact y_pick_f (c := .bool _) (by rfl) (by rfl)) ?_
          refine WS_nil ?_
          refine Then_normal ?_
          refine W_cond (by rfl) (fun c16 => ?_) (fun c16 => ?_)
          · cases c16
          ·
            try simp only [Bool.not_eq_true', Bool.not_eq_false', decide_eq_true_eq, decide_eq_false_iff_not, ne_eq, Classical.not_not, Int.not_lt, Int.not_le] at c16
            refine W_skip ?_
            refine Then_normal ?_
            refine W_seq ?_
            refine W_region_lit (fun ds => ?_)
            refine WS_det hF (by rfl) (y_fieldAddr (by rfl) fa38_1) ?_
            refine WS_det hF (by rfl) (y_load1 (by rfl) Tryz.isAgg3 (Mem.own1 1 (by rfl) (by rfl))) ?_
            refine WS_det hF (by rfl) (y_eql (by rfl) (by rfl)) ?_
            refine WS_nil ?_
            refine Then_normal ?_
            refine W_cond (by rfl) (fun c18 => ?_) (fun c18 => ?_)
            ·
              try simp only [Bool.not_eq_true', Bool.not_eq_false', decide_eq_true_eq, decide_eq_false_iff_not, ne_eq, Classical.not_not, Int.not_lt, Int.not_le] at c18
              have hin : l.inS (k + 1) = ⟨(l.inS k).lo + (l.moved k).lo, (l.inS k).hi + (l.moved k).hi⟩ := by rw [hind, if_neg c14, if_pos c18]
              refine W_region_lit (fun ds => ?_)
              refine WS_det hF (by rfl) (y_fieldAddr (by rfl) fa26_0) ?_
              refine WS_det hF (by rfl) (y_load1 (by rfl) Tryz.isAgg3 (Mem.own1 3 (by rfl) (by rfl))) ?_
              refine WS_det hF (by rfl) (y_fieldAddr (by rfl) fa26_0) ?_
              refine WS_det hF (by rfl) (y_load1 (by rfl) Tryz.isAgg3 (Mem.own1 0 (by rfl) (by rfl))) ?_
              refine WS_det hF (by rfl) (y_add (by rfl) (by rfl) (by unfold I64; omega)) ?_
              refine WS_det hF (by rfl) (y_fieldAddr (by rfl) fa26_1) ?_
              refine WS_det hF (by rfl) (y_load1 (by rfl) Tryz.isAgg3 (Mem.own1 3 (by rfl) (by rfl))) ?_
              refine WS_det hF (by rfl) (y_fieldAddr (by rfl) fa26_1) ?_
              refine WS_det hF (by rfl) (y_load1 (by rfl) Tryz.isAgg3 (Mem.own1 0 (by rfl) (by rfl))) ?_
              refine WS_det hF (by rfl) (y_add (by rfl) (by rfl) (by unfold I64; omega)) ?_
              refine WS_det hF (by rfl) (y_callL (by rfl) (by rfl) Tryz.call22 (fun w hw => lspan_any _ _ w)) ?_
              refine WS_store hF (us := [.int .i64 _, .int .i64 _]) (i := 3) (by rfl) (by rfl) Tryz.sizeOf26 (by rfl) (by rfl) (by rfl) (by first | decide | exact Nat.le_of_ble_eq_true rfl | simp) ?_
              refine WS_nil ?_
              refine Then_normal ?_
              refine W_seq ?_
              refine W_region_lit (fun ds => ?_)
              refine WS_det hF (by rfl) (y_move (c := .int .i64 _) (by rfl)) ?_
              refine WS_det hF (by rfl) (y_add (by rfl) (by rfl) (by unfold I64; omega)) ?_
              refine WS_det hF (by rfl) (y_move (c := .int .i64 _) (by rfl)) ?_
              refine WS_det hF (by rfl) (y_lss (by rfl) (by rfl)) ?_
              refine WS_nil ?_
              refine Then_normal ?_
              refine W_cond (by rfl) (fun c21 => ?_) (fun c21 => ?_)
              ·
                try simp only [Bool.not_eq_true', Bool.not_eq_false', decide_eq_true_eq, decide_eq_false_iff_not, ne_eq, Classical.not_not, Int.not_lt, Int.not_le] at c21
                have hlk : k + 1 < l.es.length := by omega
                have hdr : l.drS (k + 1) = ⟨(l.drS k).lo + (l.lostS (k + 1)).lo, (l.drS k).hi + (l.lostS (k + 1)).hi⟩ := by rw [hdrd, if_pos hlk]
                have hlb := Lg.lostS_bd hok hh hlk
                refine W_seq ?_
                refine W_region_lit (fun ds => ?_)
                refine WS_det hF (by rfl) (y_loadN (by rfl) Tryz.isAgg29 Tryz.sizeOf29 (Mem.own (us := [.slice _ _ _, .int .i64 _, .int .i64 _, .int .i64 _, .int .i64 _, .slice _ _ _]) 6 (by rfl) (by rfl)) (by rfl)) ?_
                refine WS_det hF (by rfl) (y_move (c := .int .i64 _) (by rfl)) ?_
                refine WS_det hF (by rfl) (y_add (by rfl) (by rfl) (by unfold I64; omega)) ?_
                refine WS_det hF (by rfl) (y_callL (by rfl) (by rfl) Tryz.call17 (fun w hw => Ct_eq (lost_any l a cap _ cape ((k : Int) + 1) w hn (hx.st w hw) (he.st w hw)) (hlsd k hlk))) ?_
                refine WS_det hF (by rfl) (y_move (c := .tuple _) (by rfl)) ?_
                refine WS_det hF (by rfl) (y_extract (c := .agg _) (by rfl) (by rfl)) ?_
                refine WS_det hF (by rfl) (y_extract (c := .int .i64 _) (by rfl) (by rfl)) ?_
                refine WS_new hF (by rfl) (y_alloc Tryz.zeroValue26 (by rfl)) (fun b9 => ?_)
                refine WS_store hF (us := [.int .i64 _, .int .i64 _]) (i := 0) (by rfl) (by rfl) Tryz.sizeOf26 (by rfl) (by rfl) (by rfl) (by first | decide | exact Nat.le_of_ble_eq_true rfl | simp) ?_
                refine WS_det hF (by rfl) (y_assign (c := .int .i64 _) (by rfl)) ?_
                refine WS_nil ?_
                refine Then_normal ?_
                refine W_seq ?_
                refine W_seq ?_
                refine W_region_lit (fun ds => ?_)
                refine WS_det hF (by rfl) (y_move (c := .int .i64 _) (by rfl)) ?_
                refine WS_det hF (by rfl) (YD_no (y_neq (by rfl) (by rfl)) dect) ?_
                refine WS_det hF (by rfl) (y_move (c := .bool _) (by rfl)) ?_
                refine WS_det hF (by rfl) (y_fieldAddr (by rfl) fa26_0) ?_
                refine WS_det hF (by rfl) (y_load1 (by rfl) Tryz.isAgg3 (Mem.own1 0 (by rfl) (by rfl))) ?_
                refine WS_det hF (by rfl) (YD_no (y_lss (by rfl) (by rfl)) dect) ?_
                refine WS_det hF (by rfl) (by first | exact y_pick_t (c := .bool _) (by rfl) (by rfl) | exact y_pick_f (c := .bool _) (by rfl) (by rfl)) ?_
                refine WS_det hF (by rfl) (y_move (c := .bool _) (by rfl)) ?_
                refine WS_det hF (by rfl) (y_fieldAddr (by rfl) fa26_0) ?_
                refine WS_det hF (by rfl) (y_load1 (by rfl) Tryz.isAgg3 (Mem.own1 0 (by rfl) (by rfl))) ?_
                refine WS_det hF (by rfl) (y_fieldAddr (by rfl) fa26_1) ?_
                refine WS_det hF (by rfl) (y_load1 (by rfl) Tryz.isAgg3 (Mem.own1 0 (by rfl) (by rfl))) ?_
                refine WS_det hF (by rfl) (YD_no (y_gtr (by rfl) (by rfl)) dect) ?_
                refine WS_det hF (by rfl) (by first | exact y_pick_t (c := .bool _) (by rfl) (by rfl) | exact y_pick_f (c := .bool _) (by rfl) (by rfl)) ?_
                refine WS_nil ?_
                refine Then_normal ?_
                refine W_cond (by rfl) (fun c23 => ?_) (fun c23 => ?_)
                · cases c23
                ·
                  try simp only [Bool.not_eq_true', Bool.not_eq_false', decide_eq_true_eq, decide_eq_false_iff_not, ne_eq, Classical.not_not, Int.not_lt, Int.not_le] at c23
                  refine W_skip ?_
                  refine Then_normal ?_
                  refine W_region_lit (fun ds => ?_)
                  refine WS_det hF (by rfl) (y_fieldAddr (by rfl) fa26_0) ?_
                  refine WS_det hF (by rfl) (y_load1 (by rfl) Tryz.isAgg3 (Mem.own1 3 (by rfl) (by rfl))) ?_
                  refine WS_det hF (by rfl) (y_fieldAddr (by rfl) fa26_0) ?_
                  refine WS_det hF (by rfl) (y_load1 (by rfl) Tryz.isAgg3 (Mem.own1 0 (by rfl) (by rfl))) ?_
                  refine WS_det hF (by rfl) (y_add (by rfl) (by rfl) (by unfold I64; omega)) ?_
                  refine WS_det hF (by rfl) (y_fieldAddr (by rfl) fa26_1) ?_
                  refine WS_det hF (by rfl) (y_load1 (by rfl) Tryz.isAgg3 (Mem.own1 3 (by rfl) (by rfl))) ?_
                  refine WS_det hF (by rfl) (y_fieldAddr (by rfl) fa26_1) ?_
                  refine WS_det hF (by rfl) (y_load1 (by rfl) Tryz.isAgg3 (Mem.own1 0 (by rfl) (by rfl))) ?_
                  refine WS_det hF (by rfl) (y_add (by rfl) (by rfl) (by unfold I64; omega)) ?_
                  refine WS_det hF (by rfl) (y_callL (by rfl) (by rfl) Tryz.call22 (fun w hw => lspan_any _ _ w)) ?_
                  refine WS_store hF (us := [.int .i64 _, .int .i64 _]) (i := 3) (by rfl) (by rfl) Tryz.sizeOf26 (by rfl) (by rfl) (by rfl) (by first | decide | exact Nat.le_of_ble_eq_true rfl | simp) ?_
                  refine WS_nil ?_
                  refine InB_normal ?_
                  refine Then_normal ?_
                  refine W_region_lit (fun ds => ?_)
                  refine WS_det hF (by rfl) (y_add (by rfl) (by rfl) (by unfold I64; omega)) ?_
                  refine WS_det hF (by rfl) (y_move (c := .int .i64 _) (by rfl)) ?_
                  refine WS_nil ?_
                  exact Loop_next (k + 1) (by omega) (by repeat (first | exact trivial | refine ⟨by rfl, ?_⟩)) (by rw [hin, hdr]; exact (by repeat (first | exact List.Sublist.refl _ | exact List.nil_sublist _ | apply List.Sublist.cons_cons | apply List.Sublist.cons))) (by omega)
              ·
                try simp only [Bool.not_eq_true', Bool.not_eq_false', decide_eq_true_eq, decide_eq_false_iff_not, ne_eq, Classical.not_not, Int.not_lt, Int.not_le] at c21
                have hdr : l.drS (k + 1) = l.drS k := by rw [hdrd, if_neg (by omega)]
                refine W_skip ?_
                refine InB_normal ?_
                refine Then_normal ?_
                refine W_region_lit (fun ds => ?_)
                refine WS_det hF (by rfl) (y_add (by rfl) (by rfl) (by unfold I64; omega)) ?_
                refine WS_det hF (by rfl) (y_move (c := .int .i64 _) (by rfl)) ?_
                refine WS_nil ?_
                exact Loop_next (k + 1) (by omega) (by repeat (first | exact trivial | refine ⟨by rfl, ?_⟩)) (by rw [hin, hdr]; exact (by repeat (first | exact List.Sublist.refl _ | exact List.nil_sublist _ | apply List.Sublist.cons_cons | apply List.Sublist.cons))) (by omega)
            ·
              try simp only [Bool.not_eq_true', Bool.not_eq_false', decide_eq_true_eq, decide_eq_false_iff_not, ne_eq, Classical.not_not, Int.not_lt, Int.not_le] at c18
              have hin : l.inS (k + 1) = ⟨(l.inS k).lo - (l.moved k).hi, (l.inS k).hi - (l.moved k).lo⟩ := by rw [hind, if_neg c14, if_neg c18]
              refine W_region_lit (fun ds => ?_)
              refine WS_det hF (by rfl) (y_fieldAddr (by rfl) fa26_0) ?_
              refine WS_det hF (by rfl) (y_load1 (by rfl) Tryz.isAgg3 (Mem.own1 3 (by rfl) (by rfl))) ?_
              refine WS_det hF (by rfl) (y_fieldAddr (by rfl) fa26_1) ?_
              refine WS_det hF (by rfl) (y_load1 (by rfl) Tryz.isAgg3 (Mem.own1 0 (by rfl) (by rfl))) ?_
              refine WS_det hF (by rfl) (y_sub (by rfl) (by rfl) (by unfold I64; omega)) ?_
              refine WS_det hF (by rfl) (y_fieldAddr (by rfl) fa26_1) ?_
              refine WS_det hF (by rfl) (y_load1 (by rfl) Tryz.isAgg3 (Mem.own1 3 (by rfl) (by rfl))) ?_
              refine WS_det hF (by rfl) (y_fieldAddr (by rfl) fa26_0) ?_
              refine WS_det hF (by rfl) (y_load1 (by rfl) Tryz.isAgg3 (Mem.own1 0 (by rfl) (by rfl))) ?_
              refine WS_det hF (by rfl) (y_sub (by rfl) (by rfl) (by unfold I64; omega)) ?_
              refine WS_det hF (by rfl) (y_callL (by rfl) (by rfl) Tryz.call22 (fun w hw => lspan_any _ _ w)) ?_
              refine WS_store hF (us := [.int .i64 _, .int .i64 _]) (i := 3) (by rfl) (by rfl) Tryz.sizeOf26 (by rfl) (by rfl) (by rfl) (by first | decide | exact Nat.le_of_ble_eq_true rfl | simp) ?_
              refine WS_nil ?_
              refine Then_normal ?_
              refine W_seq ?_
              refine W_region_lit (fun ds => ?_)
              refine WS_det hF (by rfl) (y_move (c := .int .i64 _) (by rfl)) ?_
              refine WS_det hF (by rfl) (y_add (by rfl) (by rfl) (by unfold I64; omega)) ?_
              refine WS_det hF (by rfl) (y_move (c := .int .i64 _) (by rfl)) ?_
              refine WS_det hF (by rfl) (y_lss (by rfl) (by rfl)) ?_
              refine WS_nil ?_
              refine Then_normal ?_
              refine W_cond (by rfl) (fun c21 => ?_) (fun c21 => ?_)
              ·
                try simp only [Bool.not_eq_true', Bool.not_eq_false', decide_eq_true_eq, decide_eq_false_iff_not, ne_eq, Classical.not_not, Int.not_lt, Int.not_le] at c21
                have hlk : k + 1 < l.es.length := by omega
                have hdr : l.drS (k + 1) = ⟨(l.drS k).lo + (l.lostS (k + 1)).lo, (l.drS k).hi + (l.lostS (k + 1)).hi⟩ := by rw [hdrd, if_pos hlk]
                have hlb := Lg.lostS_bd hok hh hlk
                refine W_seq ?_
                refine W_region_lit (fun ds => ?_)
                refine WS_det hF (by rfl) (y_loadN (by rfl) Tryz.isAgg29 Tryz.sizeOf29 (Mem.own (us := [.slice _ _ _, .int .i64 _, .int .i64 _, .int .i64 _, .int .i64 _, .slice _ _ _]) 6 (by rfl) (by rfl)) (by rfl)) ?_
                refine WS_det hF (by rfl) (y_move (c := .int .i64 _) (by rfl)) ?_
                refine WS_det hF (by rfl) (y_add (by rfl) (by rfl) (by unfold I64; omega)) ?_
                refine WS_det hF (by rfl) (y_callL (by rfl) (by rfl) Tryz.call17 (fun w hw => Ct_eq (lost_any l a cap _ cape ((k : Int) + 1) w hn (hx.st w hw) (he.st w hw)) (hlsd k hlk))) ?_
                refine WS_det hF (by rfl) (y_move (c := .tuple _) (by rfl)) ?_
                refine WS_det hF (by rfl) (y_extract (c := .agg _) (by rfl) (by rfl)) ?_
                refine WS_det hF (by rfl) (y_extract (c := .int .i64 _) (by rfl) (by rfl)) ?_
                refine WS_new hF (by rfl) (y_alloc Tryz.zeroValue26 (by rfl)) (fun b10 => ?_)
                refine WS_store hF (us := [.int .i64 _, .int .i64 _]) (i := 0) (by rfl) (by rfl) Tryz.sizeOf26 (by rfl) (by rfl) (by rfl) (by first | decide | exact Nat.le_of_ble_eq_true rfl | simp) ?_
                refine WS_det hF (by rfl) (y_assign (c := .int .i64 _) (by rfl)) ?_
                refine WS_nil ?_
                refine Then_normal ?_
                refine W_seq ?_
                refine W_seq ?_
                refine W_region_lit (fun ds => ?_)
                refine WS_det hF (by rfl) (y_move (c := .int .i64 _) (by rfl)) ?_
                refine WS_det hF (by rfl) (YD_no (y_neq (by rfl) (by rfl)) dect) ?_
                refine WS_det hF (by rfl) (y_move (c := .bool _) (by rfl)) ?_
                refine WS_det hF (by rfl) (y_fieldAddr (by rfl) fa26_0) ?_
                refine WS_det hF (by rfl) (y_load1 (by rfl) Tryz.isAgg3 (Mem.own1 0 (by rfl) (by rfl))) ?_
                refine WS_det hF (by rfl) (YD_no (y_lss (by rfl) (by rfl)) dect) ?_
                refine WS_det hF (by rfl) (by first | exact y_pick_t (c := .bool _) (by rfl) (by rfl) | exact y_pick_f (c := .bool _) (by rfl) (by rfl)) ?_
                refine WS_det hF (by rfl) (y_move (c := .bool _) (by rfl)) ?_
                refine WS_det hF (by rfl) (y_fieldAddr (by rfl) fa26_0) ?_
                refine WS_det hF (by rfl) (y_load1 (by rfl) Tryz.isAgg3 (Mem.own1 0 (by rfl) (by rfl))) ?_
                refine WS_det hF (by rfl) (y_fieldAddr (by rfl) fa26_1) ?_
                refine WS_det hF (by rfl) (y_load1 (by rfl) Tryz.isAgg3 (Mem.own1 0 (by rfl) (by rfl))) ?_
                refine WS_det hF (by rfl) (YD_no (y_gtr (by rfl) (by rfl)) dect) ?_
                refine WS_det hF (by rfl) (by first | exact y_pick_t (c := .bool _) (by rfl) (by rfl) | exact y_pick_f (c := .bool _) (by rfl) (by rfl)) ?_
                refine WS_nil ?_
                refine Then_normal ?_
                refine W_cond (by rfl) (fun c23 => ?_) (fun c23 => ?_)
                · cases c23
                ·
                  try simp only [Bool.not_eq_true', Bool.not_eq_false', decide_eq_true_eq, decide_eq_false_iff_not, ne_eq, Classical.not_not, Int.not_lt, Int.not_le] at c23
                  refine W_skip ?_
                  refine Then_normal ?_
                  refine W_region_lit (fun ds => ?_)
                  refine WS_det hF (by rfl) (y_fieldAddr (by rfl) fa26_0) ?_
                  refine WS_det hF (by rfl) (y_load1 (by rfl) Tryz.isAgg3 (Mem.own1 3 (by rfl) (by rfl))) ?_
                  refine WS_det hF (by rfl) (y_fieldAddr (by rfl) fa26_0) ?_
                  refine WS_det hF (by rfl) (y_load1 (by rfl) Tryz.isAgg3 (Mem.own1 0 (by rfl) (by rfl))) ?_
                  refine WS_det hF (by rfl) (y_add (by rfl) (by rfl) (by unfold I64; omega)) ?_
                  refine WS_det hF (by rfl) (y_fieldAddr (by rfl) fa26_1) ?_
                  refine WS_det hF (by rfl) (y_load1 (by rfl) Tryz.isAgg3 (Mem.own1 3 (by rfl) (by rfl))) ?_
                  refine WS_det hF (by rfl) (y_fieldAddr (by rfl) fa26_1) ?_
                  refine WS_det hF (by rfl) (y_load1 (by rfl) Tryz.isAgg3 (Mem.own1 0 (by rfl) (by rfl))) ?_
                  refine WS_det hF (by rfl) (y_add (by rfl) (by rfl) (by unfold I64; omega)) ?_
                  refine WS_det hF (by rfl) (y_callL (by rfl) (by rfl) Tryz.call22 (fun w hw => lspan_any _ _ w)) ?_
                  refine WS_store hF (us := [.int .i64 _, .int .i64 _]) (i := 3) (by rfl) (by rfl) Tryz.sizeOf26 (by rfl) (by rfl) (by rfl) (by first | decide | exact Nat.le_of_ble_eq_true rfl | simp) ?_
                  refine WS_nil ?_
                  refine InB_normal ?_
                  refine Then_normal ?_
                  refine W_region_lit (fun ds => ?_)
                  refine WS_det hF (by rfl) (y_add (by rfl) (by rfl) (by unfold I64; omega)) ?_
                  refine WS_det hF (by rfl) (y_move (c := .int .i64 _) (by rfl)) ?_
                  refine WS_nil ?_
                  exact Loop_next (k + 1) (by omega) (by repeat (first | exact trivial | refine ⟨by rfl, ?_⟩)) (by rw [hin, hdr]; exact (by repeat (first | exact List.Sublist.refl _ | exact List.nil_sublist _ | apply List.Sublist.cons_cons | apply List.Sublist.cons))) (by omega)
              ·
                try simp only [Bool.not_eq_true', Bool.not_eq_false', decide_eq_true_eq, decide_eq_false_iff_not, ne_eq, Classical.not_not, Int.not_lt, Int.not_le] at c21
                have hdr : l.drS (k + 1) = l.drS k := by rw [hdrd, if_neg (by omega)]
                refine W_skip ?_
                refine InB_normal ?_
                refine Then_normal ?_
                refine W_region_lit (fun ds => ?_)
                refine WS_det hF (by rfl) (y_add (by rfl) (by rfl) (by unfold I64; omega)) ?_
                refine WS_det hF (by rfl) (y_move (c := .int .i64 _) (by rfl)) ?_
                refine WS_nil ?_
                exact Loop_next (k + 1) (by omega) (by repeat (first | exact trivial | refine ⟨by rfl, ?_⟩)) (by rw [hin, hdr]; exact (by repeat (first | exact List.Sublist.refl _ | exact List.nil_sublist _ | apply List.Sublist.cons_cons | apply List.Sublist.cons))) (by omega)
        ·
          try simp only [Bool.not_eq_true', Bool.not_eq_false', decide_eq_true_eq, decide_eq_false_iff_not, ne_eq, Classical.not_not, Int.not_lt, Int.not_le] at c14
          have hin : l.inS (k + 1) = l.inS k := by rw [hind, if_pos c14]
          refine W_skip ?_
          refine Then_normal ?_
          refine W_seq ?_
          refine W_region_lit (fun ds => ?_)
          refine WS_det hF (by rfl) (y_move (c := .int .i64 _) (by rfl)) ?_
          refine WS_det hF (by rfl) (y_add (by rfl) (by rfl) (by unfold I64; omega)) ?_
          refine WS_det hF (by rfl) (y_move (c := .int .i64 _) (by rfl)) ?_
          refine WS_det hF (by rfl) (y_lss (by rfl) (by rfl)) ?_
          refine WS_nil ?_
          refine Then_normal ?_
          refine W_cond (by rfl) (fun c21 => ?_) (fun c21 => ?_)
          ·
            try simp only [Bool.not_eq_true', Bool.not_eq_false', decide_eq_true_eq, decide_eq_false_iff_not, ne_eq, Classical.not_not, Int.not_lt, Int.not_le] at c21
            have hlk : k + 1 < l.es.length := by omega
            have hdr : l.drS (k + 1) = ⟨(l.drS k).lo + (l.lostS (k + 1)).lo, (l.drS k).hi + (l.lostS (k + 1)).hi⟩ := by rw [hdrd, if_pos hlk]
            have hlb := Lg.lostS_bd hok hh hlk
            refine W_seq ?_
            refine W_region_lit (fun ds => ?_)
            refine WS_det hF (by rfl) (y_loadN (by rfl) Tryz.isAgg29 Tryz.sizeOf29 (Mem.own (us := [.slice _ _ _, .int .i64 _, .int .i64 _, .int .i64 _, .int .i64 _, .slice _ _ _]) 5 (by rfl) (by rfl)) (by rfl)) ?_
            refine WS_det hF (by rfl) (y_move (c := .int .i64 _) (by rfl)) ?_
            refine WS_det hF (by rfl) (y_add (by rfl) (by rfl) (by unfold I64; omega)) ?_
            refine WS_det hF (by rfl) (y_callL (by rfl) (by rfl) Tryz.call17 (fun w hw => Ct_eq (lost_any l a cap _ cape ((k : Int) + 1) w hn (hx.st w hw) (he.st w hw)) (hlsd k hlk))) ?_
            refine WS_det hF (by rfl) (y_move (c := .tuple _) (by rfl)) ?_
            refine WS_det hF (by rfl) (y_extract (c := .agg _) (by rfl) (by rfl)) ?_
            refine WS_det hF (by rfl) (y_extract (c := .int .i64 _) (by rfl) (by rfl)) ?_
            refine WS_new hF (by rfl) (y_alloc Tryz.zeroValue26 (by rfl)) (fun b11 => ?_)
            refine WS_store hF (us := [.int .i64 _, .int .i64 _]) (i := 0) (by rfl) (by rfl) Tryz.sizeOf26 (by rfl) (by rfl) (by rfl) (by first | decide | exact Nat.le_of_ble_eq_true rfl | simp) ?_
            refine WS_det hF (by rfl) (y_assign (c := .int .i64 _) (by rfl)) ?_
            refine WS_nil ?_
            refine Then_normal ?_
            refine W_seq ?_
            refine W_seq ?_
            refine W_region_lit (fun ds => ?_)
            refine WS_det hF (by rfl) (y_move (c := .int .i64 _) (by rfl)) ?_
            refine WS_det hF (by rfl) (YD_no (y_neq (by rfl) (by rfl)) dect) ?_
            refine WS_det hF (by rfl) (y_move (c := .bool _) (by rfl)) ?_
            refine WS_det hF (by rfl) (y_fieldAddr (by rfl) fa26_0) ?_
            refine WS_det hF (by rfl) (y_load1 (by rfl) Tryz.isAgg3 (Mem.own1 0 (by rfl) (by rfl))) ?_
            refine WS_det hF (by rfl) (YD_no (y_lss (by rfl) (by rfl)) dect) ?_
            refine WS_det hF (by rfl) (by first | exact y_pick_t (c := .bool _) (by rfl) (by rfl) | exact y_pick_f (c := .bool _) (by rfl) (by rfl)) ?_
            refine WS_det hF (by rfl) (y_move (c := .bool _) (by rfl)) ?_
            refine WS_det hF (by rfl) (y_fieldAddr (by rfl) fa26_0) ?_
            refine WS_det hF (by rfl) (y_load1 (by rfl) Tryz.isAgg3 (Mem.own1 0 (by rfl) (by rfl))) ?_
            refine WS_det hF (by rfl) (y_fieldAddr (by rfl) fa26_1) ?_
            refine WS_det hF (by rfl) (y_load1 (by rfl) Tryz.isAgg3 (Mem.own1 0 (by rfl) (by rfl))) ?_
            refine WS_det hF (by rfl) (YD_no (y_gtr (by rfl) (by rfl)) dect) ?_
            refine WS_det hF (by rfl) (by first | exact y_pick_t (c := .bool _) (by rfl) (by rfl) | exact y_pick_f (c := .bool _) (by rfl) (by rfl)) ?_
            refine WS_nil ?_
            refine Then_normal ?_
            refine W_cond (by rfl) (fun c23 => ?_) (fun c23 => ?_)
            · cases c23
            ·
              try simp only [Bool.not_eq_true', Bool.not_eq_false', decide_eq_true_eq, decide_eq_false_iff_not, ne_eq, Classical.not_not, Int.not_lt, Int.not_le] at c23
              refine W_skip ?_
              refine Then_normal ?_
              refine W_region_lit (fun ds => ?_)
              refine WS_det hF (by rfl) (y_fieldAddr (by rfl) fa26_0) ?_
              refine WS_det hF (by rfl) (y_load1 (by rfl) Tryz.isAgg3 (Mem.own1 2 (by rfl) (by rfl))) ?_
              refine WS_det hF (by rfl) (y_fieldAddr (by rfl) fa26_0) ?_
              refine WS_det hF (by rfl) (y_load1 (by rfl) Tryz.isAgg3 (Mem.own1 0 (by rfl) (by rfl))) ?_
              refine WS_det hF (by rfl) (y_add (by rfl) (by rfl) (by unfold I64; omega)) ?_
              refine WS_det hF (by rfl) (y_fieldAddr (by rfl) fa26_1) ?_
              refine WS_det hF (by rfl) (y_load1 (by rfl) Tryz.isAgg3 (Mem.own1 2 (by rfl) (by rfl))) ?_
              refine WS_det hF (by rfl) (y_fieldAddr (by rfl) fa26_1) ?_
              refine WS_det hF (by rfl) (y_load1 (by rfl) Tryz.isAgg3 (Mem.own1 0 (by rfl) (by rfl))) ?_
              refine WS_det hF (by rfl) (y_add (by rfl) (by rfl) (by unfold I64; omega)) ?_
              refine WS_det hF (by rfl) (y_callL (by rfl) (by rfl) Tryz.call22 (fun w hw => lspan_any _ _ w)) ?_
              refine WS_store hF (us := [.int .i64 _, .int .i64 _]) (i := 2) (by rfl) (by rfl) Tryz.sizeOf26 (by rfl) (by rfl) (by rfl) (by first | decide | exact Nat.le_of_ble_eq_true rfl | simp) ?_
              refine WS_nil ?_
              refine InB_normal ?_
              refine Then_normal ?_
              refine W_region_lit (fun ds => ?_)
              refine WS_det hF (by rfl) (y_add (by rfl) (by rfl) (by unfold I64; omega)) ?_
              refine WS_det hF (by rfl) (y_move (c := .int .i64 _) (by rfl)) ?_
              refine WS_nil ?_
              exact Loop_next (k + 1) (by omega) (by repeat (first | exact trivial | refine ⟨by rfl, ?_⟩)) (by rw [hin, hdr]; exact (by repeat (first | exact List.Sublist.refl _ | exact List.nil_sublist _ | apply List.Sublist.cons_cons | apply List.Sublist.cons))) (by omega)
          ·
            try simp only [Bool.not_eq_true', Bool.not_eq_false', decide_eq_true_eq, decide_eq_false_iff_not, ne_eq, Classical.not_not, Int.not_lt, Int.not_le] at c21
            have hdr : l.drS (k + 1) = l.drS k := by rw [hdrd, if_neg (by omega)]
            refine W_skip ?_
            refine InB_normal ?_
            refine Then_normal ?_
            refine W_region_lit (fun ds => ?_)
            refine WS_det hF (by rfl) (y_add (by rfl) (by rfl) (by unfold I64; omega)) ?_
            refine WS_det hF (by rfl) (y_move (c := .int .i64 _) (by rfl)) ?_
            refine WS_nil ?_
            exact Loop_next (k + 1) (by omega) (by repeat (first | exact trivial | refine ⟨by rfl, ?_⟩)) (by rw [hin, hdr]; exact (by repeat (first | exact List.Sublist.refl _ | exact List.nil_sublist _ | apply List.Sublist.cons_cons | apply List.Sublist.cons))) (by omega)
      ·
        try simp only [Bool.not_eq_true', Bool.not_eq_false', decide_eq_true_eq, decide_eq_false_iff_not, ne_eq, Classical.not_not, Int.not_lt, Int.not_le] at c12
        obtain rfl : k = l.es.length := by omega
        have hib := Lg.inS_bd hok hh _ (Nat.le_refl l.es.length)
        have hdb := Lg.drS_bd hok hh _ (Nat.le_refl l.es.length)
        refine W_exit ?_
        refine Then_exit ?_
        refine Loop_exit ?_
        refine InB_same ?_
        refine Then_normal ?_
        refine W_seq ?_
        refine W_region_lit (fun ds => ?_)
        refine WS_det hF (by rfl) (y_move (c := .bool _) (by rfl)) ?_
        refine WS_det hF (by rfl) (y_move (c := .bool _) (by rfl)) ?_
        refine WS_det hF (by rfl) (y_fieldAddr (by rfl) fa26_0) ?_
        refine WS_det hF (by rfl) (y_load1 (by rfl) Tryz.isAgg3 (Mem.own1 2 (by rfl) (by rfl))) ?_
        refine WS_det hF (by rfl) (y_fieldAddr (by rfl) fa26_0) ?_
        refine WS_det hF (by rfl) (y_load1 (by rfl) Tryz.isAgg3 (Mem.own1 0 (by rfl) (by rfl))) ?_
        refine WS_det hF (by rfl) (YD_yes (y_geq (by rfl) (by rfl)) dect) ?_
        refine WS_det hF (by rfl) (by first | exact y_pick_t (c := .bool _) (by rfl) (by rfl) | exact y_pick_f (c := .bool _) (by rfl) (by rfl)) ?_
        refine WS_det hF (by rfl) (y_move (c := .bool _) (by rfl)) ?_
        refine WS_det hF (by rfl) (y_fieldAddr (by rfl) fa26_1) ?_
        refine WS_det hF (by rfl) (y_load1 (by rfl) Tryz.isAgg3 (Mem.own1 2 (by rfl) (by rfl))) ?_
        refine WS_det hF (by rfl) (y_fieldAddr (by rfl) fa26_1) ?_
        refine WS_det hF (by rfl) (y_load1 (by rfl) Tryz.isAgg3 (Mem.own1 0 (by rfl) (by rfl))) ?_
        refine WS_det hF (by rfl) (YD_yes (y_leq (by rfl) (by rfl)) dect) ?_
        refine WS_det hF (by rfl) (by first | exact y_pick_t (c := .bool _) (by rfl) (by rfl) | exact y_pick_f (c := .bool _) (by rfl) (by rfl)) ?_
        refine WS_det hF (by rfl) (y_move (c := .bool _) (by rfl)) ?_
        refine WS_det hF (by rfl) (y_fieldAddr (by rfl) fa26_1) ?_
        refine WS_det hF (by rfl) (y_load1 (by rfl) Tryz.isAgg3 (Mem.own1 1 (by rfl) (by rfl))) ?_
        refine WS_det hF (by rfl) (y_fieldAddr (by rfl) fa26_0) ?_
        refine WS_det hF (by rfl) (y_load1 (by rfl) Tryz.isAgg3 (Mem.own1 2 (by rfl) (by rfl))) ?_
        refine WS_det hF (by rfl) (y_sub (by rfl) (by rfl) (by unfold I64; omega)) ?_
        refine WS_det hF (by rfl) (y_fieldAddr (by rfl) fa26_1) ?_
        refine WS_det hF (by rfl) (y_load1 (by rfl) Tryz.isAgg3 (Mem.own1 3 (by rfl) (by rfl))) ?_
        refine WS_det hF (by rfl) (YD_yes (y_geq (by rfl) (by rfl)) dect) ?_
        refine WS_det hF (by rfl) (by first | exact y_pick_t (c := .bool _) (by rfl) (by rfl) | exact y_pick_f (c := .bool _) (by rfl) (by rfl)) ?_
        refine WS_det hF (by rfl) (y_move (c := .bool _) (by rfl)) ?_
        refine WS_det hF (by rfl) (y_fieldAddr (by rfl) fa26_0) ?_
        refine WS_det hF (by rfl) (y_load1 (by rfl) Tryz.isAgg3 (Mem.own1 1 (by rfl) (by rfl))) ?_
        refine WS_det hF (by rfl) (y_fieldAddr (by rfl) fa26_1) ?_
        refine WS_det hF (by rfl) (y_load1 (by rfl) Tryz.isAgg3 (Mem.own1 2 (by rfl) (by rfl))) ?_
        refine WS_det hF (by rfl) (y_sub (by rfl) (by rfl) (by unfold I64; omega)) ?_
        refine WS_det hF (by rfl) (y_fieldAddr (by rfl) fa26_0) ?_
        refine WS_det hF (by rfl) (y_load1 (by rfl) Tryz.isAgg3 (Mem.own1 3 (by rfl) (by rfl))) ?_
        refine WS_det hF (by rfl) (YD_yes (y_leq (by rfl) (by rfl)) dect) ?_
        refine WS_det hF (by rfl) (by first | exact y_pick_t (c := .bool _) (by rfl) (by rfl) | exact y_pick_f (c := .bool _) (by rfl) (by rfl)) ?_
        refine WS_det hF (by rfl) (y_move (c := .bool _) (by rfl)) ?_
        refine WS_det hF (by rfl) (y_fieldAddr (by rfl) fa26_0) ?_
        refine WS_det hF (by rfl) (y_load1 (by rfl) Tryz.isAgg3 (Mem.own1 2 (by rfl) (by rfl))) ?_
        refine WS_det hF (by rfl) (y_fieldAddr (by rfl) fa26_0) ?_
        refine WS_det hF (by rfl) (y_load1 (by rfl) Tryz.isAgg3 (Mem.own1 1 (by rfl) (by rfl))) ?_
        refine WS_det hF (by rfl) (y_fieldAddr (by rfl) fa26_1) ?_
        refine WS_det hF (by rfl) (y_load1 (by rfl) Tryz.isAgg3 (Mem.own1 3 (by rfl) (by rfl))) ?_
        refine WS_det hF (by rfl) (y_sub (by rfl) (by rfl) (by unfold I64; omega)) ?_
        refine WS_det hF (by rfl) (YD_yes (y_geq (by rfl) (by rfl)) dect) ?_
        refine WS_det hF (by rfl) (by first | exact y_pick_t (c := .bool _) (by rfl) (by rfl) | exact y_pick_f (c := .bool _) (by rfl) (by rfl)) ?_
        refine WS_det hF (by rfl) (y_move (c := .bool _) (by rfl)) ?_
        refine WS_det hF (by rfl) (y_fieldAddr (by rfl) fa26_1) ?_
        refine WS_det hF (by rfl) (y_load1 (by rfl) Tryz.isAgg3 (Mem.own1 2 (by rfl) (by rfl))) ?_
        refine WS_det hF (by rfl) (y_fieldAddr (by rfl) fa26_1) ?_
        refine WS_det hF (by rfl) (y_load1 (by rfl) Tryz.isAgg3 (Mem.own1 1 (by rfl) (by rfl))) ?_
        refine WS_det hF (by rfl) (y_fieldAddr (by rfl) fa26_0) ?_
        refine WS_det hF (by rfl) (y_load1 (by rfl) Tryz.isAgg3 (Mem.own1 3 (by rfl) (by rfl))) ?_
        refine WS_det hF (by rfl) (y_sub (by rfl) (by rfl) (by unfold I64; omega)) ?_
        refine WS_det hF (by rfl) (YD_yes (y_leq (by rfl) (by rfl)) dect) ?_
        refine WS_det hF (by rfl) (by first | exact y_pick_t (c := .bool _) (by rfl) (by rfl) | exact y_pick_f (c := .bool _) (by rfl) (by rfl)) ?_
        refine WS_det hF (by rfl) (y_assign (c := .bool _) (by rfl)) ?_
        refine WS_nil ?_
        refine Then_normal ?_
        refine W_ret ?_
        refine Fin_ret [.bool _] [] Tryz.results5 ⟨by rfl, trivial⟩ HSub.nil ?_
        rfl
theorem tankSums_any (l : Lg) (a : Option Addr) (cap : Nat) (ae : Option Addr) (cape : Nat) (w : World) (hx : Ints w a l.tk.n cap l.tk.pints) (he : Ens w ae l.es.length cape l.es) :
    Ct Tryz.prog 5 #[.agg #[.slice a l.tk.n cap, .int .i64 l.tk.leak, .int .i64 l.tk.foot, .int .i64 l.start.lo, .int .i64 l.start.hi, .slice ae l.es.length cape]] w fun v _ => v = .bool true := by
  cases hr : l.trB with
  | false => exact tankSums_no l a cap ae cape w hx he hr
  | true =>
    obtain ⟨h1, h2, h3⟩ := Lg.rdy_iff.1 (Lg.trB_iff.1 hr).1
    exact tankSums_ok l a cap ae cape w (by omega) (by omega) hx he hr
end Go.Proofs.YthkimgfgpphgnaaGreat.T

namespace Go.Proofs.YthkimgfgpphgnaaGreat
open Go.RowKit Go.Proofs Go.Eng Go.ChangeShapes Go.WideShapes Go.ChangeAt Go.Joins T
set_option maxRecDepth 100000
set_option linter.unusedVariables false

theorem walkTankSums (v0 : Value) (W : World) (h0 : ∃ (l0 : Lg) (a0 : Option Addr) (cap0 : Nat) (ae0 : Option Addr) (cape0 : Nat), v0 = .agg #[.slice a0 l0.tk.n cap0, .int .i64 l0.tk.leak, .int .i64 l0.tk.foot, .int .i64 l0.start.lo, .int .i64 l0.start.hi, .slice ae0 l0.es.length cape0] ∧ Ints W a0 l0.tk.n cap0 l0.tk.pints ∧ Ens W ae0 l0.es.length cape0 l0.es) :
    Calls Tryz.prog 5 #[v0] W fun e W' => e = .returned (.bool true) ∧ Below W.heap.size W W' := by
  obtain ⟨l0, a0, cap0, ae0, cape0, rfl, hx0, he0⟩ := h0
  refine Calls.mono (tankSums_any l0 a0 cap0 ae0 cape0 W hx0 he0) ?_
  rintro e W' ⟨v, rfl, Hn, hb, _, rfl⟩
  exact ⟨rfl, hb⟩

theorem liftTankSums (os : Os) (started : os.Started) (H : Type) (enc : TypeId × Value → H) :
    ReturnsInHanded {} Tryz.checked os 5 .any (Rows.tankSumsSpec.pre6 enc Tryz.prog Tryz.f5 Rows.tankSumsRow.domain false) (Rows.tankSumsSpec.post enc Tryz.prog Tryz.f5 false true false false) := by
  refine returnsInHanded_of_change (C := Tryz.checked) own started (by kernel_rfl) Tryz.func5
    (ChangeSpec.witness6 (enc := enc) (C := Tryz.checked) false ⟨#[], #[.agg #[.slice none 0 0, .int .i64 0, .int .i64 0, .int .i64 0, .int .i64 0, .slice none 0 0]], []⟩ 8 (by kernel_rfl) (by kernel_rfl) (by kernel_rfl) (by kernel_rfl)) ?_
  intro W base args ds gs before hval0 hW hcnd _
  have hval : ∀ (j : Nat) t v, Tryz.f5.params[j]? = some t → args[j]? = some v → Value.okWide Tryz.prog W .any base t v := hval0
  have hW' := hW
  obtain ⟨p, q, hA0, hV, rfl, hfz, hnd⟩ := hW
  have hA : DataW.TrodAll enc Tryz.prog W 0 (fun _ => true) true Tryz.f5.params.toList args.toList ds p := hA0
  rw [Tryz.params5] at hA hval
  obtain ⟨v0, vs0, d0, ds0, p0, q0, hargs, rfl, rfl, h0, r0⟩ := trodAll_cons hA
  obtain ⟨rfl, rfl, rfl⟩ := trodAll_nil r0
  obtain rfl : args = #[v0] := by cases args; simp_all
  obtain ⟨rfl, rfl⟩ := trodVars_none hV
  have lt0 : ∀ x ∈ p0, x.block < W.heap.size := by obtain ⟨m, hm⟩ := h0; exact DataW.trod_lt m _ _ _ hm
  have o0 : ∃ (l0 : Lg) (a0 : Option Addr) (cap0 : Nat) (ae0 : Option Addr) (cape0 : Nat), v0 = .agg #[.slice a0 l0.tk.n cap0, .int .i64 l0.tk.leak, .int .i64 l0.tk.foot, .int .i64 l0.start.lo, .int .i64 l0.start.hi, .slice ae0 l0.es.length cape0] ∧ Ints W a0 l0.tk.n cap0 l0.tk.pints ∧ Ens W ae0 l0.es.length cape0 l0.es := open_log (hval 0 _ v0 rfl rfl) h0 (fun _ => rfl)
  clear hA0 hval0
  refine (walkTankSums v0 W o0).mono fun e W' ⟨he, bel⟩ => ?_
  subst he
  exact ⟨_, rfl, _, _, _, [], _, [], hW', trodAll_mk1 (shut_bool Tryz.underlying4 _),
    (trodAll_cons_mk (Below.trod laidOut (by kernel_rfl) (of_decide_eq_true (by kernel_rfl)) h0 bel lt0) trodAll_mk0), rfl, bel.frame _, fun h => by cases h⟩

theorem tankSums : Rows.TankSumsSaid :=
  OpenClaim.holds_of_wide 5 Tryz.f5 rfl rfl rfl rfl rfl rfl rfl ⟨rfl, rfl, rfl, rfl, rfl⟩ rfl rfl rfl rfl rfl (by kernel_rfl) Tryz.func5 (by kernel_rfl)
    (of_decide_eq_true (by kernel_rfl)) (by unfold Func.isWrapper; first | (rw [if_pos (by decide +kernel)]; kernel_rfl) | (rw [if_neg (by decide +kernel)]; exact ⟨rfl, rfl⟩))
    (fun os started H enc _ => liftTankSums os started H enc)
end Go.Proofs.YthkimgfgpphgnaaGreat
