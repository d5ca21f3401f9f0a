/- Proved: for every input, with no condition, the law TankMore returns true and the input reads as it did (Rows.TankMoreSaid). -/
import Derived.Test.YthkimgfgpphgnaaGreatMb5
import Derived.Test.YthkimgfgpphgnaaGreatMb2
set_option linter.unusedVariables false
set_option linter.unusedSimpArgs false
/- One dip more never widens what is known: plain facts, and the law walked. -/
namespace Go.Proofs.YthkimgfgpphgnaaGreat.T
open Go.RowKit Go.Proofs Go.Eng
set_option maxRecDepth 100000
set_option maxHeartbeats 2000000
set_option linter.unusedVariables false
set_option linter.unusedSimpArgs false



def Sn.W3 (a b : Sn) : Prop := b.lo ≤ a.lo ∧ a.hi ≤ b.hi ∧ a.lo ≤ a.hi
def Lg.lostS (l : Lg) (k : Nat) : Sn := Sn.met ⟨0, l.drip k⟩ ((l.hold k).sub (l.ahd k))
theorem Lg.Tru.moved {l : Lg} {T U : Nat → Int} (h : l.Tru T U) (hok : l.Ok) {k : Nat} (hk : k < l.es.length) (h3 : (l.e k).kind ≠ 3) : (l.moved k).lo ≤ (l.moved k).hi := by
  obtain ⟨h1, h2⟩ := h.sp k hk
  have hb := Lg.before_of (h.hold k (by omega)) h1.1 h1.2
  have ha := h.aft hok (i := k + 1) hk
  unfold Sn.In at hb ha
  unfold Lg.moved
  rcases h2 with ⟨hk1, h2⟩ | ⟨hk2, h2⟩ | ⟨hk3, _⟩
  · rw [if_neg (by omega)]; unfold Sn.met Sn.sub; simp only; omega
  · rw [if_pos hk2]; unfold Sn.met Sn.sub; simp only; omega
  · exact absurd hk3 h3
theorem Lg.Tru.lost {l : Lg} {T U : Nat → Int} (h : l.Tru T U) (hok : l.Ok) {k : Nat} (hk : k < l.es.length) : (l.lostS k).lo ≤ (l.lostS k).hi ∧ (l.lostS k).lo ≤ T k - U k ∧ T k - U k ≤ (l.lostS k).hi := by
  obtain ⟨h1, h2⟩ := h.sp k hk
  have hb := h.hold k (by omega)
  have ha := h.ahd hok hk
  unfold Sn.In at hb ha
  unfold Lg.lostS Sn.met Sn.sub
  simp only
  omega
structure Lg.More (l : Lg) (x : En) : Prop where
  wat : ∀ i, i ≤ l.es.length → ((l.put x).at i).W3 (l.at i)
  wmv : ∀ k, k < l.es.length → (l.e k).kind ≠ 3 → ((l.put x).moved k).W3 (l.moved k)
  wlo : ∀ k, k < l.es.length → ((l.put x).lostS k).W3 (l.lostS k)
  k1 : 0 ≤ -l.lostI (-1)
  k2 : -l.lostI (-1) ≤ -(l.put x).lostI (-1)
  k3 : -(l.put x).lostI (-1) ≤ (l.put x).lostI 1
  k4 : (l.put x).lostI 1 ≤ l.lostI 1 + (l.put x).drip l.es.length
theorem Lg.put_tru {l : Lg} {x : En} {T U : Nat → Int} (h : (l.put x).Tru T U) : l.Tru T U := ⟨h.st, fun i hi => by
  have := h.sp i (by rw [l.put_len]; omega)
  unfold Lg.Stp at this ⊢
  rw [l.put_e x hi, l.put_drip x hi] at this
  exact this⟩
theorem Lg.more {l : Lg} {x : En} (h : l.err = 0) (hh : l.holdsB = true) (h' : (l.put x).err = 0) (hh' : (l.put x).holdsB = true) : l.More x := by
  have hok := l.ok_of h
  have hok' := (l.put x).ok_of h'
  have hl := l.put_len x
  obtain ⟨T, U, ht⟩ := (Lg.holdsB_tru hok').1 hh'
  have hle0 : ((l.put x).aft l.es.length).Le (l.aft l.es.length) := by
    rw [l.aft_n]
    have := hok'.aft_bd (i := l.es.length) (by omega)
    unfold Sn.Le Tk.all
    exact ⟨this.1, this.2.1⟩
  have hle : ∀ i, i ≤ l.es.length → ((l.put x).aft i).Le (l.aft i) := fun i hi => by
    have := Lg.put_aft_le hle0 (l.es.length - i) (by omega)
    rwa [show l.es.length - (l.es.length - i) = i by omega] at this
  have hah : ∀ i, i < l.es.length → ((l.put x).ahd i).Le (l.ahd i) := fun i hi => by
    unfold Lg.ahd
    rw [l.put_e x hi]
    exact Tk.back_mono (hle (i + 1) hi)
  have hK := Lg.leak hok hh
  have hK' := Lg.leak hok' hh'
  obtain ⟨ge', hi', lo'⟩ := hK'
  rw [hl] at ge' hi' lo'
  refine ⟨fun i hi => ?_, fun k hk h3 => ?_, fun k hk => ?_, ?_, ?_, ?_, ?_⟩
  · have h1 := hle i hi
    have h2 := Lg.at_ne hok' hh' (i := i) (by omega)
    unfold Lg.at at h2 ⊢
    rw [l.put_hold x i hi] at h2 ⊢
    unfold Sn.Le at h1
    unfold Sn.W3 Sn.met at *
    simp only at *
    omega
  · have h1 := hle (k + 1) hk
    have h2 := ht.moved hok' (k := k) (by omega) (by rw [l.put_e x hk]; exact h3)
    unfold Lg.moved Lg.before at h2 ⊢
    rw [l.put_hold x k (by omega), l.put_e x hk, l.put_drip x hk] at h2 ⊢
    unfold Sn.Le at h1
    by_cases hk2 : (l.e k).kind = 2
    · rw [if_pos hk2] at h2 ⊢
      rw [if_pos hk2]
      unfold Sn.W3 Sn.met Sn.sub at *
      simp only at *
      omega
    · rw [if_neg hk2] at h2 ⊢
      rw [if_neg hk2]
      unfold Sn.W3 Sn.met Sn.sub at *
      simp only at *
      omega
  · have h1 := hah k hk
    have h2 := (ht.lost hok' (k := k) (by omega)).1
    unfold Lg.lostS at h2 ⊢
    rw [l.put_hold x k (by omega), l.put_drip x hk] at h2 ⊢
    unfold Sn.Le at h1
    unfold Sn.W3 Sn.met Sn.sub at *
    simp only at *
    omega
  · obtain ⟨T0, U0, h1, h2⟩ := hK.lo
    have := h1.lk0 l.es.length (Nat.le_refl _)
    omega
  · obtain ⟨T0, U0, h1, h2⟩ := lo'
    have h3 := (hK.ge T0 U0 (Lg.put_tru h1)).2
    have h4 := (h1.sp l.es.length (by omega)).1
    have h5 : lkS T0 U0 (l.es.length + 1) = lkS T0 U0 l.es.length + (T0 l.es.length - U0 l.es.length) := rfl
    omega
  · have := ge' T U ht
    omega
  · obtain ⟨T0, U0, h1, h2⟩ := hi'
    have h3 := (hK.ge T0 U0 (Lg.put_tru h1)).1
    have h4 := (h1.sp l.es.length (by omega)).1
    have h5 : lkS T0 U0 (l.es.length + 1) = lkS T0 U0 l.es.length + (T0 l.es.length - U0 l.es.length) := rfl
    omega
theorem Lg.movedV_at {l : Lg} (h : l.aerr = 0) {j : Nat} (h0 : 0 < j) (hj : j ≤ l.es.length) (h3 : (l.e (j - 1)).kind ≠ 3) : l.movedV (j : Int) = .tuple #[.agg #[.int .i64 (l.moved (j - 1)).lo, .int .i64 (l.moved (j - 1)).hi], .int .i64 0] := by
  unfold Lg.movedV
  rw [if_pos h, show ((j : Int) - 1).toNat = j - 1 by omega, if_pos (by rw [inB1.2 ⟨by omega, by omega⟩, decide_eq_false h3]; rfl)]; rfl
theorem Lg.lostV_at {l : Lg} (h : l.aerr = 0) {j : Nat} (h0 : 0 < j) (hj : j < l.es.length) : l.lostV (j : Int) = .tuple #[.agg #[.int .i64 (l.lostS j).lo, .int .i64 (l.lostS j).hi], .int .i64 0] := by
  unfold Lg.lostV
  rw [if_pos h, if_pos (inB1.2 ⟨by omega, by omega⟩), Int.toNat_natCast]; rfl
def wiB (a b c d : Int) : Bool := decide (c ≤ a) && decide (b ≤ d) && decide (a ≤ b)
theorem wiB_of {a b : Sn} (h : a.W3 b) : Value.bool (wiB a.lo a.hi b.lo b.hi) = .bool true := by
  unfold Sn.W3 at h
  unfold wiB
  rw [decide_eq_true h.1, decide_eq_true h.2.1, decide_eq_true h.2.2]; rfl
theorem lwithin_any (a b c d : Int) (w : World) : Ct Tryz.prog 20 #[.agg #[.int .i64 a, .int .i64 b], .agg #[.int .i64 c, .int .i64 d]] w fun v _ => v = .bool (wiB a b c d) := by
  have hF := wide_wide
  refine Ct_start (args := [_, _]) Tryz.func20 (by rfl) Tryz.ntmps20 (by rfl) ?_
  refine W_seq ?_
  refine W_region_lit (fun ds => ?_)
  refine WS_new hF (by rfl) (y_box (by rfl)) (fun b1 => ?_)
  refine WS_new hF (by rfl) (y_box (by rfl)) (fun b2 => ?_)
  refine WS_det hF (by rfl) (y_assign (c := .bool _) (by rfl)) ?_
  refine WS_nil ?_
  refine Then_normal ?_
  refine W_seq ?_
  refine W_region_lit (fun ds => ?_)
  refine WS_det hF (by rfl) (y_fieldAddr (by rfl) fa26_0) ?_
  refine WS_det hF (by rfl) (y_load1 (by rfl) Tryz.isAgg3 (Mem.own1 1 (by rfl) (by rfl))) ?_
  refine WS_det hF (by rfl) (y_fieldAddr (by rfl) fa26_0) ?_
  refine WS_det hF (by rfl) (y_load1 (by rfl) Tryz.isAgg3 (Mem.own1 0 (by rfl) (by rfl))) ?_
  refine WS_det hF (by rfl) (y_geq (by rfl) (by rfl)) ?_
  refine WS_det hF (by rfl) (y_move (c := .bool _) (by rfl)) ?_
  refine WS_split 10 (by rfl) (fun g1_5 => ?_) (fun g1_5 => ?_)
  ·
    try simp only [Bool.not_eq_true', Bool.not_eq_false', decide_eq_true_eq, decide_eq_false_iff_not, ne_eq, Classical.not_not, Int.not_lt, Int.not_le] at g1_5
    refine WS_det hF (by rfl) (y_fieldAddr (by rfl) fa26_1) ?_
    refine WS_det hF (by rfl) (y_load1 (by rfl) Tryz.isAgg3 (Mem.own1 1 (by rfl) (by rfl))) ?_
    refine WS_det hF (by rfl) (y_fieldAddr (by rfl) fa26_1) ?_
    refine WS_det hF (by rfl) (y_load1 (by rfl) Tryz.isAgg3 (Mem.own1 0 (by rfl) (by rfl))) ?_
    refine WS_det hF (by rfl) (y_leq (by rfl) (by rfl)) ?_
    refine WS_det hF (by rfl) (by first | exact y_pick_t (c := .bool _) (by rfl) (by rfl) | exact y_pick_f (c := .bool _) (by rfl) (by rfl)) ?_
    refine WS_det hF (by rfl) (y_move (c := .bool _) (by rfl)) ?_
    refine WS_split 17 (by rfl) (fun g1_12 => ?_) (fun g1_12 => ?_)
    ·
      try simp only [Bool.not_eq_true', Bool.not_eq_false', decide_eq_true_eq, decide_eq_false_iff_not, ne_eq, Classical.not_not, Int.not_lt, Int.not_le] at g1_12
      refine WS_det hF (by rfl) (y_fieldAddr (by rfl) fa26_0) ?_
      refine WS_det hF (by rfl) (y_load1 (by rfl) Tryz.isAgg3 (Mem.own1 1 (by rfl) (by rfl))) ?_
      refine WS_det hF (by rfl) (y_fieldAddr (by rfl) fa26_1) ?_
      refine WS_det hF (by rfl) (y_load1 (by rfl) Tryz.isAgg3 (Mem.own1 1 (by rfl) (by rfl))) ?_
      refine WS_det hF (by rfl) (y_leq (by rfl) (by rfl)) ?_
      refine WS_det hF (by rfl) (by first | exact y_pick_t (c := .bool _) (by rfl) (by rfl) | exact y_pick_f (c := .bool _) (by rfl) (by rfl)) ?_
      refine WS_det hF (by rfl) (y_assign (c := .bool _) (by rfl)) ?_
      refine WS_nil ?_
      refine Then_normal ?_
      refine W_ret ?_
      refine Fin_ret [.bool _] [] Tryz.results20 ⟨by rfl, trivial⟩ HSub.nil ?_
      show Value.bool _ = _
      unfold wiB
      first | (simp [*]; done) | (simp [*]; intros; omega)
    ·
      try simp only [Bool.not_eq_true', Bool.not_eq_false', decide_eq_true_eq, decide_eq_false_iff_not, ne_eq, Classical.not_not, Int.not_lt, Int.not_le] at g1_12
      refine WS_no hF (by rfl) ?_
      refine WS_no hF (by rfl) ?_
      refine WS_no hF (by rfl) ?_
      refine WS_no hF (by rfl) ?_
      refine WS_no hF (by rfl) ?_
      refine WS_det hF (by rfl) (by first | exact y_pick_t (c := .bool _) (by rfl) (by rfl) | exact y_pick_f (c := .bool _) (by rfl) (by rfl)) ?_
      refine WS_det hF (by rfl) (y_assign (c := .bool _) (by rfl)) ?_
      refine WS_nil ?_
      refine Then_normal ?_
      refine W_ret ?_
      refine Fin_ret [.bool _] [] Tryz.results20 ⟨by rfl, trivial⟩ HSub.nil ?_
      show Value.bool _ = _
      unfold wiB
      first | (simp [*]; done) | (simp [*]; intros; omega)
  ·
    try simp only [Bool.not_eq_true', Bool.not_eq_false', decide_eq_true_eq, decide_eq_false_iff_not, ne_eq, Classical.not_not, Int.not_lt, Int.not_le] at g1_5
    refine WS_no hF (by rfl) ?_
    refine WS_no hF (by rfl) ?_
    refine WS_no hF (by rfl) ?_
    refine WS_no hF (by rfl) ?_
    refine WS_no hF (by rfl) ?_
    refine WS_det hF (by rfl) (by first | exact y_pick_t (c := .bool _) (by rfl) (by rfl) | exact y_pick_f (c := .bool _) (by rfl) (by rfl)) ?_
    refine WS_det hF (by rfl) (y_move (c := .bool _) (by rfl)) ?_
    refine WS_no hF (by rfl) ?_
    refine WS_no hF (by rfl) ?_
    refine WS_no hF (by rfl) ?_
    refine WS_no hF (by rfl) ?_
    refine WS_no hF (by rfl) ?_
    refine WS_det hF (by rfl) (by first | exact y_pick_t (c := .bool _) (by rfl) (by rfl) | exact y_pick_f (c := .bool _) (by rfl) (by rfl)) ?_
    refine WS_det hF (by rfl) (y_assign (c := .bool _) (by rfl)) ?_
    refine WS_nil ?_
    refine Then_normal ?_
    refine W_ret ?_
    refine Fin_ret [.bool _] [] Tryz.results20 ⟨by rfl, trivial⟩ HSub.nil ?_
    show Value.bool _ = _
    unfold wiB
    first | (simp [*]; done) | (simp [*]; intros; omega)
def mxE (o a b : Int) : En := ⟨o, 3, ⟨min a b, max a b⟩⟩
theorem tankMore_no (l : Lg) (a : Option Addr) (cap : Nat) (ae : Option Addr) (cape : Nat) (p1 p2 p3 p4 : Int) (w : World) (hx : Ints w a l.tk.n cap l.tk.pints) (he : Ens w ae l.es.length cape l.es) (hr : l.trB = false) :
    Ct Tryz.prog 4 #[.agg #[.slice a l.tk.n cap, .int .i64 l.tk.leak, .int .i64 l.tk.foot, .int .i64 l.start.lo, .int .i64 l.start.hi, .slice ae l.es.length cape], .int .u8 p1, .int .u8 p2, .int .u8 p3, .int .u8 p4] w fun v _ => v = .bool true := by
  have hF := wide_wide
  refine Ct_start (args := [_, _, _, _, _]) Tryz.func4 (by rfl) Tryz.ntmps4 (by rfl) ?_
  refine W_seq ?_
  refine W_region_lit (fun ds => ?_)
  refine WS_new hF (by rfl) (y_box (by rfl)) (fun b1 => ?_)
  refine WS_det hF (by rfl) (y_assign (c := .bool _) (by rfl)) ?_
  refine WS_nil ?_
  refine Then_normal ?_
  refine W_seq ?_
  refine W_region_lit (fun ds => ?_)
  refine WS_det hF (by rfl) (y_callL (by rfl) (by rfl) Tryz.call10 (fun w hw => alive_any w)) ?_
  refine WS_det hF (by rfl) (y_assign (c := .bool _) (by rfl)) ?_
  refine WS_nil ?_
  refine Then_normal ?_
  refine W_seq ?_
  refine W_seq ?_
  refine W_region_lit (fun ds => ?_)
  refine WS_det hF (by rfl) (y_loadN (by rfl) Tryz.isAgg29 Tryz.sizeOf29 (Mem.own (us := [.slice _ _ _, .int .i64 _, .int .i64 _, .int .i64 _, .int .i64 _, .slice _ _ _]) 0 (by rfl) (by rfl)) (by rfl)) ?_
  refine WS_det hF (by rfl) (y_callL (by rfl) (by rfl) Tryz.call11 (fun w hw => Ct_eq (ltruth_any l a cap ae cape w (hx.st w hw) (he.st w hw)) (by rw [hr]))) ?_
  refine WS_det hF (by rfl) (y_not (by rfl)) ?_
  refine WS_det hF (by rfl) (y_move (c := .bool _) (by rfl)) ?_
  refine WS_no hF (by rfl) ?_
  refine WS_no hF (by rfl) ?_
  refine WS_det hF (by rfl) (by first | exact y_pick_t (c := .bool _) (by rfl) (by rfl) | exact y_pick_f (c := .bool _) (by rfl) (by rfl)) ?_
  refine WS_nil ?_
  refine Then_normal ?_
  refine W_cond (by rfl) (fun c2 => ?_) (fun c2 => ?_)
  ·
    try simp only [Bool.not_eq_true', Bool.not_eq_false', decide_eq_true_eq, decide_eq_false_iff_not, ne_eq, Classical.not_not, Int.not_lt, Int.not_le] at c2
    refine W_seq ?_
    refine W_region_lit (fun ds => ?_)
    refine WS_det hF (by rfl) (y_move (c := .bool _) (by rfl)) ?_
    refine WS_det hF (by rfl) (y_assign (c := .bool _) (by rfl)) ?_
    refine WS_nil ?_
    refine Then_normal ?_
    refine W_ret ?_
    refine Then_ret ?_
    refine Fin_ret [.bool _] [] Tryz.results4 ⟨by rfl, trivial⟩ HSub.nil ?_
    rfl
  · cases c2
structure Lg.MoH (l : Lg) (o A B : Int) (p1 p2 p3 : Int) : Prop where
  hp1 : 0 ≤ p1 ∧ p1 ≤ 255
  hp2 : 0 ≤ p2 ∧ p2 ≤ 255
  hp3 : 0 ≤ p3 ∧ p3 ≤ 255
  hA : p2 % (l.tk.height + 1) = A
  hB : p3 % (l.tk.height + 1) = B
  hO : min 3652 (l.dayAt l.es.length + p1 % 20) = o
theorem tankMore_full (l : Lg) (a : Option Addr) (cap : Nat) (ae : Option Addr) (cape : Nat) (p1 p2 p3 p4 : Int) (w : World) (o A B : Int) (hM : l.MoH o A B p1 p2 p3) (hn : l.tk.n ≤ 1000000) (hnes : l.es.length ≤ 1000000) (hx : Ints w a l.tk.n cap l.tk.pints) (he : Ens w ae l.es.length cape l.es) (hr : l.trB = true) (h12 : l.es.length = 12) :
    Ct Tryz.prog 4 #[.agg #[.slice a l.tk.n cap, .int .i64 l.tk.leak, .int .i64 l.tk.foot, .int .i64 l.start.lo, .int .i64 l.start.hi, .slice ae l.es.length cape], .int .u8 p1, .int .u8 p2, .int .u8 p3, .int .u8 p4] w fun v _ => v = .bool true := by
  obtain ⟨hp1, hp2, hp3, hA, hB, hO⟩ := hM
  obtain ⟨hrd, h0⟩ := Lg.trB_iff.1 hr
  obtain ⟨_, _, herr⟩ := Lg.rdy_iff.1 hrd
  have hok := l.ok_of herr
  have hn2 := hok.tk.n2
  have hH : l.tk.height = 8 * ((l.tk.n : Int) - 1) := rfl
  have hdb := hok.dayAt_bd
  have hday : l.dayAt l.es.length = if l.es.length = 0 then 0 else (l.e (l.es.length - 1)).day := rfl
  have h9 := fun x => Lg.add_full (x := x) herr h12
  have hq := emod_bd (n := p1) (m := 19) (by omega)
  have hF := wide_wide
  refine Ct_start (args := [_, _, _, _, _]) Tryz.func4 (by rfl) Tryz.ntmps4 (by rfl) ?_
  refine W_seq ?_
  refine W_region_lit (fun ds => ?_)
  refine WS_new hF (by rfl) (y_box (by rfl)) (fun b1 => ?_)
  refine WS_det hF (by rfl) (y_assign (c := .bool _) (by rfl)) ?_
  refine WS_nil ?_
  refine Then_normal ?_
  refine W_seq ?_
  refine W_region_lit (fun ds => ?_)
  refine WS_det hF (by rfl) (y_callL (by rfl) (by rfl) Tryz.call10 (fun w hw => alive_any w)) ?_
  refine WS_det hF (by rfl) (y_assign (c := .bool _) (by rfl)) ?_
  refine WS_nil ?_
  refine Then_normal ?_
  refine W_seq ?_
  refine W_seq ?_
  refine W_region_lit (fun ds => ?_)
  refine WS_det hF (by rfl) (y_loadN (by rfl) Tryz.isAgg29 Tryz.sizeOf29 (Mem.own (us := [.slice _ _ _, .int .i64 _, .int .i64 _, .int .i64 _, .int .i64 _, .slice _ _ _]) 0 (by rfl) (by rfl)) (by rfl)) ?_
  refine WS_det hF (by rfl) (y_callL (by rfl) (by rfl) Tryz.call11 (fun w hw => Ct_eq (ltruth_any l a cap ae cape w (hx.st w hw) (he.st w hw)) (by rw [hr]))) ?_
  refine WS_det hF (by rfl) (y_not (by rfl)) ?_
  refine WS_det hF (by rfl) (y_move (c := .bool _) (by rfl)) ?_
  refine WS_det hF (by rfl) (y_move (c := .bool _) (by rfl)) ?_
  refine WS_det hF (by rfl) (y_not (by rfl)) ?_
  refine WS_det hF (by rfl) (by first | exact y_pick_t (c := .bool _) (by rfl) (by rfl) | exact y_pick_f (c := .bool _) (by rfl) (by rfl)) ?_
  refine WS_nil ?_
  refine Then_normal ?_
  refine W_cond (by rfl) (fun c2 => ?_) (fun c2 => ?_)
  · cases c2
  ·
    try simp only [Bool.not_eq_true', Bool.not_eq_false', decide_eq_true_eq, decide_eq_false_iff_not, ne_eq, Classical.not_not, Int.not_lt, Int.not_le] at c2
    refine W_skip ?_
    refine Then_normal ?_
    refine W_seq ?_
    refine W_draw0 hF Tryzmixed [] (by decide +kernel) (fun ds => ?_)
    refine P_det (by rfl) (Over_nil (y_fieldAddr (by rfl) fa29_2)) ?_
    refine P_det (by rfl) (Over_nil (y_load1 (by rfl) Tryz.isAgg27 (Mem.own1 0 (by rfl) (by rfl)))) ?_
    refine P_det (by rfl) (Over_nil (y_len (by rfl) Tryz.runUnderlying27)) ?_
    refine P_det (by rfl) (Over_nil (y_fieldAddr (by rfl) fa29_0)) ?_
    refine P_det (by rfl) (Over_nil (y_loadN (by rfl) Tryz.isAgg24 Tryz.sizeOf24 (Mem.own (us := [.slice _ _ _, .int .i64 _, .int .i64 _]) 0 (by rfl) (by rfl)) (by rfl))) ?_
    refine P_det (by rfl) (Over_nil (y_callL (by rfl) (by rfl) Tryz.call18 (fun w hw => height_any l.tk a cap w hn))) ?_
    refine P_det (by rfl) (Over_nil (y_assign (c := .int .i64 _) (by rfl))) ?_
    refine P_det (by rfl) (Over_nil (y_assign (c := .int .i64 _) (by rfl))) ?_
    refine PW_end (by rfl) ?_
    refine OverAll_nil ?_
    rintro -
    refine Then_normal ?_
    refine W_seq ?_
    refine W_region_lit (fun ds => ?_)
    refine WS_det hF (by rfl) (y_assign (c := .int .i64 _) (by rfl)) ?_
    refine WS_nil ?_
    refine Then_normal ?_
    refine W_J1H (γ := Int) (fun d => d = l.dayAt l.es.length) [(1, .int .u8 _), (2, .int .u8 _), (3, .int .u8 _), (4, .int .u8 _), (5, .pointer _), (10, .bool _), (11, .bool _), (12, .int .i64 _), (13, .int .i64 _)] (fun d => [(14, .int .i64 d)]) slt ?_ ?_
    ·
      rintro _ e rfl
      refine W_seq ?_
      refine W_draw0 hF Tryzmixed [] (by decide +kernel) (fun ds => ?_)
      refine P_det (by rfl) (Over_nil (y_move (c := .int .u8 _) (by rfl))) ?_
      refine P_det (by rfl) (Over_nil (y_conv_iu (by rfl) Tryz.runUnderlying5 Tryz.runUnderlying3 (by first | exact IntWalk.i64_in _ (by omega) | exact IntWalk.u64_in _ (by omega)))) ?_
      refine P_det (by rfl) (Over_nil (y_move (c := .int .i64 _) (by rfl))) ?_
      refine P_det (by rfl) (Over_nil (y_add (by rfl) (by rfl) (by unfold I64; omega))) ?_
      refine P_det (by rfl) (Over_nil (YD_eq (y_rem (by rfl) (by rfl) (by omega) (by omega)) (congrArg (Value.int _) hA))) ?_
      refine P_det (by rfl) (Over_nil (y_move (c := .int .u8 _) (by rfl))) ?_
      refine P_det (by rfl) (Over_nil (y_conv_iu (by rfl) Tryz.runUnderlying5 Tryz.runUnderlying3 (by first | exact IntWalk.i64_in _ (by omega) | exact IntWalk.u64_in _ (by omega)))) ?_
      refine P_det (by rfl) (Over_nil (y_move (c := .int .i64 _) (by rfl))) ?_
      refine P_det (by rfl) (Over_nil (y_add (by rfl) (by rfl) (by unfold I64; omega))) ?_
      refine P_det (by rfl) (Over_nil (YD_eq (y_rem (by rfl) (by rfl) (by omega) (by omega)) (congrArg (Value.int _) hB))) ?_
      refine P_det (by rfl) (Over_nil (y_assign (c := .int .i64 _) (by rfl))) ?_
      refine P_det (by rfl) (Over_nil (y_assign (c := .int .i64 _) (by rfl))) ?_
      refine PW_end (by rfl) ?_
      refine OverAll_nil ?_
      rintro -
      refine Then_normal ?_
      refine W_seq ?_
      refine W_region_lit (fun ds => ?_)
      refine WS_det hF (by rfl) (y_move (c := .int .i64 _) (by rfl)) ?_
      refine WS_det hF (by rfl) (y_move (c := .int .u8 _) (by rfl)) ?_
      refine WS_det hF (by rfl) (y_conv_iu (by rfl) Tryz.runUnderlying5 Tryz.runUnderlying3 (by first | exact IntWalk.i64_in _ (by omega) | exact IntWalk.u64_in _ (by omega))) ?_
      refine WS_det hF (by rfl) (y_rem (by rfl) (by rfl) (by omega) (by omega)) ?_
      refine WS_det hF (by rfl) (y_add (by rfl) (by rfl) (by unfold I64; omega)) ?_
      refine WS_det hF (by rfl) (YD_eq (y_min (by rfl) (by rfl)) (congrArg (Value.int _) hO)) ?_
      refine WS_det hF (by rfl) (y_assign (c := .int .i64 _) (by rfl)) ?_
      refine WS_nil ?_
      refine Then_normal ?_
      refine W_seq ?_
      refine W_draw0 hF Tryzmixed [18] (by decide +kernel) (fun ds => ?_)
      refine P_det (by rfl) (Over_nil (y_loadN (by rfl) Tryz.isAgg29 Tryz.sizeOf29 (Mem.own (us := [.slice _ _ _, .int .i64 _, .int .i64 _, .int .i64 _, .int .i64 _, .slice _ _ _]) 0 (by rfl) (by rfl)) (by rfl))) ?_
      refine P_det (by rfl) (Over_nil (y_move (c := .int .i64 _) (by rfl))) ?_
      refine P_det (by rfl) (Over_nil (y_move (c := .int .i64 _) (by rfl))) ?_
      refine P_det (by rfl) (Over_nil (y_move (c := .int .i64 _) (by rfl))) ?_
      refine P_det (by rfl) (Over_nil (y_min (by rfl) (by rfl))) ?_
      refine P_det (by rfl) (Over_nil (y_move (c := .int .i64 _) (by rfl))) ?_
      refine P_det (by rfl) (Over_nil (y_move (c := .int .i64 _) (by rfl))) ?_
      refine P_det (by rfl) (Over_nil (y_max (by rfl) (by rfl))) ?_
      refine P_det (by rfl) (Over_nil (y_callL (by rfl) (by rfl) Tryz.call15 (fun w hw => lentry_any _ _ _ _ w))) ?_
      refine P_new (by rfl) (by rfl) (Over_nil (y_callL (by rfl) (by rfl) Tryz.call19 (fun w hw => add_any l a cap ae cape (mxE o A B) w hn (hx.st w hw) (he.st w hw)))) ?_
      refine P_ali [88] (fun e => e 88) (by rfl) (by rfl) (by rfl) (fun _ _ h => h 88 (List.mem_singleton.2 rfl)) (Over_in (by rfl) (Over_nil (by intro vb3 l88 hb3; obtain ⟨rfl, rfl⟩ := AddV.full hb3 (h9 _); exact (YD0_of (y_move (c := .tuple _) (by rfl)))))) ?_
      refine P_ali [78] (fun e => tupAt (e 78) 0) (by rfl) (by rfl) (by rfl) (fun _ _ h => congrArg (tupAt · 0) (h 78 (List.mem_singleton.2 rfl))) (Over_in (by rfl) (Over_in (by rfl) (Over_nil (by intro vb5 l88 hb5; obtain ⟨rfl, rfl⟩ := AddV.full hb5 (h9 _); rintro vb6 _ ⟨hvb6, rfl⟩; replace hvb6 : vb6 = .tuple _ := hvb6; subst hvb6; exact (YD0_of (y_extract (c := .agg _) (by rfl) (by rfl))))))) ?_
      refine P_ali [78] (fun e => tupAt (e 78) 1) (by rfl) (by rfl) (by rfl) (fun _ _ h => congrArg (tupAt · 1) (h 78 (List.mem_singleton.2 rfl))) (Over_out (by rfl) (Over_in (by rfl) (Over_in (by rfl) (Over_nil (by intro vb8 l88 hb8; obtain ⟨rfl, rfl⟩ := AddV.full hb8 (h9 _); rintro vb9 _ ⟨hvb9, rfl⟩; replace hvb9 : vb9 = .tuple _ := hvb9; subst hvb9; exact (YD0_of (y_extract (c := .int .i64 _) (by rfl) (by rfl)))))))) ?_
      refine P_newSD 89 (by rfl) (by rfl) (by rfl) (Over_out (by rfl) (Over_out (by rfl) (Over_out (by rfl) (Over_out (by rfl) (Over_nil (y_alloc Tryz.zeroValue29 (by rfl))))))) ?_
      refine P_st 18 0 (by rfl) (by rfl) (by rfl) (by rfl) (by rfl) (Over_out (by rfl) (Over_in (by rfl) (Over_in (by rfl) (Over_in (by rfl) (Over_nil (by intro vb12 l88 hb12; obtain ⟨rfl, rfl⟩ := AddV.full hb12 (h9 _); rintro vb13 _ ⟨hvb13, rfl⟩; replace hvb13 : vb13 = .tuple _ := hvb13; subst hvb13; rintro vb14 _ ⟨hvb14, rfl⟩; replace hvb14 : vb14 = .agg _ := hvb14; subst hvb14; exact (st_newD (by rfl) (by rfl) Tryz.sizeOf29 (by rfl) (by rfl) (by first | decide | exact Nat.le_of_ble_eq_true rfl | simp)))))))) ?_
      refine P_ali [90] (fun e => e 90) (by rfl) (by rfl) (by rfl) (fun _ _ h => h 90 (List.mem_singleton.2 rfl)) (Over_out (by rfl) (Over_in (by rfl) (Over_out (by rfl) (Over_in (by rfl) (Over_in (by rfl) (Over_nil (by intro vb15 l88 hb15; obtain ⟨rfl, rfl⟩ := AddV.full hb15 (h9 _); rintro vb16 _ ⟨hvb16, rfl⟩; replace hvb16 : vb16 = .tuple _ := hvb16; subst hvb16; rintro vb17 _ ⟨hvb17, rfl⟩; replace hvb17 : vb17 = .int .i64 _ := hvb17; subst hvb17; exact (YD0_of (y_assign (c := .int .i64 _) (by rfl)))))))))) ?_
      refine PW_end (by rfl) ?_
      refine OverAll_cons (fun w19 l19 => ?_)
      refine OverAll_cons (fun w18 l18 => ?_)
      refine OverAll_cons (fun w90 l90 => ?_)
      refine OverAll_cons (fun w89 l89 => ?_)
      refine OverAll_cons (fun w78 l78 => ?_)
      refine OverAll_cons (fun w88 l88 => ?_)
      refine OverAll_nil ?_
      rintro ⟨⟨⟨⟨⟨⟨-, h19⟩, h18⟩, h90⟩, h89⟩, h78⟩, h88⟩
      obtain ⟨rfl, rfl⟩ := AddV.full h88 (h9 _)
      obtain ⟨h78, rfl⟩ := h78
      replace h78 : w78 = .tuple _ := h78
      subst h78
      obtain ⟨h89, rfl⟩ := h89
      replace h89 : w89 = .agg _ := h89
      subst h89
      obtain ⟨h90, rfl⟩ := h90
      replace h90 : w90 = .int .i64 _ := h90
      subst h90
      obtain ⟨h19, rfl⟩ := h19
      replace h19 : w19 = .int .i64 _ := h19
      subst h19
      obtain ⟨b11, rfl, rfl⟩ := h18
      refine Then_normal ?_
      refine W_seq ?_
      refine W_seq ?_
      refine W_keep [(4, .int .u8 _), (5, .pointer _), (10, .bool _), (11, .bool _), (12, .int .i64 _), (14, .int .i64 _), (17, .int .i64 _), (18, .pointer _), (19, .int .i64 _)] (by repeat (first | exact trivial | refine ⟨by rfl, ?_⟩)) (fun e => ?_)
      refine W_region_lit (fun ds => ?_)
      refine WS_det hF (by rfl) (y_move (c := .int .i64 _) (by rfl)) ?_
      refine WS_det hF (by rfl) (YD_yes (y_neq (by rfl) (by rfl)) dect) ?_
      refine WS_nil ?_
      refine Then_normal ?_
      refine W_cond (by rfl) (fun c11 => ?_) (fun c11 => ?_)
      ·
        try simp only [Bool.not_eq_true', Bool.not_eq_false', decide_eq_true_eq, decide_eq_false_iff_not, ne_eq, Classical.not_not, Int.not_lt, Int.not_le] at c11
        refine W_seq ?_
        refine W_region_lit (fun ds => ?_)
        refine WS_det hF (by rfl) (y_move (c := .bool _) (by rfl)) ?_
        refine WS_det hF (by rfl) (y_move (c := .bool _) (by rfl)) ?_
        refine WS_det hF (by rfl) (y_move (c := .int .i64 _) (by rfl)) ?_
        refine WS_det hF (by rfl) (YD_yes (y_eql (by rfl) (by rfl)) dect) ?_
        refine WS_det hF (by rfl) (by first | exact y_pick_t (c := .bool _) (by rfl) (by rfl) | exact y_pick_f (c := .bool _) (by rfl) (by rfl)) ?_
        refine WS_det hF (by rfl) (y_move (c := .bool _) (by rfl)) ?_
        refine WS_det hF (by rfl) (y_move (c := .int .i64 _) (by rfl)) ?_
        refine WS_det hF (by rfl) (YD_yes (y_eql (by rfl) (by rfl)) dect) ?_
        refine WS_det hF (by rfl) (by first | exact y_pick_t (c := .bool _) (by rfl) (by rfl) | exact y_pick_f (c := .bool _) (by rfl) (by rfl)) ?_
        refine WS_det hF (by rfl) (y_assign (c := .bool _) (by rfl)) ?_
        refine WS_nil ?_
        refine Then_normal ?_
        refine W_ret ?_
        refine Then_ret ?_
        refine Fin_ret [.bool _] [] Tryz.results4 ⟨by rfl, trivial⟩ HSub.nil ?_
        rfl
      · cases c11
    ·
      intro J8
      refine W_seq ?_
      refine W_seq ?_
      refine W_region_lit (fun ds => ?_)
      refine WS_det hF (by rfl) (y_move (c := .int .i64 _) (by rfl)) ?_
      refine WS_det hF (by rfl) (y_gtr (by rfl) (by rfl)) ?_
      refine WS_nil ?_
      refine Then_normal ?_
      refine W_cond (by rfl) (fun c6 => ?_) (fun c6 => ?_)
      ·
        try simp only [Bool.not_eq_true', Bool.not_eq_false', decide_eq_true_eq, decide_eq_false_iff_not, ne_eq, Classical.not_not, Int.not_lt, Int.not_le] at c6
        obtain ⟨b, o, rfl, hc⟩ := he.cell (l.es.length - 1) (by omega)
        change At w b _ (l.e (l.es.length - 1)).cells at hc
        refine W_region_lit (fun ds => ?_)
        refine WS_det hF (by rfl) (y_fieldAddr (by rfl) fa29_2) ?_
        refine WS_det hF (by rfl) (y_load1 (by rfl) Tryz.isAgg27 (Mem.own1 0 (by rfl) (by rfl))) ?_
        refine WS_det hF (by rfl) (y_move (c := .int .i64 _) (by rfl)) ?_
        refine WS_det hF (by rfl) (y_sub (by rfl) (by rfl) (by unfold I64; omega)) ?_
        refine WS_det hF (by rfl) (y_index (k := l.es.length - 1) (by rfl) (by rfl) (by first | rfl | omega) (by first | decide | omega) Tryz.runUnderlying27 Tryz.sizeOf38) ?_
        refine WS_det hF (by rfl) (y_fieldAddr (by rfl) fa38_0) ?_
        refine WS_det hF (by rfl) (y_load1 (by rfl) Tryz.isAgg3 (by first | exact Mem.old1 (by assumption) | exact Mem.oldAt1 (by assumption) (by rfl) | exact Mem.old (by assumption) | exact Mem.oldAtL1 (by assumption) (by rfl) (by rfl))) ?_
        refine WS_det hF (by rfl) (y_assign (c := .int .i64 _) (by rfl)) ?_
        refine WS_nil ?_
        refine Then_normal ?_
        exact J8 ((l.e (l.es.length - 1)).day) _ _  (by rw [hday, if_neg (by omega)]) slt slt (HSub.sub sbA)
      ·
        try simp only [Bool.not_eq_true', Bool.not_eq_false', decide_eq_true_eq, decide_eq_false_iff_not, ne_eq, Classical.not_not, Int.not_lt, Int.not_le] at c6
        refine W_skip ?_
        refine Then_normal ?_
        exact J8 (0) _ _  (by rw [hday, if_pos (by omega)]) slt slt (HSub.sub sbA)
theorem tankMore_bad (l : Lg) (a : Option Addr) (cap : Nat) (ae : Option Addr) (cape : Nat) (p1 p2 p3 p4 : Int) (w : World) (o A B : Int) (j : Nat) (hM : l.MoH o A B p1 p2 p3) (hp4 : 0 ≤ p4 ∧ p4 ≤ 255) (hJ : p4 % ((l.es.length : Int) + 1) = (j : Int)) (hj : j ≤ l.es.length) (hn : l.tk.n ≤ 1000000) (hnes : l.es.length ≤ 1000000) (hx : Ints w a l.tk.n cap l.tk.pints) (he : Ens w ae l.es.length cape l.es) (hr : l.trB = true)
    (hE : l.addE (mxE o A B) = 0) (h8 : (l.put (mxE o A B)).aerr = 8) :
    Ct Tryz.prog 4 #[.agg #[.slice a l.tk.n cap, .int .i64 l.tk.leak, .int .i64 l.tk.foot, .int .i64 l.start.lo, .int .i64 l.start.hi, .slice ae l.es.length cape], .int .u8 p1, .int .u8 p2, .int .u8 p3, .int .u8 p4] w fun v _ => v = .bool true := by
  obtain ⟨hp1, hp2, hp3, hA, hB, hO⟩ := hM
  obtain ⟨hrd, h0⟩ := Lg.trB_iff.1 hr
  obtain ⟨_, _, herr⟩ := Lg.rdy_iff.1 hrd
  have hok := l.ok_of herr
  have hn2 := hok.tk.n2
  have hH : l.tk.height = 8 * ((l.tk.n : Int) - 1) := rfl
  have hdb := hok.dayAt_bd
  have hday : l.dayAt l.es.length = if l.es.length = 0 then 0 else (l.e (l.es.length - 1)).day := rfl
  have hq := emod_bd (n := p1) (m := 19) (by omega)
  have hv8 := (l.put (mxE o A B)).holdsV_err (by omega) (j : Int)
  rw [h8] at hv8
  have hF := wide_wide
  refine Ct_start (args := [_, _, _, _, _]) Tryz.func4 (by rfl) Tryz.ntmps4 (by rfl) ?_
  refine W_seq ?_
  refine W_region_lit (fun ds => ?_)
  refine WS_new hF (by rfl) (y_box (by rfl)) (fun b1 => ?_)
  refine WS_det hF (by rfl) (y_assign (c := .bool _) (by rfl)) ?_
  refine WS_nil ?_
  refine Then_normal ?_
  refine W_seq ?_
  refine W_region_lit (fun ds => ?_)
  refine WS_det hF (by rfl) (y_callL (by rfl) (by rfl) Tryz.call10 (fun w hw => alive_any w)) ?_
  refine WS_det hF (by rfl) (y_assign (c := .bool _) (by rfl)) ?_
  refine WS_nil ?_
  refine Then_normal ?_
  refine W_seq ?_
  refine W_seq ?_
  refine W_region_lit (fun ds => ?_)
  refine WS_det hF (by rfl) (y_loadN (by rfl) Tryz.isAgg29 Tryz.sizeOf29 (Mem.own (us := [.slice _ _ _, .int .i64 _, .int .i64 _, .int .i64 _, .int .i64 _, .slice _ _ _]) 0 (by rfl) (by rfl)) (by rfl)) ?_
  refine WS_det hF (by rfl) (y_callL (by rfl) (by rfl) Tryz.call11 (fun w hw => Ct_eq (ltruth_any l a cap ae cape w (hx.st w hw) (he.st w hw)) (by rw [hr]))) ?_
  refine WS_det hF (by rfl) (y_not (by rfl)) ?_
  refine WS_det hF (by rfl) (y_move (c := .bool _) (by rfl)) ?_
  refine WS_det hF (by rfl) (y_move (c := .bool _) (by rfl)) ?_
  refine WS_det hF (by rfl) (y_not (by rfl)) ?_
  refine WS_det hF (by rfl) (by first | exact y_pick_t (c := .bool _) (by rfl) (by rfl) | exact y_pick_f (c := .bool _) (by rfl) (by rfl)) ?_
  refine WS_nil ?_
  refine Then_normal ?_
  refine W_cond (by rfl) (fun c2 => ?_) (fun c2 => ?_)
  · cases c2
  ·
    try simp only [Bool.not_eq_true', Bool.not_eq_false', decide_eq_true_eq, decide_eq_false_iff_not, ne_eq, Classical.not_not, Int.not_lt, Int.not_le] at c2
    refine W_skip ?_
    refine Then_normal ?_
    refine W_seq ?_
    refine W_draw0 hF Tryzmixed [] (by decide +kernel) (fun ds => ?_)
    refine P_det (by rfl) (Over_nil (y_fieldAddr (by rfl) fa29_2)) ?_
    refine P_det (by rfl) (Over_nil (y_load1 (by rfl) Tryz.isAgg27 (Mem.own1 0 (by rfl) (by rfl)))) ?_
    refine P_det (by rfl) (Over_nil (y_len (by rfl) Tryz.runUnderlying27)) ?_
    refine P_det (by rfl) (Over_nil (y_fieldAddr (by rfl) fa29_0)) ?_
    refine P_det (by rfl) (Over_nil (y_loadN (by rfl) Tryz.isAgg24 Tryz.sizeOf24 (Mem.own (us := [.slice _ _ _, .int .i64 _, .int .i64 _]) 0 (by rfl) (by rfl)) (by rfl))) ?_
    refine P_det (by rfl) (Over_nil (y_callL (by rfl) (by rfl) Tryz.call18 (fun w hw => height_any l.tk a cap w hn))) ?_
    refine P_det (by rfl) (Over_nil (y_assign (c := .int .i64 _) (by rfl))) ?_
    refine P_det (by rfl) (Over_nil (y_assign (c := .int .i64 _) (by rfl))) ?_
    refine PW_end (by rfl) ?_
    refine OverAll_nil ?_
    rintro -
    refine Then_normal ?_
    refine W_seq ?_
    refine W_region_lit (fun ds => ?_)
    refine WS_det hF (by rfl) (y_assign (c := .int .i64 _) (by rfl)) ?_
    refine WS_nil ?_
    refine Then_normal ?_
    refine W_J1H (γ := Int) (fun d => d = l.dayAt l.es.length) [(1, .int .u8 _), (2, .int .u8 _), (3, .int .u8 _), (4, .int .u8 _), (5, .pointer _), (10, .bool _), (11, .bool _), (12, .int .i64 _), (13, .int .i64 _)] (fun d => [(14, .int .i64 d)]) slt ?_ ?_
    ·
      rintro _ e rfl
      refine W_seq ?_
      refine W_draw0 hF Tryzmixed [] (by decide +kernel) (fun ds => ?_)
      refine P_det (by rfl) (Over_nil (y_move (c := .int .u8 _) (by rfl))) ?_
      refine P_det (by rfl) (Over_nil (y_conv_iu (by rfl) Tryz.runUnderlying5 Tryz.runUnderlying3 (by first | exact IntWalk.i64_in _ (by omega) | exact IntWalk.u64_in _ (by omega)))) ?_
      refine P_det (by rfl) (Over_nil (y_move (c := .int .i64 _) (by rfl))) ?_
      refine P_det (by rfl) (Over_nil (y_add (by rfl) (by rfl) (by unfold I64; omega))) ?_
      refine P_det (by rfl) (Over_nil (YD_eq (y_rem (by rfl) (by rfl) (by omega) (by omega)) (congrArg (Value.int _) hA))) ?_
      refine P_det (by rfl) (Over_nil (y_move (c := .int .u8 _) (by rfl))) ?_
      refine P_det (by rfl) (Over_nil (y_conv_iu (by rfl) Tryz.runUnderlying5 Tryz.runUnderlying3 (by first | exact IntWalk.i64_in _ (by omega) | exact IntWalk.u64_in _ (by omega)))) ?_
      refine P_det (by rfl) (Over_nil (y_move (c := .int .i64 _) (by rfl))) ?_
      refine P_det (by rfl) (Over_nil (y_add (by rfl) (by rfl) (by unfold I64; omega))) ?_
      refine P_det (by rfl) (Over_nil (YD_eq (y_rem (by rfl) (by rfl) (by omega) (by omega)) (congrArg (Value.int _) hB))) ?_
      refine P_det (by rfl) (Over_nil (y_assign (c := .int .i64 _) (by rfl))) ?_
      refine P_det (by rfl) (Over_nil (y_assign (c := .int .i64 _) (by rfl))) ?_
      refine PW_end (by rfl) ?_
      refine OverAll_nil ?_
      rintro -
      refine Then_normal ?_
      refine W_seq ?_
      refine W_region_lit (fun ds => ?_)
      refine WS_det hF (by rfl) (y_move (c := .int .i64 _) (by rfl)) ?_
      refine WS_det hF (by rfl) (y_move (c := .int .u8 _) (by rfl)) ?_
      refine WS_det hF (by rfl) (y_conv_iu (by rfl) Tryz.runUnderlying5 Tryz.runUnderlying3 (by first | exact IntWalk.i64_in _ (by omega) | exact IntWalk.u64_in _ (by omega))) ?_
      refine WS_det hF (by rfl) (y_rem (by rfl) (by rfl) (by omega) (by omega)) ?_
      refine WS_det hF (by rfl) (y_add (by rfl) (by rfl) (by unfold I64; omega)) ?_
      refine WS_det hF (by rfl) (YD_eq (y_min (by rfl) (by rfl)) (congrArg (Value.int _) hO)) ?_
      refine WS_det hF (by rfl) (y_assign (c := .int .i64 _) (by rfl)) ?_
      refine WS_nil ?_
      refine Then_normal ?_
      refine W_seq ?_
      refine W_draw0 hF Tryzmixed [18] (by decide +kernel) (fun ds => ?_)
      refine P_det (by rfl) (Over_nil (y_loadN (by rfl) Tryz.isAgg29 Tryz.sizeOf29 (Mem.own (us := [.slice _ _ _, .int .i64 _, .int .i64 _, .int .i64 _, .int .i64 _, .slice _ _ _]) 0 (by rfl) (by rfl)) (by rfl))) ?_
      refine P_det (by rfl) (Over_nil (y_move (c := .int .i64 _) (by rfl))) ?_
      refine P_det (by rfl) (Over_nil (y_move (c := .int .i64 _) (by rfl))) ?_
      refine P_det (by rfl) (Over_nil (y_move (c := .int .i64 _) (by rfl))) ?_
      refine P_det (by rfl) (Over_nil (y_min (by rfl) (by rfl))) ?_
      refine P_det (by rfl) (Over_nil (y_move (c := .int .i64 _) (by rfl))) ?_
      refine P_det (by rfl) (Over_nil (y_move (c := .int .i64 _) (by rfl))) ?_
      refine P_det (by rfl) (Over_nil (y_max (by rfl) (by rfl))) ?_
      refine P_det (by rfl) (Over_nil (y_callL (by rfl) (by rfl) Tryz.call15 (fun w hw => lentry_any _ _ _ _ w))) ?_
      refine P_new (by rfl) (by rfl) (Over_nil (y_callL (by rfl) (by rfl) Tryz.call19 (fun w hw => add_any l a cap ae cape (mxE o A B) w hn (hx.st w hw) (he.st w hw)))) ?_
      refine P_ali [88] (fun e => e 88) (by rfl) (by rfl) (by rfl) (fun _ _ h => h 88 (List.mem_singleton.2 rfl)) (Over_in (by rfl) (Over_nil (by intro vb3 l88 hb3; obtain ⟨y1, yc1, y2, yc2, Hy1, Hy2, rfl, hr1, hr2, rfl⟩ := AddV.ok hb3 hE; exact (YD0_of (y_move (c := .tuple _) (by rfl)))))) ?_
      refine P_ali [78] (fun e => tupAt (e 78) 0) (by rfl) (by rfl) (by rfl) (fun _ _ h => congrArg (tupAt · 0) (h 78 (List.mem_singleton.2 rfl))) (Over_in (by rfl) (Over_in (by rfl) (Over_nil (by intro vb5 l88 hb5; obtain ⟨y1, yc1, y2, yc2, Hy1, Hy2, rfl, hr1, hr2, rfl⟩ := AddV.ok hb5 hE; rintro vb6 _ ⟨hvb6, rfl⟩; replace hvb6 : vb6 = .tuple _ := hvb6; subst hvb6; exact (YD0_of (y_extract (c := .agg _) (by rfl) (by rfl))))))) ?_
      refine P_ali [78] (fun e => tupAt (e 78) 1) (by rfl) (by rfl) (by rfl) (fun _ _ h => congrArg (tupAt · 1) (h 78 (List.mem_singleton.2 rfl))) (Over_out (by rfl) (Over_in (by rfl) (Over_in (by rfl) (Over_nil (by intro vb8 l88 hb8; obtain ⟨y1, yc1, y2, yc2, Hy1, Hy2, rfl, hr1, hr2, rfl⟩ := AddV.ok hb8 hE; rintro vb9 _ ⟨hvb9, rfl⟩; replace hvb9 : vb9 = .tuple _ := hvb9; subst hvb9; exact (YD0_of (y_extract (c := .int .i64 _) (by rfl) (by rfl)))))))) ?_
      refine P_newSD 89 (by rfl) (by rfl) (by rfl) (Over_out (by rfl) (Over_out (by rfl) (Over_out (by rfl) (Over_out (by rfl) (Over_nil (y_alloc Tryz.zeroValue29 (by rfl))))))) ?_
      refine P_st 18 0 (by rfl) (by rfl) (by rfl) (by rfl) (by rfl) (Over_out (by rfl) (Over_in (by rfl) (Over_in (by rfl) (Over_in (by rfl) (Over_nil (by intro vb12 l88 hb12; obtain ⟨y1, yc1, y2, yc2, Hy1, Hy2, rfl, hr1, hr2, rfl⟩ := AddV.ok hb12 hE; rintro vb13 _ ⟨hvb13, rfl⟩; replace hvb13 : vb13 = .tuple _ := hvb13; subst hvb13; rintro vb14 _ ⟨hvb14, rfl⟩; replace hvb14 : vb14 = .agg _ := hvb14; subst hvb14; exact (st_newD (by rfl) (by rfl) Tryz.sizeOf29 (by rfl) (by rfl) (by first | decide | exact Nat.le_of_ble_eq_true rfl | simp)))))))) ?_
      refine P_ali [90] (fun e => e 90) (by rfl) (by rfl) (by rfl) (fun _ _ h => h 90 (List.mem_singleton.2 rfl)) (Over_out (by rfl) (Over_in (by rfl) (Over_out (by rfl) (Over_in (by rfl) (Over_in (by rfl) (Over_nil (by intro vb15 l88 hb15; obtain ⟨y1, yc1, y2, yc2, Hy1, Hy2, rfl, hr1, hr2, rfl⟩ := AddV.ok hb15 hE; rintro vb16 _ ⟨hvb16, rfl⟩; replace hvb16 : vb16 = .tuple _ := hvb16; subst hvb16; rintro vb17 _ ⟨hvb17, rfl⟩; replace hvb17 : vb17 = .int .i64 _ := hvb17; subst hvb17; exact (YD0_of (y_assign (c := .int .i64 _) (by rfl)))))))))) ?_
      refine PW_end (by rfl) ?_
      refine OverAll_cons (fun w19 l19 => ?_)
      refine OverAll_cons (fun w18 l18 => ?_)
      refine OverAll_cons (fun w90 l90 => ?_)
      refine OverAll_cons (fun w89 l89 => ?_)
      refine OverAll_cons (fun w78 l78 => ?_)
      refine OverAll_cons (fun w88 l88 => ?_)
      refine OverAll_nil ?_
      rintro ⟨⟨⟨⟨⟨⟨-, h19⟩, h18⟩, h90⟩, h89⟩, h78⟩, h88⟩
      obtain ⟨y1, yc1, y2, yc2, Hy1, Hy2, rfl, hr1, hr2, rfl⟩ := AddV.ok h88 hE
      obtain ⟨h78, rfl⟩ := h78
      replace h78 : w78 = .tuple _ := h78
      subst h78
      obtain ⟨h89, rfl⟩ := h89
      replace h89 : w89 = .agg _ := h89
      subst h89
      obtain ⟨h90, rfl⟩ := h90
      replace h90 : w90 = .int .i64 _ := h90
      subst h90
      obtain ⟨h19, rfl⟩ := h19
      replace h19 : w19 = .int .i64 _ := h19
      subst h19
      obtain ⟨b11, rfl, rfl⟩ := h18
      refine Then_normal ?_
      refine W_seq ?_
      refine W_seq ?_
      refine W_perm List.perm_append_comm ?_
      refine W_keep [(4, .int .u8 _), (5, .pointer _), (10, .bool _), (11, .bool _), (12, .int .i64 _), (14, .int .i64 _), (17, .int .i64 _), (18, .pointer _), (19, .int .i64 _)] (by repeat (first | exact trivial | refine ⟨by rfl, ?_⟩)) (fun e => ?_)
      refine W_region_lit (fun ds => ?_)
      refine WS_det hF (by rfl) (y_move (c := .int .i64 _) (by rfl)) ?_
      refine WS_det hF (by rfl) (YD_no (y_neq (by rfl) (by rfl)) dect) ?_
      refine WS_nil ?_
      refine Then_normal ?_
      refine W_cond (by rfl) (fun c11 => ?_) (fun c11 => ?_)
      · cases c11
      ·
        try simp only [Bool.not_eq_true', Bool.not_eq_false', decide_eq_true_eq, decide_eq_false_iff_not, ne_eq, Classical.not_not, Int.not_lt, Int.not_le] at c11
        refine W_skip ?_
        refine Then_normal ?_
        refine W_seq ?_
        refine W_region_lit (fun ds => ?_)
        refine WS_det hF (by rfl) (y_move (c := .int .u8 _) (by rfl)) ?_
        refine WS_det hF (by rfl) (y_conv_iu (by rfl) Tryz.runUnderlying5 Tryz.runUnderlying3 (by first | exact IntWalk.i64_in _ (by omega) | exact IntWalk.u64_in _ (by omega))) ?_
        refine WS_det hF (by rfl) (y_move (c := .int .i64 _) (by rfl)) ?_
        refine WS_det hF (by rfl) (y_add (by rfl) (by rfl) (by unfold I64; omega)) ?_
        refine WS_det hF (by rfl) (YD_eq (y_rem (by rfl) (by rfl) (by omega) (by omega)) (congrArg (Value.int _) hJ)) ?_
        refine WS_det hF (by rfl) (y_assign (c := .int .i64 _) (by rfl)) ?_
        refine WS_nil ?_
        refine Then_normal ?_
        refine W_seq ?_
        refine W_region_lit (fun ds => ?_)
        refine WS_det hF (by rfl) (y_loadN (by rfl) Tryz.isAgg29 Tryz.sizeOf29 (Mem.own (us := [.slice _ _ _, .int .i64 _, .int .i64 _, .int .i64 _, .int .i64 _, .slice _ _ _]) 1 (by rfl) (by rfl)) (by rfl)) ?_
        refine WS_det hF (by rfl) (y_move (c := .int .i64 _) (by rfl)) ?_
        refine WS_det hF (by rfl) (y_callL (by rfl) (by rfl) Tryz.call12 (fun w hw => Ct_eq (holds_any l a cap ae cape (j : Int) w hn (hx.st w hw) (he.st w hw)) (Lg.holdsV_at h0 hj))) ?_
        refine WS_det hF (by rfl) (y_move (c := .tuple _) (by rfl)) ?_
        refine WS_det hF (by rfl) (y_extract (c := .agg _) (by rfl) (by rfl)) ?_
        refine WS_det hF (by rfl) (y_extract (c := .int .i64 _) (by rfl) (by rfl)) ?_
        refine WS_new hF (by rfl) (y_alloc Tryz.zeroValue26 (by rfl)) (fun b19 => ?_)
        refine WS_store hF (us := [.int .i64 _, .int .i64 _]) (i := 0) (by rfl) (by rfl) Tryz.sizeOf26 (by rfl) (by rfl) (by rfl) (by first | decide | exact Nat.le_of_ble_eq_true rfl | simp) ?_
        refine WS_det hF (by rfl) (y_assign (c := .int .i64 _) (by rfl)) ?_
        refine WS_nil ?_
        refine Then_normal ?_
        refine W_seq ?_
        refine W_region_lit (fun ds => ?_)
        refine WS_det hF (by rfl) (y_loadN (by rfl) Tryz.isAgg29 Tryz.sizeOf29 (Mem.own (us := [.slice _ _ _, .int .i64 _, .int .i64 _, .int .i64 _, .int .i64 _, .slice _ _ _]) 1 (by rfl) (by rfl)) (by rfl)) ?_
        refine WS_det hF (by rfl) (y_move (c := .int .i64 _) (by rfl)) ?_
        refine WS_det hF (by rfl) (y_callL (by rfl) (by rfl) Tryz.call12 (fun w hw => Ct_eq (holds_any (l.put (mxE o A B)) y1 yc1 y2 yc2 (j : Int) w hn (NewRow.ints hr1 rfl sbA w hw) (NewRow.rws en_len hr2 rfl sbA w hw)) hv8)) ?_
        refine WS_det hF (by rfl) (y_move (c := .tuple _) (by rfl)) ?_
        refine WS_det hF (by rfl) (y_extract (c := .agg _) (by rfl) (by rfl)) ?_
        refine WS_det hF (by rfl) (y_extract (c := .int .i64 _) (by rfl) (by rfl)) ?_
        refine WS_new hF (by rfl) (y_alloc Tryz.zeroValue26 (by rfl)) (fun b20 => ?_)
        refine WS_store hF (us := [.int .i64 _, .int .i64 _]) (i := 0) (by rfl) (by rfl) Tryz.sizeOf26 (by rfl) (by rfl) (by rfl) (by first | decide | exact Nat.le_of_ble_eq_true rfl | simp) ?_
        refine WS_det hF (by rfl) (y_assign (c := .int .i64 _) (by rfl)) ?_
        refine WS_nil ?_
        refine Then_normal ?_
        refine W_seq ?_
        refine W_seq ?_
        refine W_region_lit (fun ds => ?_)
        refine WS_det hF (by rfl) (y_move (c := .int .i64 _) (by rfl)) ?_
        refine WS_det hF (by rfl) (YD_no (y_neq (by rfl) (by rfl)) dect) ?_
        refine WS_det hF (by rfl) (y_move (c := .bool _) (by rfl)) ?_
        refine WS_det hF (by rfl) (y_move (c := .int .i64 _) (by rfl)) ?_
        refine WS_det hF (by rfl) (YD_yes (y_neq (by rfl) (by rfl)) dect) ?_
        refine WS_det hF (by rfl) (y_move (c := .bool _) (by rfl)) ?_
        refine WS_det hF (by rfl) (y_move (c := .int .i64 _) (by rfl)) ?_
        refine WS_det hF (by rfl) (YD_no (y_neq (by rfl) (by rfl)) dect) ?_
        refine WS_det hF (by rfl) (by first | exact y_pick_t (c := .bool _) (by rfl) (by rfl) | exact y_pick_f (c := .bool _) (by rfl) (by rfl)) ?_
        refine WS_det hF (by rfl) (by first | exact y_pick_t (c := .bool _) (by rfl) (by rfl) | exact y_pick_f (c := .bool _) (by rfl) (by rfl)) ?_
        refine WS_nil ?_
        refine Then_normal ?_
        refine W_cond (by rfl) (fun c16 => ?_) (fun c16 => ?_)
        · cases c16
        ·
          try simp only [Bool.not_eq_true', Bool.not_eq_false', decide_eq_true_eq, decide_eq_false_iff_not, ne_eq, Classical.not_not, Int.not_lt, Int.not_le] at c16
          refine W_skip ?_
          refine Then_normal ?_
          refine W_seq ?_
          refine W_seq ?_
          refine W_keep [(5, .pointer _), (10, .bool _), (11, .bool _), (12, .int .i64 _), (14, .int .i64 _), (17, .int .i64 _), (18, .pointer _), (20, .int .i64 _), (21, .pointer _), (23, .pointer _), (24, .int .i64 _)] (by repeat (first | exact trivial | refine ⟨by rfl, ?_⟩)) (fun e => ?_)
          refine W_region_lit (fun ds => ?_)
          refine WS_det hF (by rfl) (y_move (c := .int .i64 _) (by rfl)) ?_
          refine WS_det hF (by rfl) (YD_yes (y_neq (by rfl) (by rfl)) dect) ?_
          refine WS_nil ?_
          refine Then_normal ?_
          refine W_cond (by rfl) (fun c18 => ?_) (fun c18 => ?_)
          ·
            try simp only [Bool.not_eq_true', Bool.not_eq_false', decide_eq_true_eq, decide_eq_false_iff_not, ne_eq, Classical.not_not, Int.not_lt, Int.not_le] at c18
            refine W_seq ?_
            refine W_region_lit (fun ds => ?_)
            refine WS_det hF (by rfl) (y_move (c := .bool _) (by rfl)) ?_
            refine WS_det hF (by rfl) (y_assign (c := .bool _) (by rfl)) ?_
            refine WS_nil ?_
            refine Then_normal ?_
            refine W_ret ?_
            refine Then_ret ?_
            refine Fin_ret [.bool _] [] Tryz.results4 ⟨by rfl, trivial⟩ HSub.nil ?_
            rfl
          · cases c18
    ·
      intro J8
      refine W_seq ?_
      refine W_seq ?_
      refine W_region_lit (fun ds => ?_)
      refine WS_det hF (by rfl) (y_move (c := .int .i64 _) (by rfl)) ?_
      refine WS_det hF (by rfl) (y_gtr (by rfl) (by rfl)) ?_
      refine WS_nil ?_
      refine Then_normal ?_
      refine W_cond (by rfl) (fun c6 => ?_) (fun c6 => ?_)
      ·
        try simp only [Bool.not_eq_true', Bool.not_eq_false', decide_eq_true_eq, decide_eq_false_iff_not, ne_eq, Classical.not_not, Int.not_lt, Int.not_le] at c6
        obtain ⟨b, o, rfl, hc⟩ := he.cell (l.es.length - 1) (by omega)
        change At w b _ (l.e (l.es.length - 1)).cells at hc
        refine W_region_lit (fun ds => ?_)
        refine WS_det hF (by rfl) (y_fieldAddr (by rfl) fa29_2) ?_
        refine WS_det hF (by rfl) (y_load1 (by rfl) Tryz.isAgg27 (Mem.own1 0 (by rfl) (by rfl))) ?_
        refine WS_det hF (by rfl) (y_move (c := .int .i64 _) (by rfl)) ?_
        refine WS_det hF (by rfl) (y_sub (by rfl) (by rfl) (by unfold I64; omega)) ?_
        refine WS_det hF (by rfl) (y_index (k := l.es.length - 1) (by rfl) (by rfl) (by first | rfl | omega) (by first | decide | omega) Tryz.runUnderlying27 Tryz.sizeOf38) ?_
        refine WS_det hF (by rfl) (y_fieldAddr (by rfl) fa38_0) ?_
        refine WS_det hF (by rfl) (y_load1 (by rfl) Tryz.isAgg3 (by first | exact Mem.old1 (by assumption) | exact Mem.oldAt1 (by assumption) (by rfl) | exact Mem.old (by assumption) | exact Mem.oldAtL1 (by assumption) (by rfl) (by rfl))) ?_
        refine WS_det hF (by rfl) (y_assign (c := .int .i64 _) (by rfl)) ?_
        refine WS_nil ?_
        refine Then_normal ?_
        exact J8 ((l.e (l.es.length - 1)).day) _ _  (by rw [hday, if_neg (by omega)]) slt slt (HSub.sub sbA)
      ·
        try simp only [Bool.not_eq_true', Bool.not_eq_false', decide_eq_true_eq, decide_eq_false_iff_not, ne_eq, Classical.not_not, Int.not_lt, Int.not_le] at c6
        refine W_skip ?_
        refine Then_normal ?_
        exact J8 (0) _ _  (by rw [hday, if_pos (by omega)]) slt slt (HSub.sub sbA)
theorem tankMore_ok (l : Lg) (a : Option Addr) (cap : Nat) (ae : Option Addr) (cape : Nat) (p1 p2 p3 p4 : Int) (w : World) (o A B : Int) (j : Nat) (hM : l.MoH o A B p1 p2 p3) (hp4 : 0 ≤ p4 ∧ p4 ≤ 255) (hJ : p4 % ((l.es.length : Int) + 1) = (j : Int)) (hj : j ≤ l.es.length) (hn : l.tk.n ≤ 1000000) (hnes : l.es.length ≤ 1000000) (hx : Ints w a l.tk.n cap l.tk.pints) (he : Ens w ae l.es.length cape l.es) (hr : l.trB = true)
    (hE : l.addE (mxE o A B) = 0) (hxerr : (l.put (mxE o A B)).err = 0) (hx0 : (l.put (mxE o A B)).aerr = 0) (hXh : (l.put (mxE o A B)).holdsB = true) :
    Ct Tryz.prog 4 #[.agg #[.slice a l.tk.n cap, .int .i64 l.tk.leak, .int .i64 l.tk.foot, .int .i64 l.start.lo, .int .i64 l.start.hi, .slice ae l.es.length cape], .int .u8 p1, .int .u8 p2, .int .u8 p3, .int .u8 p4] w fun v _ => v = .bool true := by
  obtain ⟨hp1, hp2, hp3, hA, hB, hO⟩ := hM
  obtain ⟨hrd, h0⟩ := Lg.trB_iff.1 hr
  obtain ⟨_, _, herr⟩ := Lg.rdy_iff.1 hrd
  have hh : l.holdsB = true := l.holdsB_iff.2 (l.aerr0 h0).2
  have hok := l.ok_of herr
  have hn2 := hok.tk.n2
  have hH : l.tk.height = 8 * ((l.tk.n : Int) - 1) := rfl
  have hdb := hok.dayAt_bd
  have hday : l.dayAt l.es.length = if l.es.length = 0 then 0 else (l.e (l.es.length - 1)).day := rfl
  have hq := emod_bd (n := p1) (m := 19) (by omega)
  have hMo := Lg.more herr hh hxerr hXh
  have hxl := l.put_len (mxE o A B)
  have hdn := l.put_dripn (mxE o A B)
  have hod : l.dayAt l.es.length ≤ o ∧ o ≤ 3652 := by omega
  have hmu := mul_bd hok.tk.leak0 hok.tk.leak1 (show 0 ≤ o - l.dayAt l.es.length by omega) (show o - l.dayAt l.es.length ≤ 3652 by omega)
  have hlb := l.lost_bd hok (sg := 1) (by omega)
  have hlb2 : 0 ≤ l.lostI 1 := by
    obtain ⟨T0, U0, g1, g2⟩ := (Lg.leak hok hh).hi
    have := g1.lk0 l.es.length (Nat.le_refl _)
    omega
  have hk1 := hMo.k1
  have hk2 := hMo.k2
  have hk3 := hMo.k3
  have hk4 := hMo.k4
  have hF := wide_wide
  refine Ct_start (args := [_, _, _, _, _]) Tryz.func4 (by rfl) Tryz.ntmps4 (by rfl) ?_
  refine W_seq ?_
  refine W_region_lit (fun ds => ?_)
  refine WS_new hF (by rfl) (y_box (by rfl)) (fun b1 => ?_)
  refine WS_det hF (by rfl) (y_assign (c := .bool _) (by rfl)) ?_
  refine WS_nil ?_
  refine Then_normal ?_
  refine W_seq ?_
  refine W_region_lit (fun ds => ?_)
  refine WS_det hF (by rfl) (y_callL (by rfl) (by rfl) Tryz.call10 (fun w hw => alive_any w)) ?_
  refine WS_det hF (by rfl) (y_assign (c := .bool _) (by rfl)) ?_
  refine WS_nil ?_
  refine Then_normal ?_
  refine W_seq ?_
  refine W_seq ?_
  refine W_region_lit (fun ds => ?_)
  refine WS_det hF (by rfl) (y_loadN (by rfl) Tryz.isAgg29 Tryz.sizeOf29 (Mem.own (us := [.slice _ _ _, .int .i64 _, .int .i64 _, .int .i64 _, .int .i64 _, .slice _ _ _]) 0 (by rfl) (by rfl)) (by rfl)) ?_
  refine WS_det hF (by rfl) (y_callL (by rfl) (by rfl) Tryz.call11 (fun w hw => Ct_eq (ltruth_any l a cap ae cape w (hx.st w hw) (he.st w hw)) (by rw [hr]))) ?_
  refine WS_det hF (by rfl) (y_not (by rfl)) ?_
  refine WS_det hF (by rfl) (y_move (c := .bool _) (by rfl)) ?_
  refine WS_det hF (by rfl) (y_move (c := .bool _) (by rfl)) ?_
  refine WS_det hF (by rfl) (y_not (by rfl)) ?_
  refine WS_det hF (by rfl) (by first | exact y_pick_t (c := .bool _) (by rfl) (by rfl) | exact y_pick_f (c := .bool _) (by rfl) (by rfl)) ?_
  refine WS_nil ?_
  refine Then_normal ?_
  refine W_cond (by rfl) (fun c2 => ?_) (fun c2 => ?_)
  · cases c2
  ·
    try simp only [Bool.not_eq_true', Bool.not_eq_false', decide_eq_true_eq, decide_eq_false_iff_not, ne_eq, Classical.not_not, Int.not_lt, Int.not_le] at c2
    refine W_skip ?_
    refine Then_normal ?_
    refine W_seq ?_
    refine W_draw0 hF Tryzmixed [] (by decide +kernel) (fun ds => ?_)
    refine P_det (by rfl) (Over_nil (y_fieldAddr (by rfl) fa29_2)) ?_
    refine P_det (by rfl) (Over_nil (y_load1 (by rfl) Tryz.isAgg27 (Mem.own1 0 (by rfl) (by rfl)))) ?_
    refine P_det (by rfl) (Over_nil (y_len (by rfl) Tryz.runUnderlying27)) ?_
    refine P_det (by rfl) (Over_nil (y_fieldAddr (by rfl) fa29_0)) ?_
    refine P_det (by rfl) (Over_nil (y_loadN (by rfl) Tryz.isAgg24 Tryz.sizeOf24 (Mem.own (us := [.slice _ _ _, .int .i64 _, .int .i64 _]) 0 (by rfl) (by rfl)) (by rfl))) ?_
    refine P_det (by rfl) (Over_nil (y_callL (by rfl) (by rfl) Tryz.call18 (fun w hw => height_any l.tk a cap w hn))) ?_
    refine P_det (by rfl) (Over_nil (y_assign (c := .int .i64 _) (by rfl))) ?_
    refine P_det (by rfl) (Over_nil (y_assign (c := .int .i64 _) (by rfl))) ?_
    refine PW_end (by rfl) ?_
    refine OverAll_nil ?_
    rintro -
    refine Then_normal ?_
    refine W_seq ?_
    refine W_region_lit (fun ds => ?_)
    refine WS_det hF (by rfl) (y_assign (c := .int .i64 _) (by rfl)) ?_
    refine WS_nil ?_
    refine Then_normal ?_
    refine W_J1H (γ := Int) (fun d => d = l.dayAt l.es.length) [(1, .int .u8 _), (2, .int .u8 _), (3, .int .u8 _), (4, .int .u8 _), (5, .pointer _), (10, .bool _), (11, .bool _), (12, .int .i64 _), (13, .int .i64 _)] (fun d => [(14, .int .i64 d)]) slt ?_ ?_
    ·
      rintro _ e rfl
      refine W_seq ?_
      refine W_draw0 hF Tryzmixed [] (by decide +kernel) (fun ds => ?_)
      refine P_det (by rfl) (Over_nil (y_move (c := .int .u8 _) (by rfl))) ?_
      refine P_det (by rfl) (Over_nil (y_conv_iu (by rfl) Tryz.runUnderlying5 Tryz.runUnderlying3 (by first | exact IntWalk.i64_in _ (by omega) | exact IntWalk.u64_in _ (by omega)))) ?_
      refine P_det (by rfl) (Over_nil (y_move (c := .int .i64 _) (by rfl))) ?_
      refine P_det (by rfl) (Over_nil (y_add (by rfl) (by rfl) (by unfold I64; omega))) ?_
      refine P_det (by rfl) (Over_nil (YD_eq (y_rem (by rfl) (by rfl) (by omega) (by omega)) (congrArg (Value.int _) hA))) ?_
      refine P_det (by rfl) (Over_nil (y_move (c := .int .u8 _) (by rfl))) ?_
      refine P_det (by rfl) (Over_nil (y_conv_iu (by rfl) Tryz.runUnderlying5 Tryz.runUnderlying3 (by first | exact IntWalk.i64_in _ (by omega) | exact IntWalk.u64_in _ (by omega)))) ?_
      refine P_det (by rfl) (Over_nil (y_move (c := .int .i64 _) (by rfl))) ?_
      refine P_det (by rfl) (Over_nil (y_add (by rfl) (by rfl) (by unfold I64; omega))) ?_
      refine P_det (by rfl) (Over_nil (YD_eq (y_rem (by rfl) (by rfl) (by omega) (by omega)) (congrArg (Value.int _) hB))) ?_
      refine P_det (by rfl) (Over_nil (y_assign (c := .int .i64 _) (by rfl))) ?_
      refine P_det (by rfl) (Over_nil (y_assign (c := .int .i64 _) (by rfl))) ?_
      refine PW_end (by rfl) ?_
      refine OverAll_nil ?_
      rintro -
      refine Then_normal ?_
      refine W_seq ?_
      refine W_region_lit (fun ds => ?_)
      refine WS_det hF (by rfl) (y_move (c := .int .i64 _) (by rfl)) ?_
      refine WS_det hF (by rfl) (y_move (c := .int .u8 _) (by rfl)) ?_
      refine WS_det hF (by rfl) (y_conv_iu (by rfl) Tryz.runUnderlying5 Tryz.runUnderlying3 (by first | exact IntWalk.i64_in _ (by omega) | exact IntWalk.u64_in _ (by omega))) ?_
      refine WS_det hF (by rfl) (y_rem (by rfl) (by rfl) (by omega) (by omega)) ?_
      refine WS_det hF (by rfl) (y_add (by rfl) (by rfl) (by unfold I64; omega)) ?_
      refine WS_det hF (by rfl) (YD_eq (y_min (by rfl) (by rfl)) (congrArg (Value.int _) hO)) ?_
      refine WS_det hF (by rfl) (y_assign (c := .int .i64 _) (by rfl)) ?_
      refine WS_nil ?_
      refine Then_normal ?_
      refine W_seq ?_
      refine W_draw0 hF Tryzmixed [18] (by decide +kernel) (fun ds => ?_)
      refine P_det (by rfl) (Over_nil (y_loadN (by rfl) Tryz.isAgg29 Tryz.sizeOf29 (Mem.own (us := [.slice _ _ _, .int .i64 _, .int .i64 _, .int .i64 _, .int .i64 _, .slice _ _ _]) 0 (by rfl) (by rfl)) (by rfl))) ?_
      refine P_det (by rfl) (Over_nil (y_move (c := .int .i64 _) (by rfl))) ?_
      refine P_det (by rfl) (Over_nil (y_move (c := .int .i64 _) (by rfl))) ?_
      refine P_det (by rfl) (Over_nil (y_move (c := .int .i64 _) (by rfl))) ?_
      refine P_det (by rfl) (Over_nil (y_min (by rfl) (by rfl))) ?_
      refine P_det (by rfl) (Over_nil (y_move (c := .int .i64 _) (by rfl))) ?_
      refine P_det (by rfl) (Over_nil (y_move (c := .int .i64 _) (by rfl))) ?_
      refine P_det (by rfl) (Over_nil (y_max (by rfl) (by rfl))) ?_
      refine P_det (by rfl) (Over_nil (y_callL (by rfl) (by rfl) Tryz.call15 (fun w hw => lentry_any _ _ _ _ w))) ?_
      refine P_new (by rfl) (by rfl) (Over_nil (y_callL (by rfl) (by rfl) Tryz.call19 (fun w hw => add_any l a cap ae cape (mxE o A B) w hn (hx.st w hw) (he.st w hw)))) ?_
      refine P_ali [88] (fun e => e 88) (by rfl) (by rfl) (by rfl) (fun _ _ h => h 88 (List.mem_singleton.2 rfl)) (Over_in (by rfl) (Over_nil (by intro vb3 l88 hb3; obtain ⟨y1, yc1, y2, yc2, Hy1, Hy2, rfl, hr1, hr2, rfl⟩ := AddV.ok hb3 hE; exact (YD0_of (y_move (c := .tuple _) (by rfl)))))) ?_
      refine P_ali [78] (fun e => tupAt (e 78) 0) (by rfl) (by rfl) (by rfl) (fun _ _ h => congrArg (tupAt · 0) (h 78 (List.mem_singleton.2 rfl))) (Over_in (by rfl) (Over_in (by rfl) (Over_nil (by intro vb5 l88 hb5; obtain ⟨y1, yc1, y2, yc2, Hy1, Hy2, rfl, hr1, hr2, rfl⟩ := AddV.ok hb5 hE; rintro vb6 _ ⟨hvb6, rfl⟩; replace hvb6 : vb6 = .tuple _ := hvb6; subst hvb6; exact (YD0_of (y_extract (c := .agg _) (by rfl) (by rfl))))))) ?_
      refine P_ali [78] (fun e => tupAt (e 78) 1) (by rfl) (by rfl) (by rfl) (fun _ _ h => congrArg (tupAt · 1) (h 78 (List.mem_singleton.2 rfl))) (Over_out (by rfl) (Over_in (by rfl) (Over_in (by rfl) (Over_nil (by intro vb8 l88 hb8; obtain ⟨y1, yc1, y2, yc2, Hy1, Hy2, rfl, hr1, hr2, rfl⟩ := AddV.ok hb8 hE; rintro vb9 _ ⟨hvb9, rfl⟩; replace hvb9 : vb9 = .tuple _ := hvb9; subst hvb9; exact (YD0_of (y_extract (c := .int .i64 _) (by rfl) (by rfl)))))))) ?_
      refine P_newSD 89 (by rfl) (by rfl) (by rfl) (Over_out (by rfl) (Over_out (by rfl) (Over_out (by rfl) (Over_out (by rfl) (Over_nil (y_alloc Tryz.zeroValue29 (by rfl))))))) ?_
      refine P_st 18 0 (by rfl) (by rfl) (by rfl) (by rfl) (by rfl) (Over_out (by rfl) (Over_in (by rfl) (Over_in (by rfl) (Over_in (by rfl) (Over_nil (by intro vb12 l88 hb12; obtain ⟨y1, yc1, y2, yc2, Hy1, Hy2, rfl, hr1, hr2, rfl⟩ := AddV.ok hb12 hE; rintro vb13 _ ⟨hvb13, rfl⟩; replace hvb13 : vb13 = .tuple _ := hvb13; subst hvb13; rintro vb14 _ ⟨hvb14, rfl⟩; replace hvb14 : vb14 = .agg _ := hvb14; subst hvb14; exact (st_newD (by rfl) (by rfl) Tryz.sizeOf29 (by rfl) (by rfl) (by first | decide | exact Nat.le_of_ble_eq_true rfl | simp)))))))) ?_
      refine P_ali [90] (fun e => e 90) (by rfl) (by rfl) (by rfl) (fun _ _ h => h 90 (List.mem_singleton.2 rfl)) (Over_out (by rfl) (Over_in (by rfl) (Over_out (by rfl) (Over_in (by rfl) (Over_in (by rfl) (Over_nil (by intro vb15 l88 hb15; obtain ⟨y1, yc1, y2, yc2, Hy1, Hy2, rfl, hr1, hr2, rfl⟩ := AddV.ok hb15 hE; rintro vb16 _ ⟨hvb16, rfl⟩; replace hvb16 : vb16 = .tuple _ := hvb16; subst hvb16; rintro vb17 _ ⟨hvb17, rfl⟩; replace hvb17 : vb17 = .int .i64 _ := hvb17; subst hvb17; exact (YD0_of (y_assign (c := .int .i64 _) (by rfl)))))))))) ?_
      refine PW_end (by rfl) ?_
      refine OverAll_cons (fun w19 l19 => ?_)
      refine OverAll_cons (fun w18 l18 => ?_)
      refine OverAll_cons (fun w90 l90 => ?_)
      refine OverAll_cons (fun w89 l89 => ?_)
      refine OverAll_cons (fun w78 l78 => ?_)
      refine OverAll_cons (fun w88 l88 => ?_)
      refine OverAll_nil ?_
      rintro ⟨⟨⟨⟨⟨⟨-, h19⟩, h18⟩, h90⟩, h89⟩, h78⟩, h88⟩
      obtain ⟨y1, yc1, y2, yc2, Hy1, Hy2, rfl, hr1, hr2, rfl⟩ := AddV.ok h88 hE
      obtain ⟨h78, rfl⟩ := h78
      replace h78 : w78 = .tuple _ := h78
      subst h78
      obtain ⟨h89, rfl⟩ := h89
      replace h89 : w89 = .agg _ := h89
      subst h89
      obtain ⟨h90, rfl⟩ := h90
      replace h90 : w90 = .int .i64 _ := h90
      subst h90
      obtain ⟨h19, rfl⟩ := h19
      replace h19 : w19 = .int .i64 _ := h19
      subst h19
      obtain ⟨b11, rfl, rfl⟩ := h18
      refine Then_normal ?_
      refine W_seq ?_
      refine W_seq ?_
      refine W_perm List.perm_append_comm ?_
      refine W_keep [(4, .int .u8 _), (5, .pointer _), (10, .bool _), (11, .bool _), (12, .int .i64 _), (14, .int .i64 _), (17, .int .i64 _), (18, .pointer _), (19, .int .i64 _)] (by repeat (first | exact trivial | refine ⟨by rfl, ?_⟩)) (fun e => ?_)
      refine W_region_lit (fun ds => ?_)
      refine WS_det hF (by rfl) (y_move (c := .int .i64 _) (by rfl)) ?_
      refine WS_det hF (by rfl) (YD_no (y_neq (by rfl) (by rfl)) dect) ?_
      refine WS_nil ?_
      refine Then_normal ?_
      refine W_cond (by rfl) (fun c11 => ?_) (fun c11 => ?_)
      · cases c11
      ·
        try simp only [Bool.not_eq_true', Bool.not_eq_false', decide_eq_true_eq, decide_eq_false_iff_not, ne_eq, Classical.not_not, Int.not_lt, Int.not_le] at c11
        refine W_skip ?_
        refine Then_normal ?_
        refine W_seq ?_
        refine W_region_lit (fun ds => ?_)
        refine WS_det hF (by rfl) (y_move (c := .int .u8 _) (by rfl)) ?_
        refine WS_det hF (by rfl) (y_conv_iu (by rfl) Tryz.runUnderlying5 Tryz.runUnderlying3 (by first | exact IntWalk.i64_in _ (by omega) | exact IntWalk.u64_in _ (by omega))) ?_
        refine WS_det hF (by rfl) (y_move (c := .int .i64 _) (by rfl)) ?_
        refine WS_det hF (by rfl) (y_add (by rfl) (by rfl) (by unfold I64; omega)) ?_
        refine WS_det hF (by rfl) (YD_eq (y_rem (by rfl) (by rfl) (by omega) (by omega)) (congrArg (Value.int _) hJ)) ?_
        refine WS_det hF (by rfl) (y_assign (c := .int .i64 _) (by rfl)) ?_
        refine WS_nil ?_
        refine Then_normal ?_
        refine W_seq ?_
        refine W_region_lit (fun ds => ?_)
        refine WS_det hF (by rfl) (y_loadN (by rfl) Tryz.isAgg29 Tryz.sizeOf29 (Mem.own (us := [.slice _ _ _, .int .i64 _, .int .i64 _, .int .i64 _, .int .i64 _, .slice _ _ _]) 1 (by rfl) (by rfl)) (by rfl)) ?_
        refine WS_det hF (by rfl) (y_move (c := .int .i64 _) (by rfl)) ?_
        refine WS_det hF (by rfl) (y_callL (by rfl) (by rfl) Tryz.call12 (fun w hw => Ct_eq (holds_any l a cap ae cape (j : Int) w hn (hx.st w hw) (he.st w hw)) (Lg.holdsV_at h0 hj))) ?_
        refine WS_det hF (by rfl) (y_move (c := .tuple _) (by rfl)) ?_
        refine WS_det hF (by rfl) (y_extract (c := .agg _) (by rfl) (by rfl)) ?_
        refine WS_det hF (by rfl) (y_extract (c := .int .i64 _) (by rfl) (by rfl)) ?_
        refine WS_new hF (by rfl) (y_alloc Tryz.zeroValue26 (by rfl)) (fun b19 => ?_)
        refine WS_store hF (us := [.int .i64 _, .int .i64 _]) (i := 0) (by rfl) (by rfl) Tryz.sizeOf26 (by rfl) (by rfl) (by rfl) (by first | decide | exact Nat.le_of_ble_eq_true rfl | simp) ?_
        refine WS_det hF (by rfl) (y_assign (c := .int .i64 _) (by rfl)) ?_
        refine WS_nil ?_
        refine Then_normal ?_
        refine W_seq ?_
        refine W_region_lit (fun ds => ?_)
        refine WS_det hF (by rfl) (y_loadN (by rfl) Tryz.isAgg29 Tryz.sizeOf29 (Mem.own (us := [.slice _ _ _, .int .i64 _, .int .i64 _, .int .i64 _, .int .i64 _, .slice _ _ _]) 1 (by rfl) (by rfl)) (by rfl)) ?_
        refine WS_det hF (by rfl) (y_move (c := .int .i64 _) (by rfl)) ?_
        refine WS_det hF (by rfl) (y_callL (by rfl) (by rfl) Tryz.call12 (fun w hw => Ct_eq (holds_any (l.put (mxE o A B)) y1 yc1 y2 yc2 (j : Int) w hn (NewRow.ints hr1 rfl sbA w hw) (NewRow.rws en_len hr2 rfl sbA w hw)) (Lg.holdsV_at hx0 (by omega)))) ?_
        refine WS_det hF (by rfl) (y_move (c := .tuple _) (by rfl)) ?_
        refine WS_det hF (by rfl) (y_extract (c := .agg _) (by rfl) (by rfl)) ?_
        refine WS_det hF (by rfl) (y_extract (c := .int .i64 _) (by rfl) (by rfl)) ?_
        refine WS_new hF (by rfl) (y_alloc Tryz.zeroValue26 (by rfl)) (fun b20 => ?_)
        refine WS_store hF (us := [.int .i64 _, .int .i64 _]) (i := 0) (by rfl) (by rfl) Tryz.sizeOf26 (by rfl) (by rfl) (by rfl) (by first | decide | exact Nat.le_of_ble_eq_true rfl | simp) ?_
        refine WS_det hF (by rfl) (y_assign (c := .int .i64 _) (by rfl)) ?_
        refine WS_nil ?_
        refine Then_normal ?_
        refine W_seq ?_
        refine W_seq ?_
        refine W_region_lit (fun ds => ?_)
        refine WS_det hF (by rfl) (y_move (c := .int .i64 _) (by rfl)) ?_
        refine WS_det hF (by rfl) (YD_no (y_neq (by rfl) (by rfl)) dect) ?_
        refine WS_det hF (by rfl) (y_move (c := .bool _) (by rfl)) ?_
        refine WS_det hF (by rfl) (y_move (c := .int .i64 _) (by rfl)) ?_
        refine WS_det hF (by rfl) (YD_no (y_neq (by rfl) (by rfl)) dect) ?_
        refine WS_det hF (by rfl) (y_move (c := .bool _) (by rfl)) ?_
        refine WS_no hF (by rfl) ?_
        refine WS_no hF (by rfl) ?_
        refine WS_det hF (by rfl) (by first | exact y_pick_t (c := .bool _) (by rfl) (by rfl) | exact y_pick_f (c := .bool _) (by rfl) (by rfl)) ?_
        refine WS_det hF (by rfl) (by first | exact y_pick_t (c := .bool _) (by rfl) (by rfl) | exact y_pick_f (c := .bool _) (by rfl) (by rfl)) ?_
        refine WS_nil ?_
        refine Then_normal ?_
        refine W_cond (by rfl) (fun c16 => ?_) (fun c16 => ?_)
        · cases c16
        ·
          try simp only [Bool.not_eq_true', Bool.not_eq_false', decide_eq_true_eq, decide_eq_false_iff_not, ne_eq, Classical.not_not, Int.not_lt, Int.not_le] at c16
          refine W_skip ?_
          refine Then_normal ?_
          refine W_seq ?_
          refine W_seq ?_
          refine W_keep [(5, .pointer _), (10, .bool _), (11, .bool _), (12, .int .i64 _), (14, .int .i64 _), (17, .int .i64 _), (18, .pointer _), (20, .int .i64 _), (21, .pointer _), (23, .pointer _), (24, .int .i64 _)] (by repeat (first | exact trivial | refine ⟨by rfl, ?_⟩)) (fun e => ?_)
          refine W_region_lit (fun ds => ?_)
          refine WS_det hF (by rfl) (y_move (c := .int .i64 _) (by rfl)) ?_
          refine WS_det hF (by rfl) (YD_no (y_neq (by rfl) (by rfl)) dect) ?_
          refine WS_nil ?_
          refine Then_normal ?_
          refine W_cond (by rfl) (fun c18 => ?_) (fun c18 => ?_)
          · cases c18
          ·
            try simp only [Bool.not_eq_true', Bool.not_eq_false', decide_eq_true_eq, decide_eq_false_iff_not, ne_eq, Classical.not_not, Int.not_lt, Int.not_le] at c18
            refine W_skip ?_
            refine Then_normal ?_
            refine W_seq ?_
            refine W_seq ?_
            refine W_region_lit (fun ds => ?_)
            refine WS_det hF (by rfl) (y_loadN (by rfl) Tryz.isAgg26 Tryz.sizeOf26 (Mem.own (us := [.int .i64 _, .int .i64 _]) 0 (by rfl) (by rfl)) (by rfl)) ?_
            refine WS_det hF (by rfl) (y_loadN (by rfl) Tryz.isAgg26 Tryz.sizeOf26 (Mem.own (us := [.int .i64 _, .int .i64 _]) 1 (by rfl) (by rfl)) (by rfl)) ?_
            refine WS_det hF (by rfl) (y_callL (by rfl) (by rfl) Tryz.call20 (fun w hw => Ct_eq (lwithin_any _ _ _ _ w) (wiB_of (hMo.wat j hj)))) ?_
            refine WS_det hF (by rfl) (y_not (by rfl)) ?_
            refine WS_nil ?_
            refine Then_normal ?_
            refine W_cond (by rfl) (fun c20 => ?_) (fun c20 => ?_)
            · cases c20
            ·
              try simp only [Bool.not_eq_true', Bool.not_eq_false', decide_eq_true_eq, decide_eq_false_iff_not, ne_eq, Classical.not_not, Int.not_lt, Int.not_le] at c20
              refine W_skip ?_
              refine Then_normal ?_
              refine W_J1H (γ := Unit) (fun _ => True) [(5, .pointer _), (10, .bool _), (11, .bool _), (12, .int .i64 _), (14, .int .i64 _), (17, .int .i64 _), (18, .pointer _), (20, .int .i64 _)] (fun _ => []) slt ?_ ?_
              ·
                rintro _ e _
                refine W_J1H (γ := Unit) (fun _ => True) [(5, .pointer _), (10, .bool _), (11, .bool _), (12, .int .i64 _), (14, .int .i64 _), (17, .int .i64 _), (18, .pointer _)] (fun _ => []) slt ?_ ?_
                ·
                  rintro _ e _
                  refine W_seq ?_
                  refine W_region_lit (fun ds => ?_)
                  refine WS_det hF (by rfl) (y_loadN (by rfl) Tryz.isAgg29 Tryz.sizeOf29 (Mem.own (us := [.slice _ _ _, .int .i64 _, .int .i64 _, .int .i64 _, .int .i64 _, .slice _ _ _]) 3 (by rfl) (by rfl)) (by rfl)) ?_
                  refine WS_det hF (by rfl) (y_callL (by rfl) (by rfl) Tryz.call21 (fun w hw => Ct_eq (leaked_any l a cap ae cape w hn (hx.st w hw) (he.st w hw)) (Lg.leakedV_ok h0))) ?_
                  refine WS_det hF (by rfl) (y_move (c := .tuple _) (by rfl)) ?_
                  refine WS_det hF (by rfl) (y_extract (c := .agg _) (by rfl) (by rfl)) ?_
                  refine WS_det hF (by rfl) (y_extract (c := .int .i64 _) (by rfl) (by rfl)) ?_
                  refine WS_new hF (by rfl) (y_alloc Tryz.zeroValue26 (by rfl)) (fun b21 => ?_)
                  refine WS_store hF (us := [.int .i64 _, .int .i64 _]) (i := 0) (by rfl) (by rfl) Tryz.sizeOf26 (by rfl) (by rfl) (by rfl) (by first | decide | exact Nat.le_of_ble_eq_true rfl | simp) ?_
                  refine WS_det hF (by rfl) (y_assign (c := .int .i64 _) (by rfl)) ?_
                  refine WS_nil ?_
                  refine Then_normal ?_
                  refine W_seq ?_
                  refine W_region_lit (fun ds => ?_)
                  refine WS_det hF (by rfl) (y_loadN (by rfl) Tryz.isAgg29 Tryz.sizeOf29 (Mem.own (us := [.slice _ _ _, .int .i64 _, .int .i64 _, .int .i64 _, .int .i64 _, .slice _ _ _]) 3 (by rfl) (by rfl)) (by rfl)) ?_
                  refine WS_det hF (by rfl) (y_callL (by rfl) (by rfl) Tryz.call21 (fun w hw => Ct_eq (leaked_any (l.put (mxE o A B)) y1 yc1 y2 yc2 w hn (NewRow.ints hr1 rfl sbA w hw) (NewRow.rws en_len hr2 rfl sbA w hw)) (Lg.leakedV_ok hx0))) ?_
                  refine WS_det hF (by rfl) (y_move (c := .tuple _) (by rfl)) ?_
                  refine WS_det hF (by rfl) (y_extract (c := .agg _) (by rfl) (by rfl)) ?_
                  refine WS_det hF (by rfl) (y_extract (c := .int .i64 _) (by rfl) (by rfl)) ?_
                  refine WS_new hF (by rfl) (y_alloc Tryz.zeroValue26 (by rfl)) (fun b22 => ?_)
                  refine WS_store hF (us := [.int .i64 _, .int .i64 _]) (i := 0) (by rfl) (by rfl) Tryz.sizeOf26 (by rfl) (by rfl) (by rfl) (by first | decide | exact Nat.le_of_ble_eq_true rfl | simp) ?_
                  refine WS_det hF (by rfl) (y_assign (c := .int .i64 _) (by rfl)) ?_
                  refine WS_nil ?_
                  refine Then_normal ?_
                  refine W_seq ?_
                  refine W_region_lit (fun ds => ?_)
                  refine WS_det hF (by rfl) (y_assign (c := .int .i64 _) (by rfl)) ?_
                  refine WS_nil ?_
                  refine Then_normal ?_
                  refine W_J1H (γ := Int) (fun m => m = (l.put (mxE o A B)).drip l.es.length) [(10, .bool _), (11, .bool _), (33, .pointer _), (34, .int .i64 _), (35, .pointer _), (36, .int .i64 _)] (fun m => [(37, .int .i64 m)]) slt ?_ ?_
                  ·
                    rintro m e hm
                    have hmb : 0 ≤ m ∧ m ≤ 182600 := by rw [hm]; exact ((l.put (mxE o A B)).ok_of hxerr).drip_bd (by omega)
                    refine W_seq ?_
                    refine W_region_lit (fun ds => ?_)
                    refine WS_det hF (by rfl) (y_move (c := .bool _) (by rfl)) ?_
                    refine WS_det hF (by rfl) (y_move (c := .bool _) (by rfl)) ?_
                    refine WS_det hF (by rfl) (y_move (c := .int .i64 _) (by rfl)) ?_
                    refine WS_det hF (by rfl) (YD_yes (y_eql (by rfl) (by rfl)) dect) ?_
                    refine WS_det hF (by rfl) (by first | exact y_pick_t (c := .bool _) (by rfl) (by rfl) | exact y_pick_f (c := .bool _) (by rfl) (by rfl)) ?_
                    refine WS_det hF (by rfl) (y_move (c := .bool _) (by rfl)) ?_
                    refine WS_det hF (by rfl) (y_move (c := .int .i64 _) (by rfl)) ?_
                    refine WS_det hF (by rfl) (YD_yes (y_eql (by rfl) (by rfl)) dect) ?_
                    refine WS_det hF (by rfl) (by first | exact y_pick_t (c := .bool _) (by rfl) (by rfl) | exact y_pick_f (c := .bool _) (by rfl) (by rfl)) ?_
                    refine WS_det hF (by rfl) (y_move (c := .bool _) (by rfl)) ?_
                    refine WS_det hF (by rfl) (y_fieldAddr (by rfl) fa26_0) ?_
                    refine WS_det hF (by rfl) (y_load1 (by rfl) Tryz.isAgg3 (Mem.own1 1 (by rfl) (by rfl))) ?_
                    refine WS_det hF (by rfl) (YD_yes (y_geq (by rfl) (by rfl)) dect) ?_
                    refine WS_det hF (by rfl) (by first | exact y_pick_t (c := .bool _) (by rfl) (by rfl) | exact y_pick_f (c := .bool _) (by rfl) (by rfl)) ?_
                    refine WS_det hF (by rfl) (y_move (c := .bool _) (by rfl)) ?_
                    refine WS_det hF (by rfl) (y_fieldAddr (by rfl) fa26_0) ?_
                    refine WS_det hF (by rfl) (y_load1 (by rfl) Tryz.isAgg3 (Mem.own1 0 (by rfl) (by rfl))) ?_
                    refine WS_det hF (by rfl) (y_fieldAddr (by rfl) fa26_0) ?_
                    refine WS_det hF (by rfl) (y_load1 (by rfl) Tryz.isAgg3 (Mem.own1 1 (by rfl) (by rfl))) ?_
                    refine WS_det hF (by rfl) (YD_yes (y_geq (by rfl) (by rfl)) dect) ?_
                    refine WS_det hF (by rfl) (by first | exact y_pick_t (c := .bool _) (by rfl) (by rfl) | exact y_pick_f (c := .bool _) (by rfl) (by rfl)) ?_
                    refine WS_det hF (by rfl) (y_move (c := .bool _) (by rfl)) ?_
                    refine WS_det hF (by rfl) (y_fieldAddr (by rfl) fa26_0) ?_
                    refine WS_det hF (by rfl) (y_load1 (by rfl) Tryz.isAgg3 (Mem.own1 0 (by rfl) (by rfl))) ?_
                    refine WS_det hF (by rfl) (y_fieldAddr (by rfl) fa26_1) ?_
                    refine WS_det hF (by rfl) (y_load1 (by rfl) Tryz.isAgg3 (Mem.own1 0 (by rfl) (by rfl))) ?_
                    refine WS_det hF (by rfl) (YD_yes (y_leq (by rfl) (by rfl)) dect) ?_
                    refine WS_det hF (by rfl) (by first | exact y_pick_t (c := .bool _) (by rfl) (by rfl) | exact y_pick_f (c := .bool _) (by rfl) (by rfl)) ?_
                    refine WS_det hF (by rfl) (y_move (c := .bool _) (by rfl)) ?_
                    refine WS_det hF (by rfl) (y_fieldAddr (by rfl) fa26_1) ?_
                    refine WS_det hF (by rfl) (y_load1 (by rfl) Tryz.isAgg3 (Mem.own1 0 (by rfl) (by rfl))) ?_
                    refine WS_det hF (by rfl) (y_fieldAddr (by rfl) fa26_1) ?_
                    refine WS_det hF (by rfl) (y_load1 (by rfl) Tryz.isAgg3 (Mem.own1 1 (by rfl) (by rfl))) ?_
                    refine WS_det hF (by rfl) (y_move (c := .int .i64 _) (by rfl)) ?_
                    refine WS_det hF (by rfl) (y_add (by rfl) (by rfl) (by unfold I64; omega)) ?_
                    refine WS_det hF (by rfl) (YD_yes (y_leq (by rfl) (by rfl)) dect) ?_
                    refine WS_det hF (by rfl) (by first | exact y_pick_t (c := .bool _) (by rfl) (by rfl) | exact y_pick_f (c := .bool _) (by rfl) (by rfl)) ?_
                    refine WS_det hF (by rfl) (y_assign (c := .bool _) (by rfl)) ?_
                    refine WS_nil ?_
                    refine Then_normal ?_
                    refine W_ret ?_
                    refine Fin_ret [.bool _] [] Tryz.results4 ⟨by rfl, trivial⟩ HSub.nil ?_
                    rfl
                  ·
                    intro J37
                    refine W_seq ?_
                    refine W_seq ?_
                    refine W_region_lit (fun ds => ?_)
                    refine WS_det hF (by rfl) (y_move (c := .int .i64 _) (by rfl)) ?_
                    refine WS_det hF (by rfl) (y_gtr (by rfl) (by rfl)) ?_
                    refine WS_nil ?_
                    refine Then_normal ?_
                    refine W_cond (by rfl) (fun c35 => ?_) (fun c35 => ?_)
                    ·
                      try simp only [Bool.not_eq_true', Bool.not_eq_false', decide_eq_true_eq, decide_eq_false_iff_not, ne_eq, Classical.not_not, Int.not_lt, Int.not_le] at c35
                      refine W_region_lit (fun ds => ?_)
                      refine WS_det hF (by rfl) (y_fieldAddr (by rfl) fa29_0) ?_
                      refine WS_det hF (by rfl) (y_fieldAddr (by rfl) fa24_1) ?_
                      refine WS_det hF (by rfl) (y_load1 (by rfl) Tryz.isAgg3 (Mem.own1 5 (by rfl) (by rfl))) ?_
                      refine WS_det hF (by rfl) (y_move (c := .int .i64 _) (by rfl)) ?_
                      refine WS_det hF (by rfl) (y_move (c := .int .i64 _) (by rfl)) ?_
                      refine WS_det hF (by rfl) (y_sub (by rfl) (by rfl) (by unfold I64; omega)) ?_
                      refine WS_det hF (by rfl) (y_mul (by rfl) (by rfl) (by unfold I64; omega)) ?_
                      refine WS_det hF (by rfl) (y_assign (c := .int .i64 _) (by rfl)) ?_
                      refine WS_nil ?_
                      refine Then_normal ?_
                      exact J37 (l.tk.leak * (o - l.dayAt l.es.length)) _ _  (by rw [hdn, if_neg (by omega)]; rfl) slt slt (HSub.sub sbA)
                    ·
                      try simp only [Bool.not_eq_true', Bool.not_eq_false', decide_eq_true_eq, decide_eq_false_iff_not, ne_eq, Classical.not_not, Int.not_lt, Int.not_le] at c35
                      refine W_skip ?_
                      refine Then_normal ?_
                      exact J37 (0) _ _  (by rw [hdn, if_pos (by omega)]) slt slt (HSub.sub sbA)
                ·
                  intro J32
                  refine W_seq ?_
                  refine W_seq ?_
                  refine W_region_lit (fun ds => ?_)
                  refine WS_det hF (by rfl) (y_move (c := .int .i64 _) (by rfl)) ?_
                  refine WS_det hF (by rfl) (y_gtr (by rfl) (by rfl)) ?_
                  refine WS_det hF (by rfl) (y_move (c := .bool _) (by rfl)) ?_
                  refine WS_split 174 (by rfl) (fun g27_2 => ?_) (fun g27_2 => ?_)
                  ·
                    try simp only [Bool.not_eq_true', Bool.not_eq_false', decide_eq_true_eq, decide_eq_false_iff_not, ne_eq, Classical.not_not, Int.not_lt, Int.not_le] at g27_2
                    refine WS_det hF (by rfl) (y_move (c := .int .i64 _) (by rfl)) ?_
                    refine WS_det hF (by rfl) (y_move (c := .int .i64 _) (by rfl)) ?_
                    refine WS_det hF (by rfl) (y_lss (by rfl) (by rfl)) ?_
                    refine WS_det hF (by rfl) (by first | exact y_pick_t (c := .bool _) (by rfl) (by rfl) | exact y_pick_f (c := .bool _) (by rfl) (by rfl)) ?_
                    refine WS_nil ?_
                    refine Then_normal ?_
                    refine W_cond (by rfl) (fun c27 => ?_) (fun c27 => ?_)
                    ·
                      try simp only [Bool.not_eq_true', Bool.not_eq_false', decide_eq_true_eq, decide_eq_false_iff_not, ne_eq, Classical.not_not, Int.not_lt, Int.not_le] at c27
                      refine W_seq ?_
                      refine W_region_lit (fun ds => ?_)
                      refine WS_det hF (by rfl) (y_loadN (by rfl) Tryz.isAgg29 Tryz.sizeOf29 (Mem.own (us := [.slice _ _ _, .int .i64 _, .int .i64 _, .int .i64 _, .int .i64 _, .slice _ _ _]) 3 (by rfl) (by rfl)) (by rfl)) ?_
                      refine WS_det hF (by rfl) (y_move (c := .int .i64 _) (by rfl)) ?_
                      refine WS_det hF (by rfl) (y_callL (by rfl) (by rfl) Tryz.call17 (fun w hw => Ct_eq (lost_any l a cap ae cape (j : Int) w hn (hx.st w hw) (he.st w hw)) (Lg.lostV_at h0 (by omega) (by omega)))) ?_
                      refine WS_det hF (by rfl) (y_move (c := .tuple _) (by rfl)) ?_
                      refine WS_det hF (by rfl) (y_extract (c := .agg _) (by rfl) (by rfl)) ?_
                      refine WS_det hF (by rfl) (y_extract (c := .int .i64 _) (by rfl) (by rfl)) ?_
                      refine WS_new hF (by rfl) (y_alloc Tryz.zeroValue26 (by rfl)) (fun b23 => ?_)
                      refine WS_store hF (us := [.int .i64 _, .int .i64 _]) (i := 0) (by rfl) (by rfl) Tryz.sizeOf26 (by rfl) (by rfl) (by rfl) (by first | decide | exact Nat.le_of_ble_eq_true rfl | simp) ?_
                      refine WS_det hF (by rfl) (y_assign (c := .int .i64 _) (by rfl)) ?_
                      refine WS_nil ?_
                      refine Then_normal ?_
                      refine W_seq ?_
                      refine W_region_lit (fun ds => ?_)
                      refine WS_det hF (by rfl) (y_loadN (by rfl) Tryz.isAgg29 Tryz.sizeOf29 (Mem.own (us := [.slice _ _ _, .int .i64 _, .int .i64 _, .int .i64 _, .int .i64 _, .slice _ _ _]) 3 (by rfl) (by rfl)) (by rfl)) ?_
                      refine WS_det hF (by rfl) (y_move (c := .int .i64 _) (by rfl)) ?_
                      refine WS_det hF (by rfl) (y_callL (by rfl) (by rfl) Tryz.call17 (fun w hw => Ct_eq (lost_any (l.put (mxE o A B)) y1 yc1 y2 yc2 (j : Int) w hn (NewRow.ints hr1 rfl sbA w hw) (NewRow.rws en_len hr2 rfl sbA w hw)) (Lg.lostV_at hx0 (by omega) (by omega)))) ?_
                      refine WS_det hF (by rfl) (y_move (c := .tuple _) (by rfl)) ?_
                      refine WS_det hF (by rfl) (y_extract (c := .agg _) (by rfl) (by rfl)) ?_
                      refine WS_det hF (by rfl) (y_extract (c := .int .i64 _) (by rfl) (by rfl)) ?_
                      refine WS_new hF (by rfl) (y_alloc Tryz.zeroValue26 (by rfl)) (fun b24 => ?_)
                      refine WS_store hF (us := [.int .i64 _, .int .i64 _]) (i := 0) (by rfl) (by rfl) Tryz.sizeOf26 (by rfl) (by rfl) (by rfl) (by first | decide | exact Nat.le_of_ble_eq_true rfl | simp) ?_
                      refine WS_det hF (by rfl) (y_assign (c := .int .i64 _) (by rfl)) ?_
                      refine WS_nil ?_
                      refine Then_normal ?_
                      refine W_seq ?_
                      refine W_region_lit (fun ds => ?_)
                      refine WS_det hF (by rfl) (y_move (c := .int .i64 _) (by rfl)) ?_
                      refine WS_det hF (by rfl) (YD_no (y_neq (by rfl) (by rfl)) dect) ?_
                      refine WS_det hF (by rfl) (y_move (c := .bool _) (by rfl)) ?_
                      refine WS_det hF (by rfl) (y_move (c := .int .i64 _) (by rfl)) ?_
                      refine WS_det hF (by rfl) (YD_no (y_neq (by rfl) (by rfl)) dect) ?_
                      refine WS_det hF (by rfl) (by first | exact y_pick_t (c := .bool _) (by rfl) (by rfl) | exact y_pick_f (c := .bool _) (by rfl) (by rfl)) ?_
                      refine WS_det hF (by rfl) (y_move (c := .bool _) (by rfl)) ?_
                      refine WS_det hF (by rfl) (y_loadN (by rfl) Tryz.isAgg26 Tryz.sizeOf26 (Mem.own (us := [.int .i64 _, .int .i64 _]) 0 (by rfl) (by rfl)) (by rfl)) ?_
                      refine WS_det hF (by rfl) (y_loadN (by rfl) Tryz.isAgg26 Tryz.sizeOf26 (Mem.own (us := [.int .i64 _, .int .i64 _]) 1 (by rfl) (by rfl)) (by rfl)) ?_
                      refine WS_det hF (by rfl) (y_callL (by rfl) (by rfl) Tryz.call20 (fun w hw => Ct_eq (lwithin_any _ _ _ _ w) (wiB_of (hMo.wlo j (by omega))))) ?_
                      refine WS_det hF (by rfl) (y_not (by rfl)) ?_
                      refine WS_det hF (by rfl) (by first | exact y_pick_t (c := .bool _) (by rfl) (by rfl) | exact y_pick_f (c := .bool _) (by rfl) (by rfl)) ?_
                      refine WS_nil ?_
                      refine Then_normal ?_
                      refine W_cond (by rfl) (fun c30 => ?_) (fun c30 => ?_)
                      · cases c30
                      ·
                        try simp only [Bool.not_eq_true', Bool.not_eq_false', decide_eq_true_eq, decide_eq_false_iff_not, ne_eq, Classical.not_not, Int.not_lt, Int.not_le] at c30
                        refine W_skip ?_
                        refine Then_normal ?_
                        exact J32 () _ _  trivial slt slt (HSub.sub sbA)
                    ·
                      try simp only [Bool.not_eq_true', Bool.not_eq_false', decide_eq_true_eq, decide_eq_false_iff_not, ne_eq, Classical.not_not, Int.not_lt, Int.not_le] at c27
                      refine W_skip ?_
                      refine Then_normal ?_
                      exact J32 () _ _  trivial slt slt (HSub.sub sbA)
                  ·
                    try simp only [Bool.not_eq_true', Bool.not_eq_false', decide_eq_true_eq, decide_eq_false_iff_not, ne_eq, Classical.not_not, Int.not_lt, Int.not_le] at g27_2
                    refine WS_no hF (by rfl) ?_
                    refine WS_no hF (by rfl) ?_
                    refine WS_no hF (by rfl) ?_
                    refine WS_det hF (by rfl) (by first | exact y_pick_t (c := .bool _) (by rfl) (by rfl) | exact y_pick_f (c := .bool _) (by rfl) (by rfl)) ?_
                    refine WS_nil ?_
                    refine Then_normal ?_
                    refine W_cond (by rfl) (fun c27 => ?_) (fun c27 => ?_)
                    · cases c27
                    ·
                      try simp only [Bool.not_eq_true', Bool.not_eq_false', decide_eq_true_eq, decide_eq_false_iff_not, ne_eq, Classical.not_not, Int.not_lt, Int.not_le] at c27
                      refine W_skip ?_
                      refine Then_normal ?_
                      exact J32 () _ _  trivial slt slt (HSub.sub sbA)
              ·
                intro J27
                refine W_seq ?_
                refine W_seq ?_
                refine W_region_lit (fun ds => ?_)
                refine WS_det hF (by rfl) (y_move (c := .int .i64 _) (by rfl)) ?_
                refine WS_det hF (by rfl) (y_gtr (by rfl) (by rfl)) ?_
                refine WS_det hF (by rfl) (y_move (c := .bool _) (by rfl)) ?_
                refine WS_split 138 (by rfl) (fun g22_2 => ?_) (fun g22_2 => ?_)
                ·
                  try simp only [Bool.not_eq_true', Bool.not_eq_false', decide_eq_true_eq, decide_eq_false_iff_not, ne_eq, Classical.not_not, Int.not_lt, Int.not_le] at g22_2
                  obtain ⟨b, o_, rfl, hc⟩ := he.cell (j - 1) (by omega)
                  change At w b _ (l.e (j - 1)).cells at hc
                  refine WS_det hF (by rfl) (y_fieldAddr (by rfl) fa29_2) ?_
                  refine WS_det hF (by rfl) (y_load1 (by rfl) Tryz.isAgg27 (Mem.own1 3 (by rfl) (by rfl))) ?_
                  refine WS_det hF (by rfl) (y_move (c := .int .i64 _) (by rfl)) ?_
                  refine WS_det hF (by rfl) (y_sub (by rfl) (by rfl) (by unfold I64; omega)) ?_
                  refine WS_det hF (by rfl) (y_index (k := j - 1) (by rfl) (by rfl) (by first | rfl | omega) (by first | decide | omega) Tryz.runUnderlying27 Tryz.sizeOf38) ?_
                  refine WS_det hF (by rfl) (y_fieldAddr (by rfl) fa38_1) ?_
                  refine WS_det hF (by rfl) (y_load1 (by rfl) Tryz.isAgg3 (by first | exact Mem.old1 (by assumption) | exact Mem.oldAt1 (by assumption) (by rfl) | exact Mem.old (by assumption) | exact Mem.oldAtL1 (by assumption) (by rfl) (by rfl))) ?_
                  refine WS_det hF (by rfl) (y_neq (by rfl) (by rfl)) ?_
                  refine WS_det hF (by rfl) (by first | exact y_pick_t (c := .bool _) (by rfl) (by rfl) | exact y_pick_f (c := .bool _) (by rfl) (by rfl)) ?_
                  refine WS_nil ?_
                  refine Then_normal ?_
                  refine W_cond (by rfl) (fun c22 => ?_) (fun c22 => ?_)
                  ·
                    try simp only [Bool.not_eq_true', Bool.not_eq_false', decide_eq_true_eq, decide_eq_false_iff_not, ne_eq, Classical.not_not, Int.not_lt, Int.not_le] at c22
                    refine W_seq ?_
                    refine W_region_lit (fun ds => ?_)
                    refine WS_det hF (by rfl) (y_loadN (by rfl) Tryz.isAgg29 Tryz.sizeOf29 (Mem.own (us := [.slice _ _ _, .int .i64 _, .int .i64 _, .int .i64 _, .int .i64 _, .slice _ _ _]) 3 (by rfl) (by rfl)) (by rfl)) ?_
                    refine WS_det hF (by rfl) (y_move (c := .int .i64 _) (by rfl)) ?_
                    refine WS_det hF (by rfl) (y_callL (by rfl) (by rfl) Tryz.call16 (fun w hw => Ct_eq (moved_any l a cap _ cape (j : Int) w hn (hx.st w hw) (he.st w hw)) (Lg.movedV_at h0 (by omega) hj c22))) ?_
                    refine WS_det hF (by rfl) (y_move (c := .tuple _) (by rfl)) ?_
                    refine WS_det hF (by rfl) (y_extract (c := .agg _) (by rfl) (by rfl)) ?_
                    refine WS_det hF (by rfl) (y_extract (c := .int .i64 _) (by rfl) (by rfl)) ?_
                    refine WS_new hF (by rfl) (y_alloc Tryz.zeroValue26 (by rfl)) (fun b25 => ?_)
                    refine WS_store hF (us := [.int .i64 _, .int .i64 _]) (i := 0) (by rfl) (by rfl) Tryz.sizeOf26 (by rfl) (by rfl) (by rfl) (by first | decide | exact Nat.le_of_ble_eq_true rfl | simp) ?_
                    refine WS_det hF (by rfl) (y_assign (c := .int .i64 _) (by rfl)) ?_
                    refine WS_nil ?_
                    refine Then_normal ?_
                    refine W_seq ?_
                    refine W_region_lit (fun ds => ?_)
                    refine WS_det hF (by rfl) (y_loadN (by rfl) Tryz.isAgg29 Tryz.sizeOf29 (Mem.own (us := [.slice _ _ _, .int .i64 _, .int .i64 _, .int .i64 _, .int .i64 _, .slice _ _ _]) 3 (by rfl) (by rfl)) (by rfl)) ?_
                    refine WS_det hF (by rfl) (y_move (c := .int .i64 _) (by rfl)) ?_
                    refine WS_det hF (by rfl) (y_callL (by rfl) (by rfl) Tryz.call16 (fun w hw => Ct_eq (moved_any (l.put (mxE o A B)) y1 yc1 y2 yc2 (j : Int) w hn (NewRow.ints hr1 rfl sbA w hw) (NewRow.rws en_len hr2 rfl sbA w hw)) (Lg.movedV_at hx0 (by omega) (by omega) (by rw [l.put_e _ (by omega)]; exact c22)))) ?_
                    refine WS_det hF (by rfl) (y_move (c := .tuple _) (by rfl)) ?_
                    refine WS_det hF (by rfl) (y_extract (c := .agg _) (by rfl) (by rfl)) ?_
                    refine WS_det hF (by rfl) (y_extract (c := .int .i64 _) (by rfl) (by rfl)) ?_
                    refine WS_new hF (by rfl) (y_alloc Tryz.zeroValue26 (by rfl)) (fun b26 => ?_)
                    refine WS_store hF (us := [.int .i64 _, .int .i64 _]) (i := 0) (by rfl) (by rfl) Tryz.sizeOf26 (by rfl) (by rfl) (by rfl) (by first | decide | exact Nat.le_of_ble_eq_true rfl | simp) ?_
                    refine WS_det hF (by rfl) (y_assign (c := .int .i64 _) (by rfl)) ?_
                    refine WS_nil ?_
                    refine Then_normal ?_
                    refine W_seq ?_
                    refine W_keep [(5, .pointer _), (10, .bool _), (11, .bool _), (12, .int .i64 _), (14, .int .i64 _), (17, .int .i64 _), (18, .pointer _), (20, .int .i64 _), (25, .pointer _), (26, .int .i64 _), (27, .pointer _), (28, .int .i64 _)] (by repeat (first | exact trivial | refine ⟨by rfl, ?_⟩)) (fun e => ?_)
                    refine W_region_lit (fun ds => ?_)
                    refine WS_det hF (by rfl) (y_move (c := .int .i64 _) (by rfl)) ?_
                    refine WS_det hF (by rfl) (YD_no (y_neq (by rfl) (by rfl)) dect) ?_
                    refine WS_det hF (by rfl) (y_move (c := .bool _) (by rfl)) ?_
                    refine WS_det hF (by rfl) (y_move (c := .int .i64 _) (by rfl)) ?_
                    refine WS_det hF (by rfl) (YD_no (y_neq (by rfl) (by rfl)) dect) ?_
                    refine WS_det hF (by rfl) (by first | exact y_pick_t (c := .bool _) (by rfl) (by rfl) | exact y_pick_f (c := .bool _) (by rfl) (by rfl)) ?_
                    refine WS_det hF (by rfl) (y_move (c := .bool _) (by rfl)) ?_
                    refine WS_det hF (by rfl) (y_loadN (by rfl) Tryz.isAgg26 Tryz.sizeOf26 (Mem.own (us := [.int .i64 _, .int .i64 _]) 0 (by rfl) (by rfl)) (by rfl)) ?_
                    refine WS_det hF (by rfl) (y_loadN (by rfl) Tryz.isAgg26 Tryz.sizeOf26 (Mem.own (us := [.int .i64 _, .int .i64 _]) 1 (by rfl) (by rfl)) (by rfl)) ?_
                    refine WS_det hF (by rfl) (y_callL (by rfl) (by rfl) Tryz.call20 (fun w hw => Ct_eq (lwithin_any _ _ _ _ w) (wiB_of (hMo.wmv (j - 1) (by omega) c22)))) ?_
                    refine WS_det hF (by rfl) (y_not (by rfl)) ?_
                    refine WS_det hF (by rfl) (by first | exact y_pick_t (c := .bool _) (by rfl) (by rfl) | exact y_pick_f (c := .bool _) (by rfl) (by rfl)) ?_
                    refine WS_nil ?_
                    refine Then_normal ?_
                    refine W_cond (by rfl) (fun c25 => ?_) (fun c25 => ?_)
                    · cases c25
                    ·
                      try simp only [Bool.not_eq_true', Bool.not_eq_false', decide_eq_true_eq, decide_eq_false_iff_not, ne_eq, Classical.not_not, Int.not_lt, Int.not_le] at c25
                      refine W_skip ?_
                      refine Then_normal ?_
                      exact J27 () _ _  trivial slt slt (HSub.sub sbA)
                  ·
                    try simp only [Bool.not_eq_true', Bool.not_eq_false', decide_eq_true_eq, decide_eq_false_iff_not, ne_eq, Classical.not_not, Int.not_lt, Int.not_le] at c22
                    refine W_skip ?_
                    refine Then_normal ?_
                    exact J27 () _ _  trivial slt slt (HSub.sub sbA)
                ·
                  try simp only [Bool.not_eq_true', Bool.not_eq_false', decide_eq_true_eq, decide_eq_false_iff_not, ne_eq, Classical.not_not, Int.not_lt, Int.not_le] at g22_2
                  refine WS_no hF (by rfl) ?_
                  refine WS_no hF (by rfl) ?_
                  refine WS_no hF (by rfl) ?_
                  refine WS_no hF (by rfl) ?_
                  refine WS_no hF (by rfl) ?_
                  refine WS_no hF (by rfl) ?_
                  refine WS_no hF (by rfl) ?_
                  refine WS_no hF (by rfl) ?_
                  refine WS_det hF (by rfl) (by first | exact y_pick_t (c := .bool _) (by rfl) (by rfl) | exact y_pick_f (c := .bool _) (by rfl) (by rfl)) ?_
                  refine WS_nil ?_
                  refine Then_normal ?_
                  refine W_cond (by rfl) (fun c22 => ?_) (fun c22 => ?_)
                  · cases c22
                  ·
                    try simp only [Bool.not_eq_true', Bool.not_eq_false', decide_eq_true_eq, decide_eq_false_iff_not, ne_eq, Classical.not_not, Int.not_lt, Int.not_le] at c22
                    refine W_skip ?_
                    refine Then_normal ?_
                    exact J27 () _ _  trivial slt slt (HSub.sub sbA)
    ·
      intro J8
      refine W_seq ?_
      refine W_seq ?_
      refine W_region_lit (fun ds => ?_)
      refine WS_det hF (by rfl) (y_move (c := .int .i64 _) (by rfl)) ?_
      refine WS_det hF (by rfl) (y_gtr (by rfl) (by rfl)) ?_
      refine WS_nil ?_
      refine Then_normal ?_
      refine W_cond (by rfl) (fun c6 => ?_) (fun c6 => ?_)
      ·
        try simp only [Bool.not_eq_true', Bool.not_eq_false', decide_eq_true_eq, decide_eq_false_iff_not, ne_eq, Classical.not_not, Int.not_lt, Int.not_le] at c6
        obtain ⟨b, o, rfl, hc⟩ := he.cell (l.es.length - 1) (by omega)
        change At w b _ (l.e (l.es.length - 1)).cells at hc
        refine W_region_lit (fun ds => ?_)
        refine WS_det hF (by rfl) (y_fieldAddr (by rfl) fa29_2) ?_
        refine WS_det hF (by rfl) (y_load1 (by rfl) Tryz.isAgg27 (Mem.own1 0 (by rfl) (by rfl))) ?_
        refine WS_det hF (by rfl) (y_move (c := .int .i64 _) (by rfl)) ?_
        refine WS_det hF (by rfl) (y_sub (by rfl) (by rfl) (by unfold I64; omega)) ?_
        refine WS_det hF (by rfl) (y_index (k := l.es.length - 1) (by rfl) (by rfl) (by first | rfl | omega) (by first | decide | omega) Tryz.runUnderlying27 Tryz.sizeOf38) ?_
        refine WS_det hF (by rfl) (y_fieldAddr (by rfl) fa38_0) ?_
        refine WS_det hF (by rfl) (y_load1 (by rfl) Tryz.isAgg3 (by first | exact Mem.old1 (by assumption) | exact Mem.oldAt1 (by assumption) (by rfl) | exact Mem.old (by assumption) | exact Mem.oldAtL1 (by assumption) (by rfl) (by rfl))) ?_
        refine WS_det hF (by rfl) (y_assign (c := .int .i64 _) (by rfl)) ?_
        refine WS_nil ?_
        refine Then_normal ?_
        exact J8 ((l.e (l.es.length - 1)).day) _ _  (by rw [hday, if_neg (by omega)]) slt slt (HSub.sub sbA)
      ·
        try simp only [Bool.not_eq_true', Bool.not_eq_false', decide_eq_true_eq, decide_eq_false_iff_not, ne_eq, Classical.not_not, Int.not_lt, Int.not_le] at c6
        refine W_skip ?_
        refine Then_normal ?_
        exact J8 (0) _ _  (by rw [hday, if_pos (by omega)]) slt slt (HSub.sub sbA)
theorem tankMore_any (l : Lg) (a : Option Addr) (cap : Nat) (ae : Option Addr) (cape : Nat) (p1 p2 p3 p4 : Int) (w : World) (hx : Ints w a l.tk.n cap l.tk.pints) (he : Ens w ae l.es.length cape l.es) (h1 : 0 ≤ p1) (h1' : p1 ≤ 255) (h2 : 0 ≤ p2) (h2' : p2 ≤ 255) (h3 : 0 ≤ p3) (h3' : p3 ≤ 255) (h4 : 0 ≤ p4) (h4' : p4 ≤ 255) :
    Ct Tryz.prog 4 #[.agg #[.slice a l.tk.n cap, .int .i64 l.tk.leak, .int .i64 l.tk.foot, .int .i64 l.start.lo, .int .i64 l.start.hi, .slice ae l.es.length cape], .int .u8 p1, .int .u8 p2, .int .u8 p3, .int .u8 p4] w fun v _ => v = .bool true := by
  cases hr : l.trB with
  | false => exact tankMore_no l a cap ae cape p1 p2 p3 p4 w hx he hr
  | true =>
    obtain ⟨g1, g2, g3⟩ := Lg.rdy_iff.1 (Lg.trB_iff.1 hr).1
    have hok := l.ok_of g3
    have hn2 := hok.tk.n2
    have hH : 0 ≤ l.tk.height := by unfold Tk.height; omega
    have hdb := hok.dayAt_bd
    have hq := emod_bd (n := p1) (m := 19) (by omega)
    have hAb := emod_bd (n := p2) hH
    have hBb := emod_bd (n := p3) hH
    have hM : l.MoH (min 3652 (l.dayAt l.es.length + p1 % 20)) (p2 % (l.tk.height + 1)) (p3 % (l.tk.height + 1)) p1 p2 p3 := ⟨⟨h1, h1'⟩, ⟨h2, h2'⟩, ⟨h3, h3'⟩, rfl, rfl, rfl⟩
    have hod : l.dayAt l.es.length ≤ min 3652 (l.dayAt l.es.length + p1 % 20) ∧ min 3652 (l.dayAt l.es.length + p1 % 20) ≤ 3652 := by omega
    generalize min 3652 (l.dayAt l.es.length + p1 % 20) = o at *
    generalize p2 % (l.tk.height + 1) = A at *
    generalize p3 % (l.tk.height + 1) = B at *
    by_cases h12 : l.es.length = 12
    · exact tankMore_full l a cap ae cape p1 p2 p3 p4 w o A B hM (by omega) (by omega) hx he hr h12
    · have h12' := hok.n12
      have hvb := emod_bd (n := p4) (m := (l.es.length : Int)) (by omega)
      obtain ⟨j, hJ⟩ : ∃ j : Nat, p4 % ((l.es.length : Int) + 1) = (j : Int) := Int.eq_ofNat_of_zero_le hvb.1
      have k3 : (1 : Int) ≤ 3 ∧ (3 : Int) ≤ 3 := by decide
      have e1 : l.tk.entB (l.dayAt l.es.length) (mxE o A B) = true := Tk.entB_iff.2 ⟨hod, k3, by show 0 ≤ min A B; omega, by show min A B ≤ max A B; omega, by show max A B ≤ l.tk.height; omega⟩
      have hE := Lg.add_ok g3 (by omega) e1
      have hxerr := Lg.put_err g3 (by omega) e1
      rcases Lg.aerr_cases hxerr with ⟨z1, z2⟩ | ⟨z1, z2⟩
      · exact tankMore_ok l a cap ae cape p1 p2 p3 p4 w o A B j hM ⟨h4, h4'⟩ hJ (by omega) (by omega) (by omega) hx he hr hE hxerr z1 z2
      · exact tankMore_bad l a cap ae cape p1 p2 p3 p4 w o A B j hM ⟨h4, h4'⟩ hJ (by omega) (by omega) (by omega) hx he hr hE z1
end Go.Proofs.YthkimgfgpphgnaaGreat.T

namespace Go.Proofs.YthkimgfgpphgnaaGreat
open Go.RowKit Go.Proofs Go.Eng Go.ChangeShapes Go.WideShapes Go.ChangeAt Go.Joins T
set_option maxRecDepth 100000
set_option linter.unusedVariables false

theorem walkTankMore (v0 v1 v2 v3 v4 : Value) (W : World) (h0 : ∃ (l0 : Lg) (a0 : Option Addr) (cap0 : Nat) (ae0 : Option Addr) (cape0 : Nat), v0 = .agg #[.slice a0 l0.tk.n cap0, .int .i64 l0.tk.leak, .int .i64 l0.tk.foot, .int .i64 l0.start.lo, .int .i64 l0.start.hi, .slice ae0 l0.es.length cape0] ∧ Ints W a0 l0.tk.n cap0 l0.tk.pints ∧ Ens W ae0 l0.es.length cape0 l0.es) (h1 : ∃ n1 : Int, v1 = .int .u8 n1 ∧ 0 ≤ n1 ∧ n1 ≤ 255) (h2 : ∃ n2 : Int, v2 = .int .u8 n2 ∧ 0 ≤ n2 ∧ n2 ≤ 255) (h3 : ∃ n3 : Int, v3 = .int .u8 n3 ∧ 0 ≤ n3 ∧ n3 ≤ 255) (h4 : ∃ n4 : Int, v4 = .int .u8 n4 ∧ 0 ≤ n4 ∧ n4 ≤ 255) :
    Calls Tryz.prog 4 #[v0, v1, v2, v3, v4] W fun e W' => e = .returned (.bool true) ∧ Below W.heap.size W W' := by
  obtain ⟨l0, a0, cap0, ae0, cape0, rfl, hx0, he0⟩ := h0
  obtain ⟨n1, rfl, hn1, hm1⟩ := h1
  obtain ⟨n2, rfl, hn2, hm2⟩ := h2
  obtain ⟨n3, rfl, hn3, hm3⟩ := h3
  obtain ⟨n4, rfl, hn4, hm4⟩ := h4
  refine Calls.mono (tankMore_any l0 a0 cap0 ae0 cape0 n1 n2 n3 n4 W hx0 he0 hn1 hm1 hn2 hm2 hn3 hm3 hn4 hm4) ?_
  rintro e W' ⟨v, rfl, Hn, hb, _, rfl⟩
  exact ⟨rfl, hb⟩

theorem liftTankMore (os : Os) (started : os.Started) (H : Type) (enc : TypeId × Value → H) :
    ReturnsInHanded {} Tryz.checked os 4 .any (Rows.tankMoreSpec.pre6 enc Tryz.prog Tryz.f4 Rows.tankMoreRow.domain false) (Rows.tankMoreSpec.post enc Tryz.prog Tryz.f4 false true false false) := by
  refine returnsInHanded_of_change (C := Tryz.checked) own started (by kernel_rfl) Tryz.func4
    (ChangeSpec.witness6 (enc := enc) (C := Tryz.checked) false ⟨#[], #[.agg #[.slice none 0 0, .int .i64 0, .int .i64 0, .int .i64 0, .int .i64 0, .slice none 0 0], .int .u8 0, .int .u8 0, .int .u8 0, .int .u8 0], []⟩ 8 (by kernel_rfl) (by kernel_rfl) (by kernel_rfl) (by kernel_rfl)) ?_
  intro W base args ds gs before hval0 hW hcnd _
  have hval : ∀ (j : Nat) t v, Tryz.f4.params[j]? = some t → args[j]? = some v → Value.okWide Tryz.prog W .any base t v := hval0
  have hW' := hW
  obtain ⟨p, q, hA0, hV, rfl, hfz, hnd⟩ := hW
  have hA : DataW.TrodAll enc Tryz.prog W 0 (fun _ => true) true Tryz.f4.params.toList args.toList ds p := hA0
  rw [Tryz.params4] at hA hval
  obtain ⟨v0, vs0, d0, ds0, p0, q0, hargs, rfl, rfl, h0, r0⟩ := trodAll_cons hA
  obtain ⟨v1, vs1, d1, ds1, p1, q1, rfl, rfl, rfl, h1, r1⟩ := trodAll_cons r0
  obtain ⟨v2, vs2, d2, ds2, p2, q2, rfl, rfl, rfl, h2, r2⟩ := trodAll_cons r1
  obtain ⟨v3, vs3, d3, ds3, p3, q3, rfl, rfl, rfl, h3, r3⟩ := trodAll_cons r2
  obtain ⟨v4, vs4, d4, ds4, p4, q4, rfl, rfl, rfl, h4, r4⟩ := trodAll_cons r3
  obtain ⟨rfl, rfl, rfl⟩ := trodAll_nil r4
  obtain rfl : args = #[v0, v1, v2, v3, v4] := by cases args; simp_all
  obtain ⟨rfl, rfl⟩ := trodVars_none hV
  have lt0 : ∀ x ∈ p0, x.block < W.heap.size := by obtain ⟨m, hm⟩ := h0; exact DataW.trod_lt m _ _ _ hm
  have lt1 : ∀ x ∈ p1, x.block < W.heap.size := by obtain ⟨m, hm⟩ := h1; exact DataW.trod_lt m _ _ _ hm
  have lt2 : ∀ x ∈ p2, x.block < W.heap.size := by obtain ⟨m, hm⟩ := h2; exact DataW.trod_lt m _ _ _ hm
  have lt3 : ∀ x ∈ p3, x.block < W.heap.size := by obtain ⟨m, hm⟩ := h3; exact DataW.trod_lt m _ _ _ hm
  have lt4 : ∀ x ∈ p4, x.block < W.heap.size := by obtain ⟨m, hm⟩ := h4; exact DataW.trod_lt m _ _ _ hm
  have o0 : ∃ (l0 : Lg) (a0 : Option Addr) (cap0 : Nat) (ae0 : Option Addr) (cape0 : Nat), v0 = .agg #[.slice a0 l0.tk.n cap0, .int .i64 l0.tk.leak, .int .i64 l0.tk.foot, .int .i64 l0.start.lo, .int .i64 l0.start.hi, .slice ae0 l0.es.length cape0] ∧ Ints W a0 l0.tk.n cap0 l0.tk.pints ∧ Ens W ae0 l0.es.length cape0 l0.es := open_log (hval 0 _ v0 rfl rfl) h0 (fun _ => rfl)
  have o1 : ∃ n1 : Int, v1 = .int .u8 n1 ∧ 0 ≤ n1 ∧ n1 ≤ 255 := open_u8 Tryz.underlying5 (hval 1 _ v1 rfl rfl) h1
  have o2 : ∃ n2 : Int, v2 = .int .u8 n2 ∧ 0 ≤ n2 ∧ n2 ≤ 255 := open_u8 Tryz.underlying5 (hval 2 _ v2 rfl rfl) h2
  have o3 : ∃ n3 : Int, v3 = .int .u8 n3 ∧ 0 ≤ n3 ∧ n3 ≤ 255 := open_u8 Tryz.underlying5 (hval 3 _ v3 rfl rfl) h3
  have o4 : ∃ n4 : Int, v4 = .int .u8 n4 ∧ 0 ≤ n4 ∧ n4 ≤ 255 := open_u8 Tryz.underlying5 (hval 4 _ v4 rfl rfl) h4
  clear hA0 hval0
  refine (walkTankMore v0 v1 v2 v3 v4 W o0 o1 o2 o3 o4).mono fun e W' ⟨he, bel⟩ => ?_
  subst he
  exact ⟨_, rfl, _, _, _, [], _, [], hW', trodAll_mk1 (shut_bool Tryz.underlying4 _),
    (trodAll_cons_mk (Below.trod laidOut (by kernel_rfl) (of_decide_eq_true (by kernel_rfl)) h0 bel lt0) (trodAll_cons_mk (Below.trod laidOut (by kernel_rfl) (of_decide_eq_true (by kernel_rfl)) h1 bel lt1) (trodAll_cons_mk (Below.trod laidOut (by kernel_rfl) (of_decide_eq_true (by kernel_rfl)) h2 bel lt2) (trodAll_cons_mk (Below.trod laidOut (by kernel_rfl) (of_decide_eq_true (by kernel_rfl)) h3 bel lt3) (trodAll_cons_mk (Below.trod laidOut (by kernel_rfl) (of_decide_eq_true (by kernel_rfl)) h4 bel lt4) trodAll_mk0))))), rfl, bel.frame _, fun h => by cases h⟩

theorem tankMore : Rows.TankMoreSaid :=
  OpenClaim.holds_of_wide 4 Tryz.f4 rfl rfl rfl rfl rfl rfl rfl ⟨rfl, rfl, rfl, rfl, rfl⟩ rfl rfl rfl rfl rfl (by kernel_rfl) Tryz.func4 (by kernel_rfl)
    (of_decide_eq_true (by kernel_rfl)) (by unfold Func.isWrapper; first | (rw [if_pos (by decide +kernel)]; kernel_rfl) | (rw [if_neg (by decide +kernel)]; exact ⟨rfl, rfl⟩))
    (fun os started H enc _ => liftTankMore os started H enc)
end Go.Proofs.YthkimgfgpphgnaaGreat
