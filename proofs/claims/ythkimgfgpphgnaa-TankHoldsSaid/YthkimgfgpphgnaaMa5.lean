/- Proved: for every input, with no condition, the law TankHolds returns true and the input reads as it did (Rows.TankHoldsSaid). -/
import Derived.Test.YthkimgfgpphgnaaMa4
import Derived.MapKept
import Derived.Scope
import Derived.Test.YthkimgfgpphgnaaMa3
import Derived.Test.YthkimgfgpphgnaaMa2
/- The reference: sums that leak: what the arrays say of the least and the greatest sums; plain facts. -/
namespace Go.Proofs.Ythkimgfgpphgnaa.T
open Go.RowKit Go.Proofs Go.Eng
set_option maxRecDepth 100000
set_option linter.unusedVariables false
set_option linter.unusedSimpArgs false

theorem never_eq : never = -1099511627776 := rfl
/-- A span of sums, the greatest sum, and the least one turned round. -/
def Rep (M : Int) (s : Sn) (p m : Int) : Prop := (s = Sn.no ∧ p ≤ never + M ∧ m ≤ never + M) ∨ (0 ≤ s.lo ∧ s.lo ≤ s.hi ∧ s.hi ≤ M ∧ p = s.hi ∧ m = -s.lo)
theorem Rep.wth {M : Int} {a b : Sn} {p m q r : Int} (hM : M ≤ 1000000) (h : Rep M a p m) (h0 : 0 ≤ b.lo) (h1 : b.lo ≤ b.hi) (h2 : b.hi ≤ M) (hq : q = b.hi) (hr : r = -b.lo) : Rep M (a.wth b) (max p q) (max m r) := by
  have hn := never_eq
  subst hq hr
  refine .inr ?_
  unfold Sn.wth
  obtain ⟨rfl, hp, hm⟩ | ⟨g0, g1, g2, rfl, rfl⟩ := h
  · rw [if_pos (by decide)]; omega
  · rw [if_neg (by omega)]; refine ⟨?_, ?_, ?_, ?_, ?_⟩ <;> simp only <;> omega
theorem Rep.skip {M : Int} {a : Sn} {p m q r : Int} (hM : M ≤ 1000000) (h : Rep M a p m) (hq : q ≤ never + M) (hr : r ≤ never + M) : Rep M a (max p q) (max m r) := by
  have hn := never_eq
  obtain ⟨rfl, hp, hm⟩ | ⟨g0, g1, g2, rfl, rfl⟩ := h
  · exact .inl ⟨rfl, by omega, by omega⟩
  · exact .inr ⟨g0, g1, g2, by omega, by omega⟩
theorem Rep.mono {M N : Int} {a : Sn} {p m : Int} (h : Rep M a p m) (hMN : M ≤ N) : Rep N a p m := by
  obtain ⟨rfl, hp, hm⟩ | ⟨g0, g1, g2, g3, g4⟩ := h
  · exact .inl ⟨rfl, by omega, by omega⟩
  · exact .inr ⟨g0, g1, by omega, g3, g4⟩
theorem Rep.bd {M : Int} {a : Sn} {p m : Int} (h : Rep M a p m) (hM : 0 ≤ M ∧ M ≤ 1000000) : 0 ≤ a.lo ∧ a.lo ≤ 1000000 ∧ 0 ≤ a.hi ∧ a.hi ≤ 1000000 := by
  obtain ⟨rfl, hp, hm⟩ | ⟨g0, g1, g2, g3, g4⟩ := h
  · decide
  · omega
def wmx (g : Nat → Int) (a n : Nat) : Nat → Int
  | 0 => never
  | V + 1 => if a ≤ V ∧ V < a + n then max (wmx g a n V) (g V) else wmx g a n V
theorem wmx_eq (g : Nat → Int) (a n : Nat) : ∀ V, wmx g a n V = mxF g a (min n (V - a))
  | 0 => by rw [show min n (0 - a) = 0 by omega]; rfl
  | V + 1 => by
    unfold wmx
    rw [wmx_eq g a n V]
    split
    · rw [show min n (V + 1 - a) = min n (V - a) + 1 by omega]
      show _ = max _ (g (a + min n (V - a)))
      rw [show a + min n (V - a) = V by omega]
    · rw [show min n (V + 1 - a) = min n (V - a) by omega]
theorem mxF_ge {g : Nat → Int} {a : Nat} : ∀ {n j : Nat}, j < n → g (a + j) ≤ mxF g a n
  | n + 1, j, h => by
    show _ ≤ max _ _
    by_cases hj : j = n
    · subst hj; omega
    · have := mxF_ge (g := g) (a := a) (n := n) (j := j) (by omega)
      omega
theorem maxN_ge {f : Nat → Int} : ∀ {n j : Nat}, j < n → f j ≤ maxN f n
  | n + 1, j, h => by
    show _ ≤ max _ _
    by_cases hj : j = n
    · subst hj; omega
    · have := maxN_ge (f := f) (n := n) (j := j) (by omega)
      omega
theorem mv_ge {F : Nat} {lo hi wo : Int} {best : Nat → Int} {t v : Nat} (hv : v ≤ F) (h1 : lo ≤ (t : Int) - v) (h2 : (t : Int) - v ≤ hi) : mvG wo best t v ≤ mv F lo hi wo best t := by
  have hA : ((mvA hi t : Nat) : Int) = max 0 ((t : Int) - hi) := by unfold mvA; omega
  have hN : ((mvN F lo hi t : Nat) : Int) = max 0 (min (F : Int) ((t : Int) - lo) - max 0 ((t : Int) - hi) + 1) := by unfold mvN; omega
  have h := mxF_ge (g := mvG wo best t) (a := mvA hi t) (n := mvN F lo hi t) (j := v - mvA hi t) (by omega)
  rw [show mvA hi t + (v - mvA hi t) = v by omega] at h
  exact h
theorem pass_rep {S : Nat → Sn} {F : Nat} {cb : Bool} {lo hi lo' hi' : Int} {bp bm : Nat → Int} {wp wm M D : Int} {t : Nat} (hM : 0 ≤ M) (hD : 0 ≤ D) (hMD : M + D ≤ 1000000) (ht : t ≤ F)
    (hS : ∀ v, v ≤ F → Rep M (S v) (bp v) (bm v)) (hw : ∀ v : Nat, v ≤ F → ((lo ≤ (t : Int) - v ∧ (t : Int) - v ≤ hi) ↔ (lo' ≤ (t : Int) - v ∧ (t : Int) - v ≤ hi')))
    (hc : ∀ v : Nat, v ≤ F → lo ≤ (t : Int) - v → (t : Int) - v ≤ hi → 0 ≤ -cw cb ((t : Int) - v) ∧ -cw cb ((t : Int) - v) ≤ D)
    (hp : ∀ v : Nat, mvG wp bp t v = bp v - cw cb ((t : Int) - v)) (hm : ∀ v : Nat, mvG wm bm t v = bm v + cw cb ((t : Int) - v)) :
    Rep (M + D) (psO S F cb lo hi (F + 1) t) (mv F lo' hi' wp bp t) (mv F lo' hi' wm bm t) := by
  have hn := never_eq
  have hA : ((mvA hi' t : Nat) : Int) = max 0 ((t : Int) - hi') := by unfold mvA; omega
  have hN : ((mvN F lo' hi' t : Nat) : Int) = max 0 (min (F : Int) ((t : Int) - lo') - max 0 ((t : Int) - hi') + 1) := by unfold mvN; omega
  have main : ∀ V, V ≤ F + 1 → Rep (M + D) (psO S F cb lo hi V t) (wmx (mvG wp bp t) (mvA hi' t) (mvN F lo' hi' t) V) (wmx (mvG wm bm t) (mvA hi' t) (mvN F lo' hi' t) V) := by
    intro V
    induction V with
    | zero => intro _; exact .inl ⟨rfl, by show never ≤ _; omega, by show never ≤ _; omega⟩
    | succ V ih =>
      intro hV
      have ih := ih (by omega)
      have hs := hS V (by omega)
      have hwv := hw V (by omega)
      have hcv := hc V (by omega)
      have e1 := hp V
      have e2 := hm V
      show Rep _ (psI S F cb lo V (psN S lo hi V) (psO S F cb lo hi V) t) (if _ then _ else _) (if _ then _ else _)
      obtain ⟨hno, g1, g2⟩ | ⟨g0, g1, g2, g3, g4⟩ := hs
      · have hz : psN S lo hi V = 0 := if_pos (by rw [hno]; decide)
        rw [hz, psI_zero]
        by_cases hin : mvA hi' t ≤ V ∧ V < mvA hi' t + mvN F lo' hi' t
        · rw [if_pos hin, if_pos hin]
          exact ih.skip hMD (by omega) (by omega)
        · rw [if_neg hin, if_neg hin]; exact ih
      · have hz : psN S lo hi V = (hi - lo + 1).toNat := if_neg (by omega)
        rw [hz]
        unfold psI
        by_cases hin : mvA hi' t ≤ V ∧ V < mvA hi' t + mvN F lo' hi' t
        · have hwin : lo ≤ (t : Int) - V ∧ (t : Int) - V ≤ hi := hwv.2 (by omega)
          have hcc := hcv hwin.1 hwin.2
          rw [if_pos hin, if_pos hin, if_pos (by omega)]
          exact ih.wth hMD (by simp only; omega) (by simp only; omega) (by simp only; omega) (by simp only; omega) (by simp only; omega)
        · have hwin : ¬ (lo ≤ (t : Int) - V ∧ (t : Int) - V ≤ hi) := fun h => hin (by have := hwv.1 h; omega)
          rw [if_neg hin, if_neg hin, if_neg (by omega)]; exact ih
  have h := main (F + 1) (Nat.le_refl _)
  rw [wmx_eq, wmx_eq, show min (mvN F lo' hi' t) (F + 1 - mvA hi' t) = mvN F lo' hi' t by omega] at h
  exact h
/-! ### The sums of a log, time by time -/
def stS (lo : Int) (c t : Nat) : Sn := if lo ≤ (t : Int) ∧ (t : Int) < lo + (c : Int) then Sn.z else Sn.no
def Lg.sum0 (l : Lg) (t : Nat) : Sn := if l.start.lo ≤ (t : Int) ∧ (t : Int) ≤ l.start.hi then Sn.z else Sn.no
def Lg.sum1 (l : Lg) (F k : Nat) (S : Nat → Sn) : Nat → Sn := if 0 < k then psO S F true (-(min (F : Int) (l.drip k))) 0 (F + 1) else S
def dpS (d : Sn) (S : Nat → Sn) (j t : Nat) : Sn := if t < j ∧ inB d.lo d.hi [(t : Int)] = false then Sn.no else S t
def Lg.sum2 (l : Lg) (F k : Nat) (S : Nat → Sn) : Nat → Sn :=
  if (l.e k).kind = 1 then psO S F false (l.e k).size.lo (l.e k).size.hi (F + 1)
  else if (l.e k).kind = 2 then psO S F false (-(l.e k).size.hi) (-(l.e k).size.lo) (F + 1)
  else dpS (l.tk.dip (l.e k).size) S (F + 1)
def Lg.sumK (l : Lg) (F : Nat) : Nat → Nat → Sn
  | 0 => l.sum0
  | k + 1 => l.sum2 F k (l.sum1 F k (l.sumK F k))
theorem Lg.sum1_rep (l : Lg) {F k : Nat} {S : Nat → Sn} {bp bm : Nat → Int} {M : Int} (hdr : 0 ≤ l.drip k) (hF6 : F ≤ 600) (hM : 0 ≤ M ∧ M ≤ 100000) (hS : ∀ v, v ≤ F → Rep M (S v) (bp v) (bm v)) {t : Nat} (ht : t ≤ F) :
    Rep (M + 600) (l.sum1 F k S t) (mv F (-l.drip k) 0 1 bp t) (mv F (-l.drip k) 0 (-1) bm t) := by
  unfold Lg.sum1
  by_cases hk : 0 < k
  · rw [if_pos hk]
    refine pass_rep hM.1 (by omega) (by omega) ht hS (fun v hv => by omega) (fun v hv h1 h2 => ?_) (fun v => ?_) (fun v => ?_)
    · show 0 ≤ -((t : Int) - v) ∧ -((t : Int) - v) ≤ 600
      omega
    · show bp v + 1 * ((v : Int) - t) = bp v - ((t : Int) - v); omega
    · show bm v + (-1) * ((v : Int) - t) = bm v + ((t : Int) - v); omega
  · rw [if_neg hk]
    have hz : l.drip k = 0 := if_pos (by omega)
    rw [hz]
    have hA : mvA 0 t = t := by unfold mvA; omega
    have hN : mvN F (-0) 0 t = 1 := by unfold mvN; omega
    have hn := never_eq
    have h := hS t ht
    have e1 : mv F (-0) 0 1 bp t = max never (bp t) := by
      unfold mv; rw [hA, hN]
      show max never (bp (t + 0) + 1 * (((t + 0 : Nat) : Int) - t)) = _
      rw [Nat.add_zero]; omega
    have e2 : mv F (-0) 0 (-1) bm t = max never (bm t) := by
      unfold mv; rw [hA, hN]
      show max never (bm (t + 0) + (-1) * (((t + 0 : Nat) : Int) - t)) = _
      rw [Nat.add_zero]; omega
    rw [e1, e2]
    obtain ⟨h0, g1, g2⟩ | ⟨g0, g1, g2, g3, g4⟩ := h
    · exact .inl ⟨h0, by omega, by omega⟩
    · exact .inr ⟨g0, g1, by omega, by omega, by omega⟩
theorem Lg.sum2_rep (l : Lg) {F k : Nat} {S : Nat → Sn} {bp bm : Nat → Int} {M : Int} (hF6 : F ≤ 600) (hM : 0 ≤ M ∧ M ≤ 100000) (hS : ∀ v, v ≤ F → Rep M (S v) (bp v) (bm v)) {t : Nat} (ht : t ≤ F) :
    Rep M (l.sum2 F k S t) ((if (l.e k).kind = 1 then mv F (l.e k).size.lo (l.e k).size.hi 0 bp else if (l.e k).kind = 2 then mv F (-(l.e k).size.hi) (-(l.e k).size.lo) 0 bp else dipF (l.tk.dip (l.e k).size) bp) t)
      ((if (l.e k).kind = 1 then mv F (l.e k).size.lo (l.e k).size.hi 0 bm else if (l.e k).kind = 2 then mv F (-(l.e k).size.hi) (-(l.e k).size.lo) 0 bm else dipF (l.tk.dip (l.e k).size) bm) t) := by
  have hps : ∀ lo hi : Int, Rep M (psO S F false lo hi (F + 1) t) (mv F lo hi 0 bp t) (mv F lo hi 0 bm t) := fun lo hi => by
    have h := pass_rep (S := S) (F := F) (cb := false) (lo := lo) (hi := hi) (lo' := lo) (hi' := hi) (bp := bp) (bm := bm) (wp := 0) (wm := 0) (M := M) (D := 0) hM.1 (by omega) (by omega) ht hS (fun v hv => Iff.rfl) (fun v hv h1 h2 => ⟨by show 0 ≤ -(0 : Int); omega, by show -(0 : Int) ≤ 0; omega⟩)
      (fun v => by show bp v + 0 * _ = bp v - 0; rw [Int.zero_mul]; omega) (fun v => by show bm v + 0 * _ = bm v + 0; rw [Int.zero_mul])
    rw [Int.add_zero] at h; exact h
  unfold Lg.sum2
  by_cases h1 : (l.e k).kind = 1
  · rw [if_pos h1, if_pos h1, if_pos h1]; exact hps _ _
  · rw [if_neg h1, if_neg h1, if_neg h1]
    by_cases h2 : (l.e k).kind = 2
    · rw [if_pos h2, if_pos h2, if_pos h2]; exact hps _ _
    · rw [if_neg h2, if_neg h2, if_neg h2]
      unfold dpS dipF
      cases hin : inB (l.tk.dip (l.e k).size).lo (l.tk.dip (l.e k).size).hi [(t : Int)] with
      | true => rw [if_neg (by simp), if_pos rfl, if_pos rfl]; exact hS t ht
      | false => rw [if_pos ⟨by omega, rfl⟩, if_neg Bool.false_ne_true, if_neg Bool.false_ne_true]; exact .inl ⟨rfl, by omega, by omega⟩
theorem Lg.sumK_rep (l : Lg) (hok : l.Ok) {F : Nat} (hF6 : F ≤ 600) : ∀ k, k ≤ l.es.length → ∀ t, t ≤ F → Rep (600 * (k : Int)) (l.sumK F k t) (l.bestK F 1 k t) (l.bestK F (-1) k t)
  | 0, _, t, ht => by
    show Rep _ (l.sum0 t) (l.best0 t) (l.best0 t)
    unfold Lg.sum0 Lg.best0
    by_cases h : l.start.lo ≤ (t : Int) ∧ (t : Int) ≤ l.start.hi
    · rw [if_pos h, if_pos h]; exact .inr (by decide)
    · rw [if_neg h, if_neg h]; exact .inl ⟨rfl, by omega, by omega⟩
  | k + 1, hk, t, ht => by
    have h12 := hok.n12
    have ih := Lg.sumK_rep l hok hF6 k (by omega)
    have hdr := hok.drip_bd (i := k) (by omega)
    have h1 : ∀ v, v ≤ F → Rep (600 * (k : Int) + 600) (l.sum1 F k (l.sumK F k) v) (mv F (-l.drip k) 0 1 (l.bestK F 1 k) v) (mv F (-l.drip k) 0 (-1) (l.bestK F (-1) k) v) := fun v hv => l.sum1_rep hdr.1 hF6 (by omega) ih hv
    have h2 := l.sum2_rep (k := k) hF6 (by omega) h1 ht
    rw [show 600 * ((k + 1 : Nat) : Int) = 600 * (k : Int) + 600 by omega]
    exact h2
def outS (S : Nat → Sn) : Nat → Sn
  | 0 => Sn.no
  | V + 1 => if (S V).hi < (S V).lo then outS S V else (outS S V).wth (S V)
theorem out_rep {S : Nat → Sn} {bp bm : Nat → Int} {M : Int} (hM : M ≤ 1000000) : ∀ V, (∀ v, v ≤ V → Rep M (S v) (bp v) (bm v)) → Rep M (outS S (V + 1)) (maxN bp (V + 1)) (maxN bm (V + 1))
  | 0, h => by
    have h0 := h 0 (Nat.le_refl _)
    show Rep M (if (S 0).hi < (S 0).lo then Sn.no else Sn.no.wth (S 0)) (max (bp 0) (bp 0)) (max (bm 0) (bm 0))
    rw [Int.max_self, Int.max_self]
    obtain ⟨hno, g1, g2⟩ | ⟨g0, g1, g2, g3, g4⟩ := h0
    · rw [if_pos (by rw [hno]; decide)]; exact .inl ⟨rfl, g1, g2⟩
    · rw [if_neg (by omega)]
      show Rep M (if _ then _ else _) _ _
      rw [if_pos (by decide)]; exact .inr ⟨g0, g1, g2, g3, g4⟩
  | V + 1, h => by
    have ih := out_rep hM V fun v hv => h v (by omega)
    have h0 := h (V + 1) (Nat.le_refl _)
    show Rep M (if (S (V + 1)).hi < (S (V + 1)).lo then outS S (V + 1) else (outS S (V + 1)).wth (S (V + 1))) (max _ (bp (V + 1))) (max _ (bm (V + 1)))
    obtain ⟨hno, g1, g2⟩ | ⟨g0, g1, g2, g3, g4⟩ := h0
    · rw [if_pos (by rw [hno]; decide)]; exact ih.skip hM g1 g2
    · rw [if_neg (by omega)]; exact ih.wth hM g0 g1 g2 g3 g4
/-- What a log holds at a time comes about, with a sum that is none of the impossible ones. -/
theorem Lg.reach (l : Lg) (hok : l.Ok) (hne : ∀ j, j ≤ l.es.length → (l.hold j).empty = false) {F : Nat} (hFu : l.tk.full = (F : Int)) : ∀ k, k ≤ l.es.length → ∀ t : Nat, t ≤ F → (l.hold k).lo ≤ (t : Int) → (t : Int) ≤ (l.hold k).hi → 0 ≤ l.bestK F 1 k t
  | 0, _, t, ht, h1, h2 => by
    show 0 ≤ l.best0 t
    unfold Lg.best0
    rw [if_pos ⟨h1, h2⟩]; omega
  | k + 1, hk, t, ht, h1, h2 => by
    have ih := Lg.reach l hok hne hFu k (by omega)
    have hd := hok.hold_bd k (by omega) fun j hj => hne j (by omega)
    have he := hne k (by omega)
    unfold Sn.empty at he
    simp only [decide_eq_false_iff_not] at he
    have hdr := hok.drip_bd (i := k) (by omega)
    have hkd := hok.kind k (by omega)
    have hsz := Sn.inB_iff.1 (hok.size k (by omega))
    have hA : ∀ u : Nat, u ≤ F → (l.before k (l.hold k)).lo ≤ (u : Int) → (u : Int) ≤ (l.before k (l.hold k)).hi → 0 ≤ mv F (-l.drip k) 0 1 (l.bestK F 1 k) u := fun u hu g1 g2 => by
      unfold Lg.before at g1 g2
      simp only at g1 g2
      obtain ⟨v, hv⟩ : ∃ v : Nat, max (u : Int) (l.hold k).lo = (v : Int) := Int.eq_ofNat_of_zero_le (by omega)
      have hb := ih v (by omega) (by omega) (by omega)
      have hg := mv_ge (F := F) (lo := -l.drip k) (hi := 0) (wo := 1) (best := l.bestK F 1 k) (t := u) (v := v) (by omega) (by omega) (by omega)
      unfold mvG at hg
      omega
    have hB : (l.before k (l.hold k)).lo ≤ (l.before k (l.hold k)).hi ∧ 0 ≤ (l.before k (l.hold k)).lo ∧ (l.before k (l.hold k)).hi ≤ (F : Int) := by
      unfold Lg.before
      simp only
      omega
    change (l.tk.forth (l.e k) (l.before k (l.hold k))).lo ≤ _ at h1
    change _ ≤ (l.tk.forth (l.e k) (l.before k (l.hold k))).hi at h2
    show 0 ≤ l.bstep F 1 k (l.bestK F 1 k) t
    unfold Lg.bstep
    generalize l.before k (l.hold k) = bf at hA hB h1 h2
    generalize mv F (-l.drip k) 0 1 (l.bestK F 1 k) = g1 at hA ⊢
    have hmost : (l.e k).kind ≠ 3 → (l.e k).size.hi ≤ (F : Int) := fun h => by
      have := hsz.2.2
      unfold Tk.most at this
      rw [if_neg h] at this
      omega
    unfold Tk.forth at h1 h2
    by_cases e1 : (l.e k).kind = 1
    · rw [if_pos e1] at h1 h2 ⊢
      unfold Sn.met Sn.add Tk.all at h1 h2
      simp only at h1 h2
      obtain ⟨v, hv⟩ : ∃ v : Nat, max bf.lo ((t : Int) - (l.e k).size.hi) = (v : Int) := Int.eq_ofNat_of_zero_le (by omega)
      have hb := hA v (by omega) (by omega) (by omega)
      have hg := mv_ge (F := F) (lo := (l.e k).size.lo) (hi := (l.e k).size.hi) (wo := 0) (best := g1) (t := t) (v := v) (by omega) (by omega) (by omega)
      unfold mvG at hg
      rw [Int.zero_mul] at hg
      omega
    · rw [if_neg e1] at h1 h2 ⊢
      by_cases e2 : (l.e k).kind = 2
      · rw [if_pos e2] at h1 h2 ⊢
        unfold Sn.met Sn.sub Tk.all at h1 h2
        simp only at h1 h2
        obtain ⟨v, hv⟩ : ∃ v : Nat, max bf.lo ((t : Int) + (l.e k).size.lo) = (v : Int) := Int.eq_ofNat_of_zero_le (by omega)
        have hb := hA v (by omega) (by omega) (by omega)
        have hg := mv_ge (F := F) (lo := -(l.e k).size.hi) (hi := -(l.e k).size.lo) (wo := 0) (best := g1) (t := t) (v := v) (by omega) (by omega) (by omega)
        unfold mvG at hg
        rw [Int.zero_mul] at hg
        omega
      · rw [if_neg e2] at h1 h2 ⊢
        unfold Sn.met at h1 h2
        simp only at h1 h2
        unfold dipF
        rw [if_pos (inB1.2 (by omega))]
        exact hA t ht (by omega) (by omega)
/-- What the reference's last loop finds is what the program tells. -/
theorem Lg.out_eq (l : Lg) (hok : l.Ok) (hne : ∀ j, j ≤ l.es.length → (l.hold j).empty = false) {F : Nat} (hF6 : F ≤ 600) (hFu : l.tk.full = (F : Int)) : outS (l.sumK F l.es.length) (F + 1) = ⟨-l.lostI (-1), l.lostI 1⟩ := by
  have hn := never_eq
  have h12 := hok.n12
  have hFt : l.tk.full.toNat = F := by omega
  have h := out_rep (M := 600 * (l.es.length : Int)) (by omega) F (l.sumK_rep hok hF6 l.es.length (Nat.le_refl _))
  have hd := hok.hold_bd l.es.length (Nat.le_refl _) fun j hj => hne j (by omega)
  have he := hne l.es.length (Nat.le_refl _)
  unfold Sn.empty at he
  simp only [decide_eq_false_iff_not] at he
  obtain ⟨v, hv⟩ : ∃ v : Nat, (l.hold l.es.length).lo = (v : Int) := Int.eq_ofNat_of_zero_le (by omega)
  have hr := l.reach hok hne hFu l.es.length (Nat.le_refl _) v (by omega) (by omega) (by omega)
  have hg := maxN_ge (f := l.bestK F 1 l.es.length) (n := F + 1) (j := v) (by omega)
  unfold Lg.lostI
  rw [hFt]
  generalize outS (l.sumK F l.es.length) (F + 1) = s at h ⊢
  obtain ⟨h0, g1, g2⟩ | ⟨g0, g1, g2, g3, g4⟩ := h
  · omega
  · obtain ⟨x, y⟩ := s
    simp only at g0 g1 g2 g3 g4
    rw [Sn.mk.injEq]
    omega
end Go.Proofs.Ythkimgfgpphgnaa.T

/- The reference: sums that leak: the walk. -/
namespace Go.Proofs.Ythkimgfgpphgnaa.T
open Go.RowKit Go.Proofs Go.Eng
set_option maxRecDepth 100000
set_option maxHeartbeats 800000
set_option linter.unusedVariables false
set_option linter.unusedSimpArgs false



theorem stS_step {lo : Int} {c v F : Nat} (hv : lo + (c : Int) = (v : Int)) (h : v < 601) : splice (snRow (stS lo c) 601) (0 + v * 2) [.int .i64 0, .int .i64 0] = snRow (stS lo (c + 1)) 601 := by
  rw [Nat.zero_add]
  refine rowOf_splice sn_len h ?_ fun j hj hne => ?_
  · unfold stS; rw [if_pos (by omega)]; rfl
  · unfold stS
    by_cases h1 : lo ≤ (j : Int) ∧ (j : Int) < lo + (c : Int)
    · rw [if_pos h1, if_pos (by omega)]
    · rw [if_neg h1, if_neg (by omega)]
theorem dpS_no {d : Sn} {S : Nat → Sn} {j : Nat} (h : j < 601) (hc : inB d.lo d.hi [(j : Int)] = false) : splice (snRow (dpS d S j) 601) (0 + j * 2) [.int .i64 1, .int .i64 0] = snRow (dpS d S (j + 1)) 601 := by
  rw [Nat.zero_add]
  refine rowOf_splice sn_len h ?_ fun i hi hne => ?_
  · unfold dpS; rw [if_pos ⟨by omega, hc⟩]; rfl
  · unfold dpS
    by_cases h1 : i < j ∧ inB d.lo d.hi [(i : Int)] = false
    · rw [if_pos h1, if_pos ⟨by omega, h1.2⟩]
    · rw [if_neg h1, if_neg fun h => h1 ⟨by omega, h.2⟩]
theorem dpS_yes {d : Sn} {S : Nat → Sn} {j : Nat} (hc : inB d.lo d.hi [(j : Int)] = true) : snRow (dpS d S j) 601 = snRow (dpS d S (j + 1)) 601 := rowOf_congr _ fun i hi => by
  unfold dpS
  by_cases h1 : i < j ∧ inB d.lo d.hi [(i : Int)] = false
  · rw [if_pos h1, if_pos ⟨by omega, h1.2⟩]
  · rw [if_neg h1, if_neg fun h => ?_]
    have : i = j ∨ i < j := by omega
    rcases this with rfl | h2
    · rw [hc] at h; exact absurd h.2 (by simp)
    · exact h1 ⟨h2, h.2⟩
theorem dpS_zero {d : Sn} {S : Nat → Sn} : dpS d S 0 = S := funext fun t => if_neg fun h => absurd h.1 (by omega)
theorem rleaked_any (l : Lg) (a : Option Addr) (cap : Nat) (ae : Option Addr) (cape : Nat) (w : World) (hn : l.tk.n ≤ 1000000) (hx : Ints w a l.tk.n cap l.tk.pints) (he : Ens w ae l.es.length cape l.es) : Ct Try.prog 52 #[.agg #[.slice a l.tk.n cap, .int .i64 l.tk.leak, .int .i64 l.tk.foot, .int .i64 l.start.lo, .int .i64 l.start.hi, .slice ae l.es.length cape]] w fun v _ => v = l.leakedV := by
  have hF := wide_wide
  refine Ct_start (args := [_]) Try.func52 (by rfl) Try.ntmps52 (by rfl) ?_
  refine W_seq ?_
  refine W_region_lit (fun ds => ?_)
  refine WS_new hF (by rfl) (y_box (by rfl)) (fun b1 => ?_)
  refine WS_new hF (by rfl) (y_alloc Try.zeroValue26 (by rfl)) (fun b2 => ?_)
  refine WS_det hF (by rfl) (y_assign (c := .int .i64 _) (by rfl)) ?_
  refine WS_nil ?_
  refine Then_normal ?_
  refine W_seq ?_
  refine W_seq ?_
  refine W_region_lit (fun ds => ?_)
  refine WS_det hF (by rfl) (y_loadN (by rfl) Try.isAgg46 Try.sizeOf46 (Mem.own (us := [.slice _ _ _, .int .i64 _, .int .i64 _, .int .i64 _, .int .i64 _, .slice _ _ _]) 1 (by rfl) (by rfl)) (by rfl)) ?_
  refine WS_det hF (by rfl) (y_callL (by rfl) (by rfl) Try.call90 (fun w hw => rasked_any l a cap ae cape w hn (hx.st w hw) (he.st w hw))) ?_
  refine WS_det hF (by rfl) (y_assign (c := .int .i64 _) (by rfl)) ?_
  refine WS_nil ?_
  refine Then_normal ?_
  refine W_seq ?_
  refine W_region_lit (fun ds => ?_)
  refine WS_det hF (by rfl) (y_move (c := .int .i64 _) (by rfl)) ?_
  refine WS_det hF (by rfl) (y_neq (by rfl) (by rfl)) ?_
  refine WS_nil ?_
  refine Then_normal ?_
  refine W_cond (by rfl) (fun c2 => ?_) (fun c2 => ?_)
  ·
    try simp only [Bool.not_eq_true', Bool.not_eq_false', decide_eq_true_eq, decide_eq_false_iff_not, ne_eq, Classical.not_not, Int.not_lt, Int.not_le] at c2
    refine W_seq ?_
    refine W_region_lit (fun ds => ?_)
    refine WS_det hF (by rfl) (y_buildL bd26 (by rfl)) ?_
    refine WS_det hF (by rfl) (y_move (c := .int .i64 _) (by rfl)) ?_
    refine WS_store hF (i := 0) (by rfl) (by rfl) Try.sizeOf26 (by rfl) (by rfl) (by rfl) (by first | decide | exact Nat.le_of_ble_eq_true rfl | simp) ?_
    refine WS_det hF (by rfl) (y_assign (c := .int .i64 _) (by rfl)) ?_
    refine WS_nil ?_
    refine Then_normal ?_
    refine W_ret ?_
    refine Then_ret ?_
    refine Fin_ret [_, .int .i64 _] [] Try.results52 ⟨lvN (by rfl) Try.isAgg26 Try.sizeOf26 (Mem.own (us := [.int .i64 _, .int .i64 _]) 0 (by rfl) (by rfl)) (by rfl), by rfl, trivial⟩ HSub.nil ?_
    show Value.tuple _ = _
    unfold Lg.leakedV
    rw [if_neg c2]; rfl
  ·
    try simp only [Bool.not_eq_true', Bool.not_eq_false', decide_eq_true_eq, decide_eq_false_iff_not, ne_eq, Classical.not_not, Int.not_lt, Int.not_le] at c2
    have hok := l.ok_of (l.aerr0 c2).1
    have hne := (l.aerr0 c2).2
    have hB := l.holdsB_iff.2 hne
    have hfull := hok.tk.full_bd
    have hlb := hok.last_bd hne
    have hn12 := hok.n12
    have hn2 := hok.tk.n2
    refine W_skip ?_
    refine Then_normal ?_
    refine W_seq ?_
    refine W_region_lit (fun ds => ?_)
    refine WS_det hF (by rfl) (y_fieldAddr (by rfl) fa46_0) ?_
    refine WS_det hF (by rfl) (y_loadN (by rfl) Try.isAgg24 Try.sizeOf24 (Mem.own (us := [.slice _ _ _, .int .i64 _, .int .i64 _]) 1 (by rfl) (by rfl)) (by rfl)) ?_
    refine WS_det hF (by rfl) (y_callL (by rfl) (by rfl) Try.call56 (fun w hw => full_any l.tk a cap w hn (by omega) (hx.st w hw))) ?_
    refine WS_det hF (by rfl) (y_assign (c := .int .i64 _) (by rfl)) ?_
    refine WS_nil ?_
    refine Then_normal ?_
    refine W_seq ?_
    obtain ⟨F, hFu⟩ : ∃ F : Nat, l.tk.full = (F : Int) := Int.eq_ofNat_of_zero_le hfull.1
    have hF6 : F ≤ 600 := by omega
    have hst := Sn.inB_iff.1 hok.start
    rw [hFu]
    refine W_region_lit (fun ds => ?_)
    refine WS_det hF (by rfl) (y_callL (by rfl) (by rfl) Try.call115 (fun w hw => nothing_any w)) ?_
    refine WS_new hF (by rfl) (y_alloc zv146 (by rfl)) (fun b3 => ?_)
    refine WS_storeSn hF (i := 0) (by rfl) (by rfl) Try.sizeOf146 (by rfl) (by rfl) ?_
    refine WS_nil ?_
    refine Then_normal ?_
    refine W_seq ?_
    refine W_seq ?_
    refine W_region_lit (fun ds => ?_)
    refine WS_det hF (by rfl) (y_fieldAddr (by rfl) fa46_1) ?_
    refine WS_det hF (by rfl) (y_fieldAddr (by rfl) fa26_0) ?_
    refine WS_det hF (by rfl) (y_load1 (by rfl) Try.isAgg3 (Mem.own1 2 (by rfl) (by rfl))) ?_
    refine WS_det hF (by rfl) (y_assign (c := .int .i64 _) (by rfl)) ?_
    refine WS_nil ?_
    refine Then_normal ?_
    refine W_block ?_
    refine W_loop (γ := Nat) (fun c => c ≤ (l.start.hi - l.start.lo + 1).toNat) (fun c => [(1, .pointer (some ⟨b1, 0, none⟩)), (2, .pointer (some ⟨b2, 0, none⟩)), (5, .int .i64 (F : Int)), (6, .pointer (some ⟨b3, 0, none⟩)), (7, .int .i64 (l.start.lo + (c : Int)))]) (fun c => [(b3, CB (snRow (stS l.start.lo c) 601) 146), (b2, CB Sn.z.cells 26), (b1, CB [.slice a l.tk.n cap, .int .i64 l.tk.leak, .int .i64 l.tk.foot, .int .i64 l.start.lo, .int .i64 l.start.hi, .slice ae l.es.length cape] 46)]) (fun c => (l.start.hi - l.start.lo + 1).toNat - c) (0) (Nat.zero_le _) ((by repeat (first | exact trivial | refine ⟨by rfl, ?_⟩ | refine ⟨congrArg (Value.int _) (by first | omega | (simp only; omega) | (push_cast; omega)), ?_⟩))) ((by rw [show snRow (stS l.start.lo 0) 601 = snRow (fun _ => Sn.no) 601 from rowOf_congr _ fun j hj => if_neg (by omega)]; exact (by repeat (first | exact List.Sublist.refl _ | exact List.nil_sublist _ | apply List.Sublist.cons_cons | apply List.Sublist.cons)))) ?_
    intro c e hc
    refine W_seq ?_
    refine W_seq ?_
    refine W_region_lit (fun ds => ?_)
    refine WS_det hF (by rfl) (y_move (c := .int .i64 _) (by rfl)) ?_
    refine WS_det hF (by rfl) (y_fieldAddr (by rfl) fa46_1) ?_
    refine WS_det hF (by rfl) (y_fieldAddr (by rfl) fa26_1) ?_
    refine WS_det hF (by rfl) (y_load1 (by rfl) Try.isAgg3 (Mem.own1 2 (by rfl) (by rfl))) ?_
    refine WS_det hF (by rfl) (y_leq (by rfl) (by rfl)) ?_
    refine WS_nil ?_
    refine Then_normal ?_
    refine W_cond (by rfl) (fun c7 => ?_) (fun c7 => ?_)
    ·
      try simp only [Bool.not_eq_true', Bool.not_eq_false', decide_eq_true_eq, decide_eq_false_iff_not, ne_eq, Classical.not_not, Int.not_lt, Int.not_le] at c7
      obtain ⟨v, hv⟩ : ∃ v : Nat, l.start.lo + (c : Int) = (v : Int) := Int.eq_ofNat_of_zero_le (by omega)
      have hst2 := stS_step (F := F) hv (by omega)
      refine W_skip ?_
      refine Then_normal ?_
      refine W_seq ?_
      refine W_block ?_
      refine W_region_lit (fun ds => ?_)
      refine WS_det hF (by rfl) (y_move (c := .int .i64 _) (by rfl)) ?_
      refine WS_det hF (by rfl) (y_buildL bd26 (by rfl)) ?_
      refine WS_det hF (by rfl) (y_indexA (k := v) (by rfl) (by rfl) (by first | rfl | omega) (by first | decide | omega) Try.runUnderlying146 Try.sizeOf26) ?_
      refine WS_store hF (i := 0) (by rfl) (by rfl) Try.sizeOf26 (by rfl) (by rfl) (by rfl) (by show 0 + v * 2 + 2 ≤ (snRow (stS l.start.lo c) 601).length; unfold snRow; rw [rowOf_len sn_len]; omega) ?_
      refine WS_nil ?_
      refine InB_normal ?_
      refine Then_normal ?_
      refine W_region_lit (fun ds => ?_)
      refine WS_det hF (by rfl) (y_move (c := .int .i64 _) (by rfl)) ?_
      refine WS_det hF (by rfl) (y_add (by rfl) (by rfl) (by unfold I64; omega)) ?_
      refine WS_det hF (by rfl) (y_assign (c := .int .i64 _) (by rfl)) ?_
      refine WS_nil ?_
      exact Loop_next (c + 1) (by omega) (by repeat (first | exact trivial | refine ⟨by rfl, ?_⟩ | refine ⟨congrArg (Value.int _) (by first | omega | (simp only; omega) | (push_cast; omega)), ?_⟩)) (by rw [← hst2]; exact (by repeat (first | exact List.Sublist.refl _ | exact List.nil_sublist _ | apply List.Sublist.cons_cons | apply List.Sublist.cons))) (by omega)
    ·
      try simp only [Bool.not_eq_true', Bool.not_eq_false', decide_eq_true_eq, decide_eq_false_iff_not, ne_eq, Classical.not_not, Int.not_lt, Int.not_le] at c7
      refine W_exit ?_
      refine Then_exit ?_
      refine Loop_exit ?_
      refine InB_same ?_
      refine Then_normal ?_
      refine W_seq ?_
      refine W_seq ?_
      have hc2 : snRow (stS l.start.lo c) 601 = snRow (l.sumK F 0) 601 := rowOf_congr _ fun j hj => by
        show stS _ _ _ = l.sum0 j
        unfold stS Lg.sum0
        by_cases h1 : l.start.lo ≤ (j : Int) ∧ (j : Int) ≤ l.start.hi
        · rw [if_pos h1, if_pos (by omega)]
        · rw [if_neg h1, if_neg (by omega)]
      refine W_region_lit (fun ds => ?_)
      refine WS_det hF (by rfl) (y_assign (c := .int .i64 _) (by rfl)) ?_
      refine WS_nil ?_
      refine Then_normal ?_
      refine W_block ?_
      refine W_loop (γ := Nat) (fun k => k ≤ l.es.length) (fun k => [(1, .pointer (some ⟨b1, 0, none⟩)), (2, .pointer (some ⟨b2, 0, none⟩)), (5, .int .i64 (F : Int)), (6, .pointer (some ⟨b3, 0, none⟩)), (8, .int .i64 ((k : Int) + 1))]) (fun k => [(b3, CB (snRow (l.sumK F k) 601) 146), (b2, CB Sn.z.cells 26), (b1, CB [.slice a l.tk.n cap, .int .i64 l.tk.leak, .int .i64 l.tk.foot, .int .i64 l.start.lo, .int .i64 l.start.hi, .slice ae l.es.length cape] 46)]) (fun k => l.es.length - k) (0) (Nat.zero_le _) ((by repeat (first | exact trivial | refine ⟨by rfl, ?_⟩ | refine ⟨congrArg (Value.int _) (by first | omega | (simp only; omega) | (push_cast; omega)), ?_⟩))) ((by rw [← hc2]; exact (by repeat (first | exact List.Sublist.refl _ | exact List.nil_sublist _ | apply List.Sublist.cons_cons | apply List.Sublist.cons)))) ?_
      intro k e hk
      refine W_seq ?_
      refine W_seq ?_
      refine W_region_lit (fun ds => ?_)
      refine WS_det hF (by rfl) (y_move (c := .int .i64 _) (by rfl)) ?_
      refine WS_det hF (by rfl) (y_fieldAddr (by rfl) fa46_2) ?_
      refine WS_det hF (by rfl) (y_load1 (by rfl) Try.isAgg44 (Mem.own1 2 (by rfl) (by rfl))) ?_
      refine WS_det hF (by rfl) (y_len (by rfl) Try.runUnderlying44) ?_
      refine WS_det hF (by rfl) (y_leq (by rfl) (by rfl)) ?_
      refine WS_nil ?_
      refine Then_normal ?_
      refine W_cond (by rfl) (fun c11 => ?_) (fun c11 => ?_)
      ·
        try simp only [Bool.not_eq_true', Bool.not_eq_false', decide_eq_true_eq, decide_eq_false_iff_not, ne_eq, Classical.not_not, Int.not_lt, Int.not_le] at c11
        have hkn : k < l.es.length := by omega
        obtain ⟨b, o, rfl, hce⟩ := he.cell k hkn
        change At w b _ (l.e k).cells at hce
        have hdr := hok.drip_bd hkn
        have hkd := hok.kind k hkn
        have hsm := hok.sm hkn
        have hq := Sn.inB_iff.1 (hok.size k hkn)
        have hR := l.sumK_rep hok hF6 k (by omega)
        have hSb : ∀ v, v ≤ F → 0 ≤ (l.sumK F k v).lo ∧ (l.sumK F k v).lo ≤ 1000000 ∧ 0 ≤ (l.sumK F k v).hi ∧ (l.sumK F k v).hi ≤ 1000000 := fun v hv => (hR v hv).bd (by omega)
        have hR1 : ∀ v, v ≤ F → Rep (600 * (k : Int) + 600) (l.sum1 F k (l.sumK F k) v) (mv F (-l.drip k) 0 1 (l.bestK F 1 k) v) (mv F (-l.drip k) 0 (-1) (l.bestK F (-1) k) v) := fun v hv => l.sum1_rep hdr.1 hF6 (by omega) hR hv
        have hSb1 : ∀ v, v ≤ F → 0 ≤ (l.sum1 F k (l.sumK F k) v).lo ∧ (l.sum1 F k (l.sumK F k) v).lo ≤ 1000000 ∧ 0 ≤ (l.sum1 F k (l.sumK F k) v).hi ∧ (l.sum1 F k (l.sumK F k) v).hi ≤ 1000000 := fun v hv => (hR1 v hv).bd (by omega)
        have hmost : (l.e k).kind ≠ 3 → 0 ≤ (l.e k).size.lo ∧ (l.e k).size.lo ≤ (F : Int) ∧ 0 ≤ (l.e k).size.hi ∧ (l.e k).size.hi ≤ (F : Int) := fun h => by
          have := hq.2.2
          unfold Tk.most at this
          rw [if_neg h] at this
          omega
        refine W_skip ?_
        refine Then_normal ?_
        refine W_seq ?_
        refine W_block ?_
        refine W_seq ?_
        refine W_region_lit (fun ds => ?_)
        refine WS_det hF (by rfl) (y_fieldAddr (by rfl) fa46_2) ?_
        refine WS_det hF (by rfl) (y_load1 (by rfl) Try.isAgg44 (Mem.own1 2 (by rfl) (by rfl))) ?_
        refine WS_det hF (by rfl) (y_move (c := .int .i64 _) (by rfl)) ?_
        refine WS_det hF (by rfl) (y_sub (by rfl) (by rfl) (by unfold I64; omega)) ?_
        refine WS_det hF (by rfl) (y_index (k := k) (by rfl) (by rfl) (by first | rfl | omega) (by first | decide | omega) Try.runUnderlying44 Try.sizeOf48) ?_
        refine WS_det hF (by rfl) (y_loadN (by rfl) Try.isAgg48 Try.sizeOf48 (by first | exact Mem.old (by assumption) | exact Mem.oldAt (us := [.int .i64 _, .int .i64 _, .int .i64 _, .int .i64 _]) (by assumption) (by rfl) | exact Mem.oldAtL (us := [.int .i64 _, .int .i64 _, .int .i64 _, .int .i64 _]) (by assumption) (by rfl) (by rfl)) (by rfl)) ?_
        refine WS_new hF (by rfl) (y_alloc Try.zeroValue48 (by rfl)) (fun be => ?_)
        refine WS_store hF (i := 0) (by rfl) (by rfl) Try.sizeOf48 (by rfl) (by rfl) (by rfl) (by first | decide | exact Nat.le_of_ble_eq_true rfl | simp) ?_
        refine WS_nil ?_
        refine Then_normal ?_
        refine W_seq ?_
        refine W_seq ?_
        refine W_region_lit (fun ds => ?_)
        refine WS_det hF (by rfl) (y_move (c := .int .i64 _) (by rfl)) ?_
        refine WS_det hF (by rfl) (y_gtr (by rfl) (by rfl)) ?_
        refine WS_nil ?_
        refine Then_normal ?_
        refine W_cond (by rfl) (fun c14 => ?_) (fun c14 => ?_)
        ·
          try simp only [Bool.not_eq_true', Bool.not_eq_false', decide_eq_true_eq, decide_eq_false_iff_not, ne_eq, Classical.not_not, Int.not_lt, Int.not_le] at c14
          have hs1 : psO (l.sumK F k) F true (-(min (F : Int) (l.drip k))) 0 (F + 1) = l.sum1 F k (l.sumK F k) := by unfold Lg.sum1; rw [if_pos (by omega)]
          apply W_drawMT 10 hF Trymixed [] [] [] (by rfl) (by decide +kernel) (by decide) HSub.refl
          intro ds
          refine P_det (by rfl) (Over_nil (y_loadN (by rfl) Try.isAgg146 Try.sizeOf146 (Mem.whole 1 (by rfl)) (rowOf_len sn_len _ _))) ?_
          refine P_det (by rfl) (Over_nil (y_move (c := .int .i64 _) (by rfl))) ?_
          refine P_det (by rfl) (Over_nil (y_move (c := .int .i64 _) (by rfl))) ?_
          refine P_det (by rfl) (Over_nil (y_loadN (by rfl) Try.isAgg46 Try.sizeOf46 (Mem.own (us := [.slice _ _ _, .int .i64 _, .int .i64 _, .int .i64 _, .int .i64 _, .slice _ _ _]) 3 (by rfl) (by rfl)) (by rfl))) ?_
          refine P_det (by rfl) (Over_nil (y_move (c := .int .i64 _) (by rfl))) ?_
          refine P_det (by rfl) (Over_nil (y_sub (by rfl) (by rfl) (by unfold I64; omega))) ?_
          refine P_det (by rfl) (Over_nil (y_callL (by rfl) (by rfl) Try.call113 (fun w hw => leak_any l a cap _ cape k _ w hok hn (hx.st w hw) (he.st w hw) hkn (by omega) (by omega)))) ?_
          refine P_det (by rfl) (Over_nil (y_min (by rfl) (by rfl))) ?_
          refine P_det (by rfl) (Over_nil (y_neg (by rfl) (by unfold I64; omega))) ?_
          refine P_det (by rfl) (Over_nil (y_callL (by rfl) (by rfl) Try.call116 (fun w hw => passed_any (l.sumK F k) F (-(min (F : Int) (l.drip k))) 0 true w hF6 hSb (by omega) (by omega)))) ?_
          refine PW_end (by rfl) ?_
          refine OverAll_nil ?_
          rintro -
          refine WS_storeSn hF (i := 1) (by rfl) (by rfl) Try.sizeOf146 (by rfl) (by rfl) ?_
          refine WS_nil ?_
          refine Then_normal ?_
          refine W_seq ?_
          rw [show CB (snRow _ 601) 146 = CB (snRow (l.sum1 F k (l.sumK F k)) 601) 146 from congrArg (fun S => CB (snRow S 601) 146) hs1]
          refine W_region_lit (fun ds => ?_)
          refine WS_det hF (by rfl) (y_fieldAddr (by rfl) fa48_1) ?_
          refine WS_det hF (by rfl) (y_load1 (by rfl) Try.isAgg3 (Mem.own1 0 (by rfl) (by rfl))) ?_
          refine WS_nil ?_
          refine Then_normal ?_
          refine W_block ?_
          refine W_seq ?_
          refine W_region_lit (fun ds => ?_)
          refine WS_det hF (by rfl) (y_eql (by rfl) (by rfl)) ?_
          refine WS_det hF (by rfl) (y_assign (c := .bool _) (by rfl)) ?_
          refine WS_nil ?_
          refine Then_normal ?_
          refine W_cond (by rfl) (fun c23 => ?_) (fun c23 => ?_)
          ·
            try simp only [Bool.not_eq_true', Bool.not_eq_false', decide_eq_true_eq, decide_eq_false_iff_not, ne_eq, Classical.not_not, Int.not_lt, Int.not_le] at c23
            have hx1 : psO (l.sum1 F k (l.sumK F k)) F false (l.e k).size.lo (l.e k).size.hi (F + 1) = l.sumK F (k + 1) := by
              show _ = l.sum2 F k (l.sum1 F k (l.sumK F k))
              unfold Lg.sum2; rw [if_pos (by omega)]
            have hm := hmost (by omega)
            refine W_region_lit (fun ds => ?_)
            refine WS_det hF (by rfl) (y_loadN (by rfl) Try.isAgg146 Try.sizeOf146 (Mem.whole 1 (by rfl)) (rowOf_len sn_len _ _)) ?_
            refine WS_det hF (by rfl) (y_move (c := .int .i64 _) (by rfl)) ?_
            refine WS_det hF (by rfl) (y_fieldAddr (by rfl) fa48_2) ?_
            refine WS_det hF (by rfl) (y_fieldAddr (by rfl) fa26_0) ?_
            refine WS_det hF (by rfl) (y_load1 (by rfl) Try.isAgg3 (Mem.own1 0 (by rfl) (by rfl))) ?_
            refine WS_det hF (by rfl) (y_fieldAddr (by rfl) fa48_2) ?_
            refine WS_det hF (by rfl) (y_fieldAddr (by rfl) fa26_1) ?_
            refine WS_det hF (by rfl) (y_load1 (by rfl) Try.isAgg3 (Mem.own1 0 (by rfl) (by rfl))) ?_
            refine WS_det hF (by rfl) (y_callL (by rfl) (by rfl) Try.call116 (fun w hw => passed_any (l.sum1 F k (l.sumK F k)) F (l.e k).size.lo (l.e k).size.hi false w hF6 hSb1 (by omega) (by omega))) ?_
            refine WS_storeSn hF (i := 1) (by rfl) (by rfl) Try.sizeOf146 (by rfl) (by rfl) ?_
            refine WS_nil ?_
            refine InB_normal ?_
            refine InB_normal ?_
            refine Then_normal ?_
            refine W_region_lit (fun ds => ?_)
            refine WS_det hF (by rfl) (y_move (c := .int .i64 _) (by rfl)) ?_
            refine WS_det hF (by rfl) (y_add (by rfl) (by rfl) (by unfold I64; omega)) ?_
            refine WS_det hF (by rfl) (y_assign (c := .int .i64 _) (by rfl)) ?_
            refine WS_nil ?_
            exact Loop_next (k + 1) (by omega) (by repeat (first | exact trivial | refine ⟨by rfl, ?_⟩ | refine ⟨congrArg (Value.int _) (by first | omega | (simp only; omega) | (push_cast; omega)), ?_⟩)) (by rw [← hx1]; exact (by repeat (first | exact List.Sublist.refl _ | exact List.nil_sublist _ | apply List.Sublist.cons_cons | apply List.Sublist.cons))) (by omega)
          ·
            try simp only [Bool.not_eq_true', Bool.not_eq_false', decide_eq_true_eq, decide_eq_false_iff_not, ne_eq, Classical.not_not, Int.not_lt, Int.not_le] at c23
            refine W_seq ?_
            refine W_region_lit (fun ds => ?_)
            refine WS_det hF (by rfl) (y_eql (by rfl) (by rfl)) ?_
            refine WS_det hF (by rfl) (y_assign (c := .bool _) (by rfl)) ?_
            refine WS_nil ?_
            refine Then_normal ?_
            refine W_cond (by rfl) (fun c25 => ?_) (fun c25 => ?_)
            ·
              try simp only [Bool.not_eq_true', Bool.not_eq_false', decide_eq_true_eq, decide_eq_false_iff_not, ne_eq, Classical.not_not, Int.not_lt, Int.not_le] at c25
              have hx2 : psO (l.sum1 F k (l.sumK F k)) F false (-(l.e k).size.hi) (-(l.e k).size.lo) (F + 1) = l.sumK F (k + 1) := by
                show _ = l.sum2 F k (l.sum1 F k (l.sumK F k))
                unfold Lg.sum2; rw [if_neg (by omega), if_pos (by omega)]
              have hm := hmost (by omega)
              refine W_region_lit (fun ds => ?_)
              refine WS_det hF (by rfl) (y_loadN (by rfl) Try.isAgg146 Try.sizeOf146 (Mem.whole 1 (by rfl)) (rowOf_len sn_len _ _)) ?_
              refine WS_det hF (by rfl) (y_move (c := .int .i64 _) (by rfl)) ?_
              refine WS_det hF (by rfl) (y_fieldAddr (by rfl) fa48_2) ?_
              refine WS_det hF (by rfl) (y_fieldAddr (by rfl) fa26_1) ?_
              refine WS_det hF (by rfl) (y_load1 (by rfl) Try.isAgg3 (Mem.own1 0 (by rfl) (by rfl))) ?_
              refine WS_det hF (by rfl) (y_neg (by rfl) (by unfold I64; omega)) ?_
              refine WS_det hF (by rfl) (y_fieldAddr (by rfl) fa48_2) ?_
              refine WS_det hF (by rfl) (y_fieldAddr (by rfl) fa26_0) ?_
              refine WS_det hF (by rfl) (y_load1 (by rfl) Try.isAgg3 (Mem.own1 0 (by rfl) (by rfl))) ?_
              refine WS_det hF (by rfl) (y_neg (by rfl) (by unfold I64; omega)) ?_
              refine WS_det hF (by rfl) (y_callL (by rfl) (by rfl) Try.call116 (fun w hw => passed_any (l.sum1 F k (l.sumK F k)) F (-(l.e k).size.hi) (-(l.e k).size.lo) false w hF6 hSb1 (by omega) (by omega))) ?_
              refine WS_storeSn hF (i := 1) (by rfl) (by rfl) Try.sizeOf146 (by rfl) (by rfl) ?_
              refine WS_nil ?_
              refine InB_normal ?_
              refine InB_normal ?_
              refine Then_normal ?_
              refine W_region_lit (fun ds => ?_)
              refine WS_det hF (by rfl) (y_move (c := .int .i64 _) (by rfl)) ?_
              refine WS_det hF (by rfl) (y_add (by rfl) (by rfl) (by unfold I64; omega)) ?_
              refine WS_det hF (by rfl) (y_assign (c := .int .i64 _) (by rfl)) ?_
              refine WS_nil ?_
              exact Loop_next (k + 1) (by omega) (by repeat (first | exact trivial | refine ⟨by rfl, ?_⟩ | refine ⟨congrArg (Value.int _) (by first | omega | (simp only; omega) | (push_cast; omega)), ?_⟩)) (by rw [← hx2]; exact (by repeat (first | exact List.Sublist.refl _ | exact List.nil_sublist _ | apply List.Sublist.cons_cons | apply List.Sublist.cons))) (by omega)
            ·
              try simp only [Bool.not_eq_true', Bool.not_eq_false', decide_eq_true_eq, decide_eq_false_iff_not, ne_eq, Classical.not_not, Int.not_lt, Int.not_le] at c25
              have hk3 : (l.e k).kind = 3 := by omega
              have hq2 := hq
              unfold Tk.most at hq2
              rw [if_pos hk3] at hq2
              have hx3 : dpS (l.tk.dip (l.e k).size) (l.sum1 F k (l.sumK F k)) (F + 1) = l.sumK F (k + 1) := by
                show _ = l.sum2 F k (l.sum1 F k (l.sumK F k))
                unfold Lg.sum2; rw [if_neg (by omega), if_neg (by omega)]
              refine W_seq ?_
              refine W_region_lit (fun ds => ?_)
              refine WS_det hF (by rfl) (y_fieldAddr (by rfl) fa46_0) ?_
              refine WS_det hF (by rfl) (y_loadN (by rfl) Try.isAgg24 Try.sizeOf24 (Mem.own (us := [.slice _ _ _, .int .i64 _, .int .i64 _]) 3 (by rfl) (by rfl)) (by rfl)) ?_
              refine WS_det hF (by rfl) (y_fieldAddr (by rfl) fa48_2) ?_
              refine WS_det hF (by rfl) (y_loadN (by rfl) Try.isAgg26 Try.sizeOf26 (Mem.own (us := [.int .i64 _, .int .i64 _]) 0 (by rfl) (by rfl)) (by rfl)) ?_
              refine WS_det hF (by rfl) (y_callL (by rfl) (by rfl) Try.call76 (fun w hw => dipped_any l.tk a cap (l.e k).size.lo (l.e k).size.hi w hn (hx.st w hw) hok.tk hq2.1 (by omega) (by omega) hq2.2.2)) ?_
              refine WS_new hF (by rfl) (y_alloc Try.zeroValue26 (by rfl)) (fun bd => ?_)
              refine WS_store hF (i := 0) (by rfl) (by rfl) Try.sizeOf26 (by rfl) (by rfl) (by rfl) (by first | decide | exact Nat.le_of_ble_eq_true rfl | simp) ?_
              refine WS_nil ?_
              refine Then_normal ?_
              refine W_seq ?_
              refine W_region_lit (fun ds => ?_)
              refine WS_det hF (by rfl) (y_assign (c := .int .i64 _) (by rfl)) ?_
              refine WS_nil ?_
              refine Then_normal ?_
              refine W_block ?_
              refine W_loop (γ := Nat) (fun j => j ≤ F + 1) (fun j => [(1, .pointer (some ⟨b1, 0, none⟩)), (2, .pointer (some ⟨b2, 0, none⟩)), (5, .int .i64 (F : Int)), (6, .pointer (some ⟨b3, 0, none⟩)), (8, .int .i64 ((k : Int) + 1)), (10, .pointer (some ⟨bd, 0, none⟩)), (11, .int .i64 (j : Int))]) (fun j => [(bd, CB (l.tk.dip (l.e k).size).cells 26), (b3, CB (snRow (dpS (l.tk.dip (l.e k).size) (l.sum1 F k (l.sumK F k)) j) 601) 146), (b2, CB Sn.z.cells 26), (b1, CB [.slice a l.tk.n cap, .int .i64 l.tk.leak, .int .i64 l.tk.foot, .int .i64 l.start.lo, .int .i64 l.start.hi, .slice (some ⟨b, o, none⟩) l.es.length cape] 46)]) (fun j => F + 1 - j) (0) (Nat.zero_le _) ((by repeat (first | exact trivial | refine ⟨by rfl, ?_⟩ | refine ⟨congrArg (Value.int _) (by first | omega | (simp only; omega) | (push_cast; omega)), ?_⟩))) ((by rw [dpS_zero]; exact (by repeat (first | exact List.Sublist.refl _ | exact List.nil_sublist _ | apply List.Sublist.cons_cons | apply List.Sublist.cons)))) ?_
              intro j e hj
              refine W_seq ?_
              refine W_seq ?_
              refine W_region_lit (fun ds => ?_)
              refine WS_det hF (by rfl) (y_move (c := .int .i64 _) (by rfl)) ?_
              refine WS_det hF (by rfl) (y_move (c := .int .i64 _) (by rfl)) ?_
              refine WS_det hF (by rfl) (y_leq (by rfl) (by rfl)) ?_
              refine WS_nil ?_
              refine Then_normal ?_
              refine W_cond (by rfl) (fun c19 => ?_) (fun c19 => ?_)
              ·
                try simp only [Bool.not_eq_true', Bool.not_eq_false', decide_eq_true_eq, decide_eq_false_iff_not, ne_eq, Classical.not_not, Int.not_lt, Int.not_le] at c19
                refine W_skip ?_
                refine Then_normal ?_
                refine W_seq ?_
                refine W_block ?_
                refine W_seq ?_
                refine W_region_lit (fun ds => ?_)
                refine WS_det hF (by rfl) (y_move (c := .int .i64 _) (by rfl)) ?_
                refine WS_det hF (by rfl) (y_fieldAddr (by rfl) fa26_0) ?_
                refine WS_det hF (by rfl) (y_load1 (by rfl) Try.isAgg3 (Mem.own1 0 (by rfl) (by rfl))) ?_
                refine WS_det hF (by rfl) (y_fieldAddr (by rfl) fa26_1) ?_
                refine WS_det hF (by rfl) (y_load1 (by rfl) Try.isAgg3 (Mem.own1 0 (by rfl) (by rfl))) ?_
                refine WS_det hF (by rfl) (y_callL (by rfl) (by rfl) Try.call68 (fun w hw => within_any _ _ _ w)) ?_
                refine WS_det hF (by rfl) (y_not (by rfl)) ?_
                refine WS_nil ?_
                refine Then_normal ?_
                refine W_cond (by rfl) (fun c21 => ?_) (fun c21 => ?_)
                ·
                  try simp only [Bool.not_eq_true', Bool.not_eq_false', decide_eq_true_eq, decide_eq_false_iff_not, ne_eq, Classical.not_not, Int.not_lt, Int.not_le] at c21
                  refine W_region_lit (fun ds => ?_)
                  refine WS_det hF (by rfl) (y_move (c := .int .i64 _) (by rfl)) ?_
                  refine WS_det hF (by rfl) (y_buildL bd26_0_1 (by rfl)) ?_
                  refine WS_det hF (by rfl) (y_indexA (k := j) (by rfl) (by rfl) (by first | rfl | omega) (by first | decide | omega) Try.runUnderlying146 Try.sizeOf26) ?_
                  refine WS_store hF (i := 1) (by rfl) (by rfl) Try.sizeOf26 (by rfl) (by rfl) (by rfl) (by show 0 + j * 2 + 2 ≤ (snRow (dpS (l.tk.dip (l.e k).size) (l.sum1 F k (l.sumK F k)) j) 601).length; unfold snRow; rw [rowOf_len sn_len]; omega) ?_
                  refine WS_nil ?_
                  refine InB_normal ?_
                  refine Then_normal ?_
                  refine W_region_lit (fun ds => ?_)
                  refine WS_det hF (by rfl) (y_move (c := .int .i64 _) (by rfl)) ?_
                  refine WS_det hF (by rfl) (y_add (by rfl) (by rfl) (by unfold I64; omega)) ?_
                  refine WS_det hF (by rfl) (y_assign (c := .int .i64 _) (by rfl)) ?_
                  refine WS_nil ?_
                  exact Loop_next (j + 1) (by omega) (by repeat (first | exact trivial | refine ⟨by rfl, ?_⟩ | refine ⟨congrArg (Value.int _) (by first | omega | (simp only; omega) | (push_cast; omega)), ?_⟩)) (by rw [← dpS_no (show j < 601 by omega) c21]; exact (by repeat (first | exact List.Sublist.refl _ | exact List.nil_sublist _ | apply List.Sublist.cons_cons | apply List.Sublist.cons))) (by omega)
                ·
                  try simp only [Bool.not_eq_true', Bool.not_eq_false', decide_eq_true_eq, decide_eq_false_iff_not, ne_eq, Classical.not_not, Int.not_lt, Int.not_le] at c21
                  refine W_skip ?_
                  refine InB_normal ?_
                  refine Then_normal ?_
                  refine W_region_lit (fun ds => ?_)
                  refine WS_det hF (by rfl) (y_move (c := .int .i64 _) (by rfl)) ?_
                  refine WS_det hF (by rfl) (y_add (by rfl) (by rfl) (by unfold I64; omega)) ?_
                  refine WS_det hF (by rfl) (y_assign (c := .int .i64 _) (by rfl)) ?_
                  refine WS_nil ?_
                  exact Loop_next (j + 1) (by omega) (by repeat (first | exact trivial | refine ⟨by rfl, ?_⟩ | refine ⟨congrArg (Value.int _) (by first | omega | (simp only; omega) | (push_cast; omega)), ?_⟩)) (by rw [← dpS_yes c21]; exact (by repeat (first | exact List.Sublist.refl _ | exact List.nil_sublist _ | apply List.Sublist.cons_cons | apply List.Sublist.cons))) (by omega)
              ·
                try simp only [Bool.not_eq_true', Bool.not_eq_false', decide_eq_true_eq, decide_eq_false_iff_not, ne_eq, Classical.not_not, Int.not_lt, Int.not_le] at c19
                obtain rfl : j = F + 1 := by omega
                refine W_exit ?_
                refine Then_exit ?_
                refine Loop_exit ?_
                refine InB_same ?_
                refine InB_normal ?_
                refine InB_normal ?_
                refine Then_normal ?_
                refine W_region_lit (fun ds => ?_)
                refine WS_det hF (by rfl) (y_move (c := .int .i64 _) (by rfl)) ?_
                refine WS_det hF (by rfl) (y_add (by rfl) (by rfl) (by unfold I64; omega)) ?_
                refine WS_det hF (by rfl) (y_assign (c := .int .i64 _) (by rfl)) ?_
                refine WS_nil ?_
                exact Loop_next (k + 1) (by omega) (by repeat (first | exact trivial | refine ⟨by rfl, ?_⟩ | refine ⟨congrArg (Value.int _) (by first | omega | (simp only; omega) | (push_cast; omega)), ?_⟩)) (by rw [← hx3]; exact (by repeat (first | exact List.Sublist.refl _ | exact List.nil_sublist _ | apply List.Sublist.cons_cons | apply List.Sublist.cons))) (by omega)
        ·
          try simp only [Bool.not_eq_true', Bool.not_eq_false', decide_eq_true_eq, decide_eq_false_iff_not, ne_eq, Classical.not_not, Int.not_lt, Int.not_le] at c14
          have hs1 : l.sumK F k = l.sum1 F k (l.sumK F k) := by unfold Lg.sum1; rw [if_neg (by omega)]
          refine W_skip ?_
          refine Then_normal ?_
          refine W_seq ?_
          rw [show CB (snRow _ 601) 146 = CB (snRow (l.sum1 F k (l.sumK F k)) 601) 146 from congrArg (fun S => CB (snRow S 601) 146) hs1]
          refine W_region_lit (fun ds => ?_)
          refine WS_det hF (by rfl) (y_fieldAddr (by rfl) fa48_1) ?_
          refine WS_det hF (by rfl) (y_load1 (by rfl) Try.isAgg3 (Mem.own1 0 (by rfl) (by rfl))) ?_
          refine WS_nil ?_
          refine Then_normal ?_
          refine W_block ?_
          refine W_seq ?_
          refine W_region_lit (fun ds => ?_)
          refine WS_det hF (by rfl) (y_eql (by rfl) (by rfl)) ?_
          refine WS_det hF (by rfl) (y_assign (c := .bool _) (by rfl)) ?_
          refine WS_nil ?_
          refine Then_normal ?_
          refine W_cond (by rfl) (fun c23 => ?_) (fun c23 => ?_)
          ·
            try simp only [Bool.not_eq_true', Bool.not_eq_false', decide_eq_true_eq, decide_eq_false_iff_not, ne_eq, Classical.not_not, Int.not_lt, Int.not_le] at c23
            have hx1 : psO (l.sum1 F k (l.sumK F k)) F false (l.e k).size.lo (l.e k).size.hi (F + 1) = l.sumK F (k + 1) := by
              show _ = l.sum2 F k (l.sum1 F k (l.sumK F k))
              unfold Lg.sum2; rw [if_pos (by omega)]
            have hm := hmost (by omega)
            refine W_region_lit (fun ds => ?_)
            refine WS_det hF (by rfl) (y_loadN (by rfl) Try.isAgg146 Try.sizeOf146 (Mem.whole 1 (by rfl)) (rowOf_len sn_len _ _)) ?_
            refine WS_det hF (by rfl) (y_move (c := .int .i64 _) (by rfl)) ?_
            refine WS_det hF (by rfl) (y_fieldAddr (by rfl) fa48_2) ?_
            refine WS_det hF (by rfl) (y_fieldAddr (by rfl) fa26_0) ?_
            refine WS_det hF (by rfl) (y_load1 (by rfl) Try.isAgg3 (Mem.own1 0 (by rfl) (by rfl))) ?_
            refine WS_det hF (by rfl) (y_fieldAddr (by rfl) fa48_2) ?_
            refine WS_det hF (by rfl) (y_fieldAddr (by rfl) fa26_1) ?_
            refine WS_det hF (by rfl) (y_load1 (by rfl) Try.isAgg3 (Mem.own1 0 (by rfl) (by rfl))) ?_
            refine WS_det hF (by rfl) (y_callL (by rfl) (by rfl) Try.call116 (fun w hw => passed_any (l.sum1 F k (l.sumK F k)) F (l.e k).size.lo (l.e k).size.hi false w hF6 hSb1 (by omega) (by omega))) ?_
            refine WS_storeSn hF (i := 1) (by rfl) (by rfl) Try.sizeOf146 (by rfl) (by rfl) ?_
            refine WS_nil ?_
            refine InB_normal ?_
            refine InB_normal ?_
            refine Then_normal ?_
            refine W_region_lit (fun ds => ?_)
            refine WS_det hF (by rfl) (y_move (c := .int .i64 _) (by rfl)) ?_
            refine WS_det hF (by rfl) (y_add (by rfl) (by rfl) (by unfold I64; omega)) ?_
            refine WS_det hF (by rfl) (y_assign (c := .int .i64 _) (by rfl)) ?_
            refine WS_nil ?_
            exact Loop_next (k + 1) (by omega) (by repeat (first | exact trivial | refine ⟨by rfl, ?_⟩ | refine ⟨congrArg (Value.int _) (by first | omega | (simp only; omega) | (push_cast; omega)), ?_⟩)) (by rw [← hx1]; exact (by repeat (first | exact List.Sublist.refl _ | exact List.nil_sublist _ | apply List.Sublist.cons_cons | apply List.Sublist.cons))) (by omega)
          ·
            try simp only [Bool.not_eq_true', Bool.not_eq_false', decide_eq_true_eq, decide_eq_false_iff_not, ne_eq, Classical.not_not, Int.not_lt, Int.not_le] at c23
            refine W_seq ?_
            refine W_region_lit (fun ds => ?_)
            refine WS_det hF (by rfl) (y_eql (by rfl) (by rfl)) ?_
            refine WS_det hF (by rfl) (y_assign (c := .bool _) (by rfl)) ?_
            refine WS_nil ?_
            refine Then_normal ?_
            refine W_cond (by rfl) (fun c25 => ?_) (fun c25 => ?_)
            ·
              try simp only [Bool.not_eq_true', Bool.not_eq_false', decide_eq_true_eq, decide_eq_false_iff_not, ne_eq, Classical.not_not, Int.not_lt, Int.not_le] at c25
              have hx2 : psO (l.sum1 F k (l.sumK F k)) F false (-(l.e k).size.hi) (-(l.e k).size.lo) (F + 1) = l.sumK F (k + 1) := by
                show _ = l.sum2 F k (l.sum1 F k (l.sumK F k))
                unfold Lg.sum2; rw [if_neg (by omega), if_pos (by omega)]
              have hm := hmost (by omega)
              refine W_region_lit (fun ds => ?_)
              refine WS_det hF (by rfl) (y_loadN (by rfl) Try.isAgg146 Try.sizeOf146 (Mem.whole 1 (by rfl)) (rowOf_len sn_len _ _)) ?_
              refine WS_det hF (by rfl) (y_move (c := .int .i64 _) (by rfl)) ?_
              refine WS_det hF (by rfl) (y_fieldAddr (by rfl) fa48_2) ?_
              refine WS_det hF (by rfl) (y_fieldAddr (by rfl) fa26_1) ?_
              refine WS_det hF (by rfl) (y_load1 (by rfl) Try.isAgg3 (Mem.own1 0 (by rfl) (by rfl))) ?_
              refine WS_det hF (by rfl) (y_neg (by rfl) (by unfold I64; omega)) ?_
              refine WS_det hF (by rfl) (y_fieldAddr (by rfl) fa48_2) ?_
              refine WS_det hF (by rfl) (y_fieldAddr (by rfl) fa26_0) ?_
              refine WS_det hF (by rfl) (y_load1 (by rfl) Try.isAgg3 (Mem.own1 0 (by rfl) (by rfl))) ?_
              refine WS_det hF (by rfl) (y_neg (by rfl) (by unfold I64; omega)) ?_
              refine WS_det hF (by rfl) (y_callL (by rfl) (by rfl) Try.call116 (fun w hw => passed_any (l.sum1 F k (l.sumK F k)) F (-(l.e k).size.hi) (-(l.e k).size.lo) false w hF6 hSb1 (by omega) (by omega))) ?_
              refine WS_storeSn hF (i := 1) (by rfl) (by rfl) Try.sizeOf146 (by rfl) (by rfl) ?_
              refine WS_nil ?_
              refine InB_normal ?_
              refine InB_normal ?_
              refine Then_normal ?_
              refine W_region_lit (fun ds => ?_)
              refine WS_det hF (by rfl) (y_move (c := .int .i64 _) (by rfl)) ?_
              refine WS_det hF (by rfl) (y_add (by rfl) (by rfl) (by unfold I64; omega)) ?_
              refine WS_det hF (by rfl) (y_assign (c := .int .i64 _) (by rfl)) ?_
              refine WS_nil ?_
              exact Loop_next (k + 1) (by omega) (by repeat (first | exact trivial | refine ⟨by rfl, ?_⟩ | refine ⟨congrArg (Value.int _) (by first | omega | (simp only; omega) | (push_cast; omega)), ?_⟩)) (by rw [← hx2]; exact (by repeat (first | exact List.Sublist.refl _ | exact List.nil_sublist _ | apply List.Sublist.cons_cons | apply List.Sublist.cons))) (by omega)
            ·
              try simp only [Bool.not_eq_true', Bool.not_eq_false', decide_eq_true_eq, decide_eq_false_iff_not, ne_eq, Classical.not_not, Int.not_lt, Int.not_le] at c25
              have hk3 : (l.e k).kind = 3 := by omega
              have hq2 := hq
              unfold Tk.most at hq2
              rw [if_pos hk3] at hq2
              have hx3 : dpS (l.tk.dip (l.e k).size) (l.sum1 F k (l.sumK F k)) (F + 1) = l.sumK F (k + 1) := by
                show _ = l.sum2 F k (l.sum1 F k (l.sumK F k))
                unfold Lg.sum2; rw [if_neg (by omega), if_neg (by omega)]
              refine W_seq ?_
              refine W_region_lit (fun ds => ?_)
              refine WS_det hF (by rfl) (y_fieldAddr (by rfl) fa46_0) ?_
              refine WS_det hF (by rfl) (y_loadN (by rfl) Try.isAgg24 Try.sizeOf24 (Mem.own (us := [.slice _ _ _, .int .i64 _, .int .i64 _]) 3 (by rfl) (by rfl)) (by rfl)) ?_
              refine WS_det hF (by rfl) (y_fieldAddr (by rfl) fa48_2) ?_
              refine WS_det hF (by rfl) (y_loadN (by rfl) Try.isAgg26 Try.sizeOf26 (Mem.own (us := [.int .i64 _, .int .i64 _]) 0 (by rfl) (by rfl)) (by rfl)) ?_
              refine WS_det hF (by rfl) (y_callL (by rfl) (by rfl) Try.call76 (fun w hw => dipped_any l.tk a cap (l.e k).size.lo (l.e k).size.hi w hn (hx.st w hw) hok.tk hq2.1 (by omega) (by omega) hq2.2.2)) ?_
              refine WS_new hF (by rfl) (y_alloc Try.zeroValue26 (by rfl)) (fun bd => ?_)
              refine WS_store hF (i := 0) (by rfl) (by rfl) Try.sizeOf26 (by rfl) (by rfl) (by rfl) (by first | decide | exact Nat.le_of_ble_eq_true rfl | simp) ?_
              refine WS_nil ?_
              refine Then_normal ?_
              refine W_seq ?_
              refine W_region_lit (fun ds => ?_)
              refine WS_det hF (by rfl) (y_assign (c := .int .i64 _) (by rfl)) ?_
              refine WS_nil ?_
              refine Then_normal ?_
              refine W_block ?_
              refine W_loop (γ := Nat) (fun j => j ≤ F + 1) (fun j => [(1, .pointer (some ⟨b1, 0, none⟩)), (2, .pointer (some ⟨b2, 0, none⟩)), (5, .int .i64 (F : Int)), (6, .pointer (some ⟨b3, 0, none⟩)), (8, .int .i64 ((k : Int) + 1)), (10, .pointer (some ⟨bd, 0, none⟩)), (11, .int .i64 (j : Int))]) (fun j => [(bd, CB (l.tk.dip (l.e k).size).cells 26), (b3, CB (snRow (dpS (l.tk.dip (l.e k).size) (l.sum1 F k (l.sumK F k)) j) 601) 146), (b2, CB Sn.z.cells 26), (b1, CB [.slice a l.tk.n cap, .int .i64 l.tk.leak, .int .i64 l.tk.foot, .int .i64 l.start.lo, .int .i64 l.start.hi, .slice (some ⟨b, o, none⟩) l.es.length cape] 46)]) (fun j => F + 1 - j) (0) (Nat.zero_le _) ((by repeat (first | exact trivial | refine ⟨by rfl, ?_⟩ | refine ⟨congrArg (Value.int _) (by first | omega | (simp only; omega) | (push_cast; omega)), ?_⟩))) ((by rw [dpS_zero]; exact (by repeat (first | exact List.Sublist.refl _ | exact List.nil_sublist _ | apply List.Sublist.cons_cons | apply List.Sublist.cons)))) ?_
              intro j e hj
              refine W_seq ?_
              refine W_seq ?_
              refine W_region_lit (fun ds => ?_)
              refine WS_det hF (by rfl) (y_move (c := .int .i64 _) (by rfl)) ?_
              refine WS_det hF (by rfl) (y_move (c := .int .i64 _) (by rfl)) ?_
              refine WS_det hF (by rfl) (y_leq (by rfl) (by rfl)) ?_
              refine WS_nil ?_
              refine Then_normal ?_
              refine W_cond (by rfl) (fun c19 => ?_) (fun c19 => ?_)
              ·
                try simp only [Bool.not_eq_true', Bool.not_eq_false', decide_eq_true_eq, decide_eq_false_iff_not, ne_eq, Classical.not_not, Int.not_lt, Int.not_le] at c19
                refine W_skip ?_
                refine Then_normal ?_
                refine W_seq ?_
                refine W_block ?_
                refine W_seq ?_
                refine W_region_lit (fun ds => ?_)
                refine WS_det hF (by rfl) (y_move (c := .int .i64 _) (by rfl)) ?_
                refine WS_det hF (by rfl) (y_fieldAddr (by rfl) fa26_0) ?_
                refine WS_det hF (by rfl) (y_load1 (by rfl) Try.isAgg3 (Mem.own1 0 (by rfl) (by rfl))) ?_
                refine WS_det hF (by rfl) (y_fieldAddr (by rfl) fa26_1) ?_
                refine WS_det hF (by rfl) (y_load1 (by rfl) Try.isAgg3 (Mem.own1 0 (by rfl) (by rfl))) ?_
                refine WS_det hF (by rfl) (y_callL (by rfl) (by rfl) Try.call68 (fun w hw => within_any _ _ _ w)) ?_
                refine WS_det hF (by rfl) (y_not (by rfl)) ?_
                refine WS_nil ?_
                refine Then_normal ?_
                refine W_cond (by rfl) (fun c21 => ?_) (fun c21 => ?_)
                ·
                  try simp only [Bool.not_eq_true', Bool.not_eq_false', decide_eq_true_eq, decide_eq_false_iff_not, ne_eq, Classical.not_not, Int.not_lt, Int.not_le] at c21
                  refine W_region_lit (fun ds => ?_)
                  refine WS_det hF (by rfl) (y_move (c := .int .i64 _) (by rfl)) ?_
                  refine WS_det hF (by rfl) (y_buildL bd26_0_1 (by rfl)) ?_
                  refine WS_det hF (by rfl) (y_indexA (k := j) (by rfl) (by rfl) (by first | rfl | omega) (by first | decide | omega) Try.runUnderlying146 Try.sizeOf26) ?_
                  refine WS_store hF (i := 1) (by rfl) (by rfl) Try.sizeOf26 (by rfl) (by rfl) (by rfl) (by show 0 + j * 2 + 2 ≤ (snRow (dpS (l.tk.dip (l.e k).size) (l.sum1 F k (l.sumK F k)) j) 601).length; unfold snRow; rw [rowOf_len sn_len]; omega) ?_
                  refine WS_nil ?_
                  refine InB_normal ?_
                  refine Then_normal ?_
                  refine W_region_lit (fun ds => ?_)
                  refine WS_det hF (by rfl) (y_move (c := .int .i64 _) (by rfl)) ?_
                  refine WS_det hF (by rfl) (y_add (by rfl) (by rfl) (by unfold I64; omega)) ?_
                  refine WS_det hF (by rfl) (y_assign (c := .int .i64 _) (by rfl)) ?_
                  refine WS_nil ?_
                  exact Loop_next (j + 1) (by omega) (by repeat (first | exact trivial | refine ⟨by rfl, ?_⟩ | refine ⟨congrArg (Value.int _) (by first | omega | (simp only; omega) | (push_cast; omega)), ?_⟩)) (by rw [← dpS_no (show j < 601 by omega) c21]; exact (by repeat (first | exact List.Sublist.refl _ | exact List.nil_sublist _ | apply List.Sublist.cons_cons | apply List.Sublist.cons))) (by omega)
                ·
                  try simp only [Bool.not_eq_true', Bool.not_eq_false', decide_eq_true_eq, decide_eq_false_iff_not, ne_eq, Classical.not_not, Int.not_lt, Int.not_le] at c21
                  refine W_skip ?_
                  refine InB_normal ?_
                  refine Then_normal ?_
                  refine W_region_lit (fun ds => ?_)
                  refine WS_det hF (by rfl) (y_move (c := .int .i64 _) (by rfl)) ?_
                  refine WS_det hF (by rfl) (y_add (by rfl) (by rfl) (by unfold I64; omega)) ?_
                  refine WS_det hF (by rfl) (y_assign (c := .int .i64 _) (by rfl)) ?_
                  refine WS_nil ?_
                  exact Loop_next (j + 1) (by omega) (by repeat (first | exact trivial | refine ⟨by rfl, ?_⟩ | refine ⟨congrArg (Value.int _) (by first | omega | (simp only; omega) | (push_cast; omega)), ?_⟩)) (by rw [← dpS_yes c21]; exact (by repeat (first | exact List.Sublist.refl _ | exact List.nil_sublist _ | apply List.Sublist.cons_cons | apply List.Sublist.cons))) (by omega)
              ·
                try simp only [Bool.not_eq_true', Bool.not_eq_false', decide_eq_true_eq, decide_eq_false_iff_not, ne_eq, Classical.not_not, Int.not_lt, Int.not_le] at c19
                obtain rfl : j = F + 1 := by omega
                refine W_exit ?_
                refine Then_exit ?_
                refine Loop_exit ?_
                refine InB_same ?_
                refine InB_normal ?_
                refine InB_normal ?_
                refine Then_normal ?_
                refine W_region_lit (fun ds => ?_)
                refine WS_det hF (by rfl) (y_move (c := .int .i64 _) (by rfl)) ?_
                refine WS_det hF (by rfl) (y_add (by rfl) (by rfl) (by unfold I64; omega)) ?_
                refine WS_det hF (by rfl) (y_assign (c := .int .i64 _) (by rfl)) ?_
                refine WS_nil ?_
                exact Loop_next (k + 1) (by omega) (by repeat (first | exact trivial | refine ⟨by rfl, ?_⟩ | refine ⟨congrArg (Value.int _) (by first | omega | (simp only; omega) | (push_cast; omega)), ?_⟩)) (by rw [← hx3]; exact (by repeat (first | exact List.Sublist.refl _ | exact List.nil_sublist _ | apply List.Sublist.cons_cons | apply List.Sublist.cons))) (by omega)
      ·
        try simp only [Bool.not_eq_true', Bool.not_eq_false', decide_eq_true_eq, decide_eq_false_iff_not, ne_eq, Classical.not_not, Int.not_lt, Int.not_le] at c11
        refine W_exit ?_
        refine Then_exit ?_
        refine Loop_exit ?_
        refine InB_same ?_
        refine Then_normal ?_
        refine W_seq ?_
        obtain rfl : k = l.es.length := by omega
        refine W_region_lit (fun ds => ?_)
        refine WS_det hF (by rfl) (y_buildL bd26_0_1 (by rfl)) ?_
        refine WS_new hF (by rfl) (y_alloc Try.zeroValue26 (by rfl)) (fun bo => ?_)
        refine WS_store hF (i := 0) (by rfl) (by rfl) Try.sizeOf26 (by rfl) (by rfl) (by rfl) (by first | decide | exact Nat.le_of_ble_eq_true rfl | simp) ?_
        refine WS_nil ?_
        refine Then_normal ?_
        refine W_seq ?_
        refine W_seq ?_
        refine W_region_lit (fun ds => ?_)
        refine WS_det hF (by rfl) (y_assign (c := .int .i64 _) (by rfl)) ?_
        refine WS_nil ?_
        refine Then_normal ?_
        refine W_block ?_
        refine W_loop (γ := Nat) (fun j => j ≤ F + 1) (fun j => [(1, .pointer (some ⟨b1, 0, none⟩)), (2, .pointer (some ⟨b2, 0, none⟩)), (5, .int .i64 (F : Int)), (6, .pointer (some ⟨b3, 0, none⟩)), (12, .pointer (some ⟨bo, 0, none⟩)), (13, .int .i64 (j : Int))]) (fun j => [(bo, CB (outS (l.sumK F l.es.length) j).cells 26), (b3, CB (snRow (l.sumK F l.es.length) 601) 146), (b2, CB Sn.z.cells 26)]) (fun j => F + 1 - j) (0) (Nat.zero_le _) ((by repeat (first | exact trivial | refine ⟨by rfl, ?_⟩ | refine ⟨congrArg (Value.int _) (by first | omega | (simp only; omega) | (push_cast; omega)), ?_⟩))) ((by repeat (first | exact List.Sublist.refl _ | exact List.nil_sublist _ | apply List.Sublist.cons_cons | apply List.Sublist.cons))) ?_
        intro j e hj
        refine W_seq ?_
        refine W_seq ?_
        refine W_region_lit (fun ds => ?_)
        refine WS_det hF (by rfl) (y_move (c := .int .i64 _) (by rfl)) ?_
        refine WS_det hF (by rfl) (y_move (c := .int .i64 _) (by rfl)) ?_
        refine WS_det hF (by rfl) (y_leq (by rfl) (by rfl)) ?_
        refine WS_nil ?_
        refine Then_normal ?_
        refine W_cond (by rfl) (fun c29 => ?_) (fun c29 => ?_)
        ·
          try simp only [Bool.not_eq_true', Bool.not_eq_false', decide_eq_true_eq, decide_eq_false_iff_not, ne_eq, Classical.not_not, Int.not_lt, Int.not_le] at c29
          refine W_skip ?_
          refine Then_normal ?_
          refine W_seq ?_
          refine W_block ?_
          refine W_seq ?_
          refine W_region_lit (fun ds => ?_)
          refine WS_det hF (by rfl) (y_move (c := .int .i64 _) (by rfl)) ?_
          refine WS_det hF (by rfl) (y_indexA (k := j) (by rfl) (by rfl) (by first | rfl | omega) (by first | decide | omega) Try.runUnderlying146 Try.sizeOf26) ?_
          refine WS_det hF (by rfl) (y_loadN (by rfl) Try.isAgg26 Try.sizeOf26 (Mem.row sn_len 1 (by rfl) (k := j) (by omega) rfl (by omega)) (by rfl)) ?_
          refine WS_det hF (by rfl) (y_callL (by rfl) (by rfl) Try.call117 (fun w hw => none_any _ _ w)) ?_
          refine WS_det hF (by rfl) (y_not (by rfl)) ?_
          refine WS_nil ?_
          refine Then_normal ?_
          refine W_cond (by rfl) (fun c31 => ?_) (fun c31 => ?_)
          ·
            try simp only [Bool.not_eq_true', Bool.not_eq_false', decide_eq_true_eq, decide_eq_false_iff_not, ne_eq, Classical.not_not, Int.not_lt, Int.not_le] at c31
            have ho1 : outS (l.sumK F l.es.length) (j + 1) = (outS (l.sumK F l.es.length) j).wth (l.sumK F l.es.length j) := if_neg (by omega)
            apply W_drawMT 5 hF Trymixed [] [] [] (by rfl) (by decide +kernel) (by decide) HSub.refl
            intro ds
            refine P_det (by rfl) (Over_nil (y_loadN (by rfl) Try.isAgg26 Try.sizeOf26 (Mem.own (us := [.int .i64 _, .int .i64 _]) 0 (by rfl) (by rfl)) (by rfl))) ?_
            refine P_det (by rfl) (Over_nil (y_move (c := .int .i64 _) (by rfl))) ?_
            refine P_det (by rfl) (Over_nil (y_indexA (k := j) (by rfl) (by rfl) (by first | rfl | omega) (by first | decide | omega) Try.runUnderlying146 Try.sizeOf26)) ?_
            refine P_det (by rfl) (Over_nil (y_loadN (by rfl) Try.isAgg26 Try.sizeOf26 (Mem.row sn_len 1 (by rfl) (k := j) (by omega) rfl (by omega)) (by rfl))) ?_
            refine P_det (by rfl) (Over_nil (y_callL (by rfl) (by rfl) Try.call118 (fun w hw => with_any (outS (l.sumK F l.es.length) j) (l.sumK F l.es.length j) w))) ?_
            refine PW_end (by rfl) ?_
            refine OverAll_nil ?_
            rintro -
            refine WS_store hF (i := 0) (by rfl) (by rfl) Try.sizeOf26 (by rfl) (by rfl) (by rfl) (by first | decide | exact Nat.le_of_ble_eq_true rfl | simp) ?_
            refine WS_nil ?_
            refine InB_normal ?_
            refine Then_normal ?_
            refine W_region_lit (fun ds => ?_)
            refine WS_det hF (by rfl) (y_move (c := .int .i64 _) (by rfl)) ?_
            refine WS_det hF (by rfl) (y_add (by rfl) (by rfl) (by unfold I64; omega)) ?_
            refine WS_det hF (by rfl) (y_assign (c := .int .i64 _) (by rfl)) ?_
            refine WS_nil ?_
            exact Loop_next (j + 1) (by omega) (by repeat (first | exact trivial | refine ⟨by rfl, ?_⟩ | refine ⟨congrArg (Value.int _) (by first | omega | (simp only; omega) | (push_cast; omega)), ?_⟩)) (by rw [ho1]; exact (by repeat (first | exact List.Sublist.refl _ | exact List.nil_sublist _ | apply List.Sublist.cons_cons | apply List.Sublist.cons))) (by omega)
          ·
            try simp only [Bool.not_eq_true', Bool.not_eq_false', decide_eq_true_eq, decide_eq_false_iff_not, ne_eq, Classical.not_not, Int.not_lt, Int.not_le] at c31
            have ho2 : outS (l.sumK F l.es.length) (j + 1) = outS (l.sumK F l.es.length) j := if_pos (by omega)
            refine W_skip ?_
            refine InB_normal ?_
            refine Then_normal ?_
            refine W_region_lit (fun ds => ?_)
            refine WS_det hF (by rfl) (y_move (c := .int .i64 _) (by rfl)) ?_
            refine WS_det hF (by rfl) (y_add (by rfl) (by rfl) (by unfold I64; omega)) ?_
            refine WS_det hF (by rfl) (y_assign (c := .int .i64 _) (by rfl)) ?_
            refine WS_nil ?_
            exact Loop_next (j + 1) (by omega) (by repeat (first | exact trivial | refine ⟨by rfl, ?_⟩ | refine ⟨congrArg (Value.int _) (by first | omega | (simp only; omega) | (push_cast; omega)), ?_⟩)) (by rw [ho2]; exact (by repeat (first | exact List.Sublist.refl _ | exact List.nil_sublist _ | apply List.Sublist.cons_cons | apply List.Sublist.cons))) (by omega)
        ·
          try simp only [Bool.not_eq_true', Bool.not_eq_false', decide_eq_true_eq, decide_eq_false_iff_not, ne_eq, Classical.not_not, Int.not_lt, Int.not_le] at c29
          refine W_exit ?_
          refine Then_exit ?_
          refine Loop_exit ?_
          refine InB_same ?_
          refine Then_normal ?_
          refine W_seq ?_
          refine W_region_lit (fun ds => ?_)
          refine WS_det hF (by rfl) (y_loadN (by rfl) Try.isAgg26 Try.sizeOf26 (Mem.own (us := [.int .i64 _, .int .i64 _]) 0 (by rfl) (by rfl)) (by rfl)) ?_
          refine WS_store hF (i := 2) (by rfl) (by rfl) Try.sizeOf26 (by rfl) (by rfl) (by rfl) (by first | decide | exact Nat.le_of_ble_eq_true rfl | simp) ?_
          refine WS_det hF (by rfl) (y_assign (c := .int .i64 _) (by rfl)) ?_
          refine WS_nil ?_
          refine Then_normal ?_
          refine W_ret ?_
          refine Fin_ret [_, .int .i64 _] [] Try.results52 ⟨lvN (by rfl) Try.isAgg26 Try.sizeOf26 (Mem.own (us := [.int .i64 _, .int .i64 _]) 2 (by rfl) (by rfl)) (by rfl), by rfl, trivial⟩ HSub.nil ?_
          obtain rfl : j = F + 1 := by omega
          show Value.tuple _ = _
          unfold Lg.leakedV
          rw [if_pos c2, l.out_eq hok hne hF6 hFu]; rfl
end Go.Proofs.Ythkimgfgpphgnaa.T

/- Maps whose keys are integers, as lists of entries. No project text. -/
namespace Go.Eng
open Go.RowKit
/-- A key, its value, and when it was born. -/
abbrev Ent := Int × Value × Nat
def mEnt (x : Ent) : MapEntry := { key := .int .i64 x.1, val := x.2.1, born := x.2.2 }
def MO (l : List Ent) (clock : Nat) : Obj := .map (l.map mEnt).toArray clock
def hasK (k : Int) (x : Ent) : Bool := x.1 == k
section
variable {C : Ctx} {F : Fence} {n : Nat} {ds : List Deferred} {all : Array Oper} {Q : Exit → Env → List Blk → Prop} {rest : List Oper} {e : Env} {H : List Blk}
variable {d : Option Tmp} {ty : TypeId} {pos : String} {af : Array Edge} {g : Option (Nat × Bool)}
def NewMap (v : Value) (Hn : List Blk) : Prop := ∃ b, v = .map (some b) ∧ Hn = [(b, MO [] 0)]
def lookV (z : Value) : Option Value → Value
  | some v => .tuple #[v, .bool true]
  | none => .tuple #[z, .bool false]
end
end Go.Eng

/- append onto a row that is the last of the blocks; a map's entry, as told. No project text. -/
namespace Go.Eng
open Go.RowKit
section
variable {C : Ctx} {F : Fence} {n : Nat} {ds : List Deferred} {all : Array Oper} {Q : Exit → Env → List Blk → Prop} {rest : List Oper} {e : Env} {H : List Blk}
variable {d : Option Tmp} {ty : TypeId} {pos : String} {af : Array Edge} {g : Option (Nat × Bool)}
end
end Go.Eng

/- A log without entries: the walk of without, and holds. -/
namespace Go.Proofs.Ythkimgfgpphgnaa.T
open Go.RowKit Go.Proofs Go.Eng
set_option maxRecDepth 100000
set_option linter.unusedVariables false
set_option linter.unusedSimpArgs false

def kpB (D : List Int) (i : Nat) : Bool := !(D.contains ((i : Int) + 1))
def kpK (D : List Int) (i : Nat) : List Nat := (List.range i).filter (kpB D)
/-- The log without the entries at some times. -/
def Lg.woK (l : Lg) (D : List Int) (i : Nat) : Lg := ⟨l.tk, l.start, (kpK D i).map l.e⟩
def Lg.wo (l : Lg) (D : List Int) : Lg := l.woK D l.es.length
def Lg.ent (l : Lg) (i : Nat) : Ent := ((i : Int) + 1, .agg (l.e i).cells.toArray, i)
theorem kpK_succ (D : List Int) (i : Nat) : kpK D (i + 1) = if kpB D i then kpK D i ++ [i] else kpK D i := by
  unfold kpK
  rw [List.range_succ, List.filter_append]
  by_cases h : kpB D i = true
  · rw [if_pos h]; simp [h]
  · rw [if_neg h]; simp [h]
theorem Row.rws {α : Type} {enc : α → List Value} {sz : Nat} {d : α} (hz : ∀ x, (enc x).length = sz) {C : Ctx} {H Hn : List Blk} {T : TypeId} {a : Option Addr} {n cap : Nat} {xs : List α} (h : Row T sz a n cap (rowOf enc (fun k => xs.getD k d) n) Hn) (hl : xs.length = n) (hs : Hn.Sublist H) (w : World) (hw : St C H w) : Rws enc sz d w a n cap xs := by
  rcases h with ⟨rfl, rfl, rfl, _, rfl⟩ | ⟨b, junk, rfl, rfl, h1, h2, h3⟩
  · rw [List.length_eq_zero_iff.1 hl]; exact Rws.nil _ _ _
  · refine ⟨hl, h3, fun k hk => ⟨b, 0, rfl, ?_⟩⟩
    exact Mem.rowJ (junk := junk) (k := k) (o := 0 + k * sz) hz 0 rfl hk rfl (Nat.zero_add _) w (hw.sub hs)
theorem Lg.woK_len (l : Lg) (D : List Int) (i : Nat) : (l.woK D i).es.length = (kpK D i).length := List.length_map _
theorem kpK_le (D : List Int) (i : Nat) : (kpK D i).length ≤ i := by
  have := List.length_filter_le (kpB D) (List.range i)
  rw [List.length_range] at this
  exact this
def WoV (l : Lg) (D : List Int) (g : Nat) (a : Option Addr) (cap : Nat) (v : Value) (Hn : List Blk) : Prop :=
  ∃ cb ae cape H2, v = .pointer (some ⟨cb, 0, none⟩) ∧ Hn = (cb, CB (bookCells g (l.wo D) a cap ae cape) 119) :: H2 ∧ Row 48 4 ae (l.wo D).es.length cape (rowOf En.cells (l.wo D).e (l.wo D).es.length) H2

end Go.Proofs.Ythkimgfgpphgnaa.T

/- Whether a log has a truth: the walk of holds. -/
namespace Go.Proofs.Ythkimgfgpphgnaa.T
open Go.RowKit Go.Proofs Go.Eng
set_option maxRecDepth 100000
set_option linter.unusedVariables false
set_option linter.unusedSimpArgs false



theorem kp_sorted {l : Lg} (h : l.Ok) (D : List Int) : ∀ i, i ≤ l.es.length → (∀ j, j < (l.woK D i).es.length → ∃ m, m < i ∧ (l.woK D i).e j = l.e m) ∧ ∀ j, j + 1 < (l.woK D i).es.length → ((l.woK D i).e j).day ≤ ((l.woK D i).e (j + 1)).day
  | 0, _ => ⟨fun j hj => by simp [Lg.woK, kpK] at hj, fun j hj => by simp [Lg.woK, kpK] at hj⟩
  | i + 1, hi => by
    obtain ⟨h1, h2⟩ := kp_sorted h D i (by omega)
    have hdm : ∀ a b, a ≤ b → b < l.es.length → (l.e a).day ≤ (l.e b).day := by
      intro a b hab
      induction b with
      | zero => intro _; obtain rfl : a = 0 := (by omega); exact Int.le_refl _
      | succ b ih =>
        intro hb
        by_cases hx : a = b + 1
        · subst hx; exact Int.le_refl _
        · exact Int.le_trans (ih (by omega) (by omega)) (h.mono b hb)
    by_cases hk : kpB D i = true
    · have hlen : (l.woK D (i + 1)).es.length = (l.woK D i).es.length + 1 := by rw [l.woK_len, l.woK_len, kpK_succ, if_pos hk, List.length_append]; rfl
      have he : ∀ j, j < (l.woK D i).es.length → (l.woK D (i + 1)).e j = (l.woK D i).e j := fun j hj => by
        rw [l.woK_len] at hj
        unfold Lg.woK Lg.e
        simp only
        rw [kpK_succ, if_pos hk, List.map_append]
        simp [List.getD_eq_getElem?_getD, List.getElem?_append_left, hj]
      have hl : (l.woK D (i + 1)).e (l.woK D i).es.length = l.e i := by
        rw [l.woK_len]
        unfold Lg.woK Lg.e
        simp only
        rw [kpK_succ, if_pos hk, List.map_append]
        simp [List.getD_eq_getElem?_getD]
      refine ⟨fun j hj => ?_, fun j hj => ?_⟩
      · by_cases hjl : j < (l.woK D i).es.length
        · obtain ⟨m, hm, hme⟩ := h1 j hjl
          exact ⟨m, by omega, (he j hjl).trans hme⟩
        · obtain rfl : j = (l.woK D i).es.length := by omega
          exact ⟨i, by omega, hl⟩
      · by_cases hjl : j + 1 < (l.woK D i).es.length
        · rw [he j (by omega), he (j + 1) hjl]; exact h2 j hjl
        · have hje : j + 1 = (l.woK D i).es.length := by omega
          obtain ⟨m, hm, hme⟩ := h1 j (by omega)
          rw [he j (by omega), hje, hl, hme]
          exact hdm m i (by omega) (by omega)
    · have hw : l.woK D (i + 1) = l.woK D i := by unfold Lg.woK; rw [kpK_succ, if_neg hk]
      rw [hw]
      exact ⟨fun j hj => by obtain ⟨m, hm, hme⟩ := h1 j hj; exact ⟨m, by omega, hme⟩, h2⟩
theorem Lg.Ok.wo {l : Lg} (h : l.Ok) (D : List Int) : (l.wo D).Ok := by
  obtain ⟨h1, h2⟩ := kp_sorted h D l.es.length (Nat.le_refl _)
  have hl := kpK_le D l.es.length
  have hn := h.n12
  refine ⟨h.tk, h.start, by show (l.woK D _).es.length ≤ 12; rw [l.woK_len]; omega, fun k hk => ?_, fun k hk => h2 k hk, fun k hk => ?_, fun k hk => ?_⟩
  · obtain ⟨m, hm, he⟩ := h1 k hk
    show 0 ≤ ((l.woK D _).e k).day ∧ _ ≤ _
    rw [show (l.wo D).e k = l.e m from he, he]; exact h.day m hm
  · obtain ⟨m, hm, he⟩ := h1 k hk
    rw [show (l.wo D).e k = l.e m from he]; exact h.kind m hm
  · obtain ⟨m, hm, he⟩ := h1 k hk
    rw [show (l.wo D).e k = l.e m from he]; exact h.size m hm
end Go.Proofs.Ythkimgfgpphgnaa.T

/- A region whose order is open, order by order: pure operations first, then the others as they are ready. No project text. -/
namespace Go.Eng
open Go.RowKit
section
variable {C : Ctx} {F : Fence} {n : Nat} {ds : List Deferred} {ops : Array Oper} {Q : Exit → Env → List Blk → Prop} {fuel : Nat} {listed : Array Bool} {e : Env} {H : List Blk}
def WA (C : Ctx) (F : Fence) (n : Nat) (ds : List Deferred) (ops : Array Oper) (Q : Exit → Env → List Blk → Prop) (fuel : Nat) (listed : Array Bool) (e : Env) (H : List Blk) : Prop :=
  ∀ w, St C H w → ∀ a, Rep n ds a e → wpAnyIn F 0 C.P .any ops (lift C n ds Q) fuel listed a w
/-- Only the normal end. -/
def OnlyQ (M : Env → List Blk → Prop) : Exit → Env → List Blk → Prop
  | .normal, e, H => M e H
  | _, _, _ => False
def Pure (P : Program) (e : Env) (o : Oper) (c : Value) : Prop := (∀ w, (execOp (ev e) o).run P w = .ok (.value c) w) ∧ ∀ w, o.about P w (ev e) = none
def NextQ (M : Env → List Blk → Prop) (N : Env → List Blk → Prop) : Exit → Env → List Blk → Prop
  | .normal, e, H => N e H
  | x, e, H => OnlyQ M x e H
end
end Go.Eng

/- Dips that must be false: the walks of the closures. -/
namespace Go.Proofs.Ythkimgfgpphgnaa.T
open Go.RowKit Go.Proofs Go.Eng
set_option maxRecDepth 100000
set_option linter.unusedVariables false
set_option linter.unusedSimpArgs false



section
variable {C : Ctx} {e : Env} {H : List Blk} {d : Option Tmp} {ty : TypeId} {pos : String} {af : Array Edge} {g : Option (Nat × Bool)}
end
theorem Row.ints {C : Ctx} {H Hn : List Blk} {T : TypeId} {a : Option Addr} {n cap : Nat} {xs : List Int} (h : Row T 1 a n cap (iv xs) Hn) (hl : xs.length = n) (hs : Hn.Sublist H) (w : World) (hw : St C H w) : Ints w a n cap xs := by
  rcases h with ⟨rfl, rfl, rfl, _, rfl⟩ | ⟨b, junk, rfl, rfl, h1, h2, h3⟩
  · rw [List.length_eq_zero_iff.1 hl]; exact Ints.nil _ _ _
  · exact Ints.mem (rest := junk) 0 rfl hl h3 w (hw.sub hs)
end Go.Proofs.Ythkimgfgpphgnaa.T

/- Scopes through which no jump goes; labels. No project text. -/
namespace Go.Eng
open Go.RowKit
section
variable {C : Ctx} {F : Fence} {n : Nat} {ds : List Deferred} {Q : Exit → Env → List Blk → Prop} {e : Env} {H : List Blk}
def NoG (Q : Exit → Env → List Blk → Prop) : Exit → Env → List Blk → Prop
  | .goto _, _, _ => False
  | x, e, H => Q x e H
end
end Go.Eng

/- Dips that must be false: the walk of strike. -/
namespace Go.Proofs.Ythkimgfgpphgnaa.T
open Go.RowKit Go.Proofs Go.Eng
set_option maxRecDepth 100000
set_option linter.unusedVariables false
set_option linter.unusedSimpArgs false



theorem Row.mem {C : Ctx} {H Hn : List Blk} {T : TypeId} {b o n cap k : Nat} {xs : List Int} (h : Row T 1 (some ⟨b, o, none⟩) n cap (iv xs) Hn) (hl : xs.length = n) (hs : Hn.Sublist H) (hk : k < n) : Mem C H b (o + k * 1) [.int .i64 (xs.getD k 0)] :=
  fun w hw => (Row.ints h hl hs w hw).at hk
def firstSome {β : Type} (f : Nat → Option β) (a : Nat) : Nat → Option β
  | 0 => none
  | n + 1 => match f a with
    | some r => some r
    | none => firstSome f (a + 1) n
def frD (D : List Int) : Nat := (D.getD (D.length - 1) 0).toNat
/-- The first list of so many dips more without which there is a truth. -/
def Lg.stk (l : Lg) : Nat → List Int → Option (List Int)
  | 0, D => if (l.wo D).holdsB then some D else none
  | m + 1, D => firstSome (fun i => if (l.e i).kind = 3 then l.stk m (D ++ [(i : Int) + 1]) else none) (frD D) (l.es.length - frD D)
def Lg.stkF (l : Lg) (m : Nat) (D : List Int) (i : Nat) : Option (List Int) := if (l.e i).kind = 3 then l.stk m (D ++ [(i : Int) + 1]) else none
def stkBase (pf pb bk g ps : Nat) (l : Lg) (a : Option Addr) (cap : Nat) (ae : Option Addr) (cape : Nat) (s : Value) (L : List Blk) : List Blk :=
  (pf, CB [s] 22) :: (pb, CB [.pointer (some ⟨bk, 0, none⟩)] 108) :: (bk, CB (bookCells g l a cap ae cape) 119) :: (g, CB (gaugeCells l.tk a cap) 98) :: (ps, CB [.func (.func 78) #[] #[.pointer (some ⟨pb, 0, none⟩), .pointer (some ⟨ps, 0, none⟩)]] 111) :: L
def StkV (base : Value → List Blk → List Blk) (r : Option (List Int)) (L : List Blk) (v : Value) (H' : List Blk) : Prop :=
  ∃ bb s L', v = .bool bb ∧ H' = base s L' ∧ (bb = true → r = none ∧ L' = L) ∧ (bb = false → ∃ R fa fn fcap Hf, r = some R ∧ s = .slice fa fn fcap ∧ Row 3 1 fa fn fcap (iv R) Hf ∧ R.length = fn ∧ Hf.Sublist L')
end Go.Proofs.Ythkimgfgpphgnaa.T

/- Dips that must be false; whether a log is valid: the walks. -/
namespace Go.Proofs.Ythkimgfgpphgnaa.T
open Go.RowKit Go.Proofs Go.Eng
set_option maxRecDepth 100000
set_option linter.unusedVariables false
set_option linter.unusedSimpArgs false



def Lg.wr (l : Lg) : Option (List Int) := firstSome (fun n => l.stk n []) 0 (l.es.length + 1)
def WrongV (l : Lg) (v : Value) (Hn : List Blk) : Prop :=
  (l.err ≠ 0 → v = .tuple #[.slice none 0 0, .int .i64 l.err] ∧ Hn = []) ∧
  (l.err = 0 → (∀ R, l.wr = some R → ∃ fa fn fcap, v = .tuple #[.slice fa fn fcap, .int .i64 0] ∧ Row 3 1 fa fn fcap (iv R) Hn ∧ R.length = fn) ∧ (l.wr = none → v = .tuple #[.slice none 0 0, .int .i64 6] ∧ Hn = []))
theorem valid_any (l : Lg) (a : Option Addr) (cap : Nat) (ae : Option Addr) (cape : Nat) (w : World) (hn : l.tk.n ≤ 1000000) (hx : Ints w a l.tk.n cap l.tk.pints) (he : Ens w ae l.es.length cape l.es) : Ct Try.prog 45 #[.agg #[.slice a l.tk.n cap, .int .i64 l.tk.leak, .int .i64 l.tk.foot, .int .i64 l.start.lo, .int .i64 l.start.hi, .slice ae l.es.length cape]] w fun v _ => v = .int .i64 l.err := by
  have hF := wide_wide
  refine Ct_start (args := [_]) Try.func45 (by rfl) Try.ntmps45 (by rfl) ?_
  refine W_seq ?_
  refine W_region_lit (fun ds => ?_)
  refine WS_new hF (by rfl) (y_box (by rfl)) (fun b1 => ?_)
  refine WS_det hF (by rfl) (y_assign (c := .int .i64 _) (by rfl)) ?_
  refine WS_nil ?_
  refine Then_normal ?_
  refine W_seq ?_
  refine W_region_lit (fun ds => ?_)
  refine WS_det hF (by rfl) (y_loadN (by rfl) Try.isAgg46 Try.sizeOf46 (Mem.own (us := [.slice _ _ _, .int .i64 _, .int .i64 _, .int .i64 _, .int .i64 _, .slice _ _ _]) 0 (by rfl) (by rfl)) (by rfl)) ?_
  refine WS_gen hF (by rfl) (y_callL (by rfl) (by rfl) Try.call77 (fun w hw => opened_any l a cap ae cape w hn (hx.st w hw) (he.st w hw))) ?_
  rintro _ Hg ⟨p, rfl, hg1, hg2⟩
  refine WS_det hF (by rfl) (y_move (c := .tuple _) (by rfl)) ?_
  refine WS_det hF (by rfl) (y_extract (c := .pointer _) (by rfl) (by rfl)) ?_
  refine WS_det hF (by rfl) (y_extract (c := .int .i64 _) (by rfl) (by rfl)) ?_
  refine WS_det hF (by rfl) (y_assign (c := .pointer _) (by rfl)) ?_
  refine WS_det hF (by rfl) (y_assign (c := .int .i64 _) (by rfl)) ?_
  refine WS_nil ?_
  refine Then_normal ?_
  refine W_seq ?_
  refine W_region_lit (fun ds => ?_)
  refine WS_det hF (by rfl) (y_move (c := .int .i64 _) (by rfl)) ?_
  refine WS_det hF (by rfl) (y_assign (c := .int .i64 _) (by rfl)) ?_
  refine WS_nil ?_
  refine Then_normal ?_
  refine W_ret ?_
  refine Fin_ret [.int .i64 _] [] Try.results45 ⟨by rfl, trivial⟩ HSub.nil ?_
  rfl
end Go.Proofs.Ythkimgfgpphgnaa.T

/- The law of what a tank holds, walked. -/
namespace Go.Proofs.Ythkimgfgpphgnaa.T
open Go.RowKit Go.Proofs Go.Eng
set_option maxRecDepth 100000
set_option maxHeartbeats 800000
set_option linter.unusedVariables false
set_option linter.unusedSimpArgs false



theorem Lg.holds_shape (l : Lg) (p : Int) : ∃ x y z, l.holdsV p = .tuple #[.agg #[.int .i64 x, .int .i64 y], .int .i64 z] := by
  unfold Lg.holdsV
  split <;> (try split) <;> exact ⟨_, _, _, rfl⟩
theorem Lg.moved_shape (l : Lg) (p : Int) : ∃ x y z, l.movedV p = .tuple #[.agg #[.int .i64 x, .int .i64 y], .int .i64 z] := by
  unfold Lg.movedV
  split <;> (try split) <;> exact ⟨_, _, _, rfl⟩
theorem Lg.lost_shape (l : Lg) (p : Int) : ∃ x y z, l.lostV p = .tuple #[.agg #[.int .i64 x, .int .i64 y], .int .i64 z] := by
  unfold Lg.lostV
  split <;> (try split) <;> exact ⟨_, _, _, rfl⟩
theorem Lg.leaked_shape (l : Lg) : ∃ x y z, l.leakedV = .tuple #[.agg #[.int .i64 x, .int .i64 y], .int .i64 z] := by
  unfold Lg.leakedV
  split <;> exact ⟨_, _, _, rfl⟩
def Lg.trs (l : Lg) : List Int := if l.aerr = 0 then (List.range (l.es.length + 1)).map l.tr else []
theorem Lg.trs_len (l : Lg) : l.trs.length ≤ 13 := by
  unfold Lg.trs
  split
  · rename_i h
    have := (l.ok_of (l.aerr0 h).1).n12
    rw [List.length_map, List.length_range]; omega
  · exact Nat.zero_le _
theorem truth_ints {l : Lg} {v : Value} {Hn : List Blk} (h : TruthV l v Hn) : ∃ a cap, v = .tuple #[.slice a l.trs.length cap, .int .i64 l.aerr] ∧ ∀ (C : Ctx) (H : List Blk) (w : World), Hn.Sublist H → St C H w → Ints w a l.trs.length cap l.trs := by
  by_cases h0 : l.aerr = 0
  · obtain ⟨tb, cap, junk, rfl, hc, rfl⟩ := h.2 h0
    have hl : l.trs = (List.range (l.es.length + 1)).map l.tr := if_pos h0
    have hn : l.trs.length = l.es.length + 1 := by rw [hl, List.length_map, List.length_range]
    rw [hn, h0]
    refine ⟨_, _, rfl, fun C H w hs hw => ⟨hn, hc, fun k hk => ⟨tb, 0, rfl, ?_⟩⟩⟩
    have hm : Mem C H tb (0 + k * 1) [.int .i64 (l.trs.getD k 0)] := fun w hw => by
      have e := Mem.iRowJ (C := C) (H := [(tb, CB (iRow l.tr (l.es.length + 1) ++ junk) 3)]) (f := l.tr) 0 (by rfl) hk (o := 0 + k * 1) (by omega)
      have g : l.trs.getD k 0 = l.tr k := by rw [hl]; simp [List.getD, hk]
      rw [g]
      exact e w (hw.sub hs)
    exact hm w hw
  · obtain ⟨rfl, rfl⟩ := h.1 h0
    have hl : l.trs = [] := if_neg h0
    rw [hl]
    exact ⟨_, _, rfl, fun C H w hs hw => ⟨rfl, Nat.le_refl _, fun k hk => absurd hk (by simp)⟩⟩
theorem tankHolds_any (l : Lg) (a : Option Addr) (cap : Nat) (ae : Option Addr) (cape : Nat) (p : Int) (w : World) (hx : Ints w a l.tk.n cap l.tk.pints) (he : Ens w ae l.es.length cape l.es) :
    Ct Try.prog 6 #[.agg #[.slice a l.tk.n cap, .int .i64 l.tk.leak, .int .i64 l.tk.foot, .int .i64 l.start.lo, .int .i64 l.start.hi, .slice ae l.es.length cape], .int .i64 p] w fun v _ => v = .bool true := by
  obtain ⟨v1, v2, v3, hv⟩ := l.holds_shape p
  obtain ⟨u1, u2, u3, hu⟩ := l.moved_shape p
  obtain ⟨r1, r2, r3, hr⟩ := l.lost_shape p
  obtain ⟨s1, s2, s3, hs⟩ := l.leaked_shape
  have htl := l.trs_len
  have hF := wide_wide
  refine Ct_start (args := [_, _]) Try.func6 (by rfl) Try.ntmps6 (by rfl) ?_
  refine W_seq ?_
  refine W_region_lit (fun ds => ?_)
  refine WS_new hF (by rfl) (y_box (by rfl)) (fun b1 => ?_)
  refine WS_det hF (by rfl) (y_assign (c := .bool _) (by rfl)) ?_
  refine WS_nil ?_
  refine Then_normal ?_
  refine W_seq ?_
  refine W_seq ?_
  refine W_region_lit (fun ds => ?_)
  refine WS_det hF (by rfl) (y_loadN (by rfl) Try.isAgg46 Try.sizeOf46 (Mem.own (us := [.slice _ _ _, .int .i64 _, .int .i64 _, .int .i64 _, .int .i64 _, .slice _ _ _]) 0 (by rfl) (by rfl)) (by rfl)) ?_
  refine WS_det hF (by rfl) (y_callL (by rfl) (by rfl) Try.call22 (fun w hw => great_any l a cap ae cape w)) ?_
  refine WS_nil ?_
  refine Then_normal ?_
  refine W_cond (by rfl) (fun c1 => ?_) (fun c1 => ?_)
  ·
    try simp only [Bool.not_eq_true', Bool.not_eq_false', decide_eq_true_eq, decide_eq_false_iff_not, ne_eq, Classical.not_not, Int.not_lt, Int.not_le] at c1
    refine W_seq ?_
    refine W_region_lit (fun ds => ?_)
    refine WS_det hF (by rfl) (y_assign (c := .bool _) (by rfl)) ?_
    refine WS_nil ?_
    refine Then_normal ?_
    refine W_ret ?_
    refine Then_ret ?_
    refine Fin_ret [.bool _] [] Try.results6 ⟨by rfl, trivial⟩ HSub.nil ?_
    rfl
  ·
    try simp only [Bool.not_eq_true', Bool.not_eq_false', decide_eq_true_eq, decide_eq_false_iff_not, ne_eq, Classical.not_not, Int.not_lt, Int.not_le] at c1
    simp only [Bool.or_eq_false_iff, decide_eq_false_iff_not] at c1
    have hn : l.tk.n ≤ 1000000 := by omega
    have hnes : l.es.length ≤ 1000000 := by omega
    refine W_skip ?_
    refine Then_normal ?_
    refine W_seq ?_
    refine W_region_lit (fun ds => ?_)
    refine WS_det hF (by rfl) (y_loadN (by rfl) Try.isAgg46 Try.sizeOf46 (Mem.own (us := [.slice _ _ _, .int .i64 _, .int .i64 _, .int .i64 _, .int .i64 _, .slice _ _ _]) 0 (by rfl) (by rfl)) (by rfl)) ?_
    refine WS_gen hF (by rfl) (y_callL (by rfl) (by rfl) Try.call23 (fun w hw => twin_any l a cap ae cape w hnes hn (hx.st w hw) (he.st w hw))) ?_
    rintro _ _ ⟨a', cap', ae', cape', H1, H2, rfl, hr1, hr2, rfl⟩
    refine WS_back ?_
    refine WS_new hF (by rfl) (y_alloc Try.zeroValue46 (by rfl)) (fun b2 => ?_)
    refine WS_store hF (i := 0) (by rfl) (by rfl) Try.sizeOf46 (by rfl) (by rfl) (by rfl) (by first | decide | exact Nat.le_of_ble_eq_true rfl | simp) ?_
    refine WS_nil ?_
    refine Then_normal ?_
    refine W_seq ?_
    refine W_region_lit (fun ds => ?_)
    refine WS_det hF (by rfl) (y_loadN (by rfl) Try.isAgg46 Try.sizeOf46 (Mem.own (us := [.slice _ _ _, .int .i64 _, .int .i64 _, .int .i64 _, .int .i64 _, .slice _ _ _]) 0 (by rfl) (by rfl)) (by rfl)) ?_
    refine WS_gen hF (by rfl) (y_callL (by rfl) (by rfl) Try.call41 (fun w hw => truth_any l a' cap' ae' cape' w hn (NewRow.ints hr1 hx.len (by repeat (first | exact List.Sublist.refl _ | exact List.sublist_append_left _ _ | exact List.nil_sublist _ | apply List.Sublist.cons_cons | apply List.Sublist.cons | refine List.Sublist.trans ?_ (List.sublist_append_right _ _))) w hw) (NewRow.rws en_len hr2 he.len (by repeat (first | exact List.Sublist.refl _ | exact List.sublist_append_left _ _ | exact List.nil_sublist _ | apply List.Sublist.cons_cons | apply List.Sublist.cons | refine List.Sublist.trans ?_ (List.sublist_append_right _ _))) w hw))) ?_
    rintro _ Ha hTa
    obtain ⟨ta, tcap, rfl, hta⟩ := truth_ints hTa
    refine WS_back ?_
    refine WS_det hF (by rfl) (y_move (c := .tuple _) (by rfl)) ?_
    refine WS_det hF (by rfl) (y_extract (c := .slice _ _ _) (by rfl) (by rfl)) ?_
    refine WS_det hF (by rfl) (y_extract (c := .int .i64 _) (by rfl) (by rfl)) ?_
    refine WS_det hF (by rfl) (y_assign (c := .slice _ _ _) (by rfl)) ?_
    refine WS_det hF (by rfl) (y_assign (c := .int .i64 _) (by rfl)) ?_
    refine WS_nil ?_
    refine Then_normal ?_
    refine W_seq ?_
    refine W_region_lit (fun ds => ?_)
    refine WS_det hF (by rfl) (y_loadN (by rfl) Try.isAgg46 Try.sizeOf46 (Mem.own (us := [.slice _ _ _, .int .i64 _, .int .i64 _, .int .i64 _, .int .i64 _, .slice _ _ _]) 1 (by rfl) (by rfl)) (by rfl)) ?_
    refine WS_gen hF (by rfl) (y_callL (by rfl) (by rfl) Try.call42 (fun w hw => rtruth_any l a cap ae cape w hn (hx.st w hw) (he.st w hw))) ?_
    rintro _ Hb hTb
    obtain ⟨tb, tcap2, rfl, htb⟩ := truth_ints hTb
    refine WS_back ?_
    refine WS_det hF (by rfl) (y_move (c := .tuple _) (by rfl)) ?_
    refine WS_det hF (by rfl) (y_extract (c := .slice _ _ _) (by rfl) (by rfl)) ?_
    refine WS_det hF (by rfl) (y_extract (c := .int .i64 _) (by rfl) (by rfl)) ?_
    refine WS_det hF (by rfl) (y_assign (c := .slice _ _ _) (by rfl)) ?_
    refine WS_det hF (by rfl) (y_assign (c := .int .i64 _) (by rfl)) ?_
    refine WS_nil ?_
    refine Then_normal ?_
    refine W_seq ?_
    refine W_region_lit (fun ds => ?_)
    refine WS_det hF (by rfl) (y_loadN (by rfl) Try.isAgg46 Try.sizeOf46 (Mem.own (us := [.slice _ _ _, .int .i64 _, .int .i64 _, .int .i64 _, .int .i64 _, .slice _ _ _]) 0 (by rfl) (by rfl)) (by rfl)) ?_
    refine WS_det hF (by rfl) (y_move (c := .int .i64 _) (by rfl)) ?_
    refine WS_det hF (by rfl) (y_callL (by rfl) (by rfl) Try.call43 (fun w hw => Ct_eq (holds_any l a' cap' ae' cape' p w hn (NewRow.ints hr1 hx.len (by (repeat apply List.Sublist.cons); refine List.Sublist.trans ?_ (List.sublist_append_left _ _); refine List.Sublist.trans ?_ (List.sublist_append_left _ _); first | exact List.sublist_append_left _ _ | exact List.sublist_append_right _ _) w hw) (NewRow.rws en_len hr2 he.len (by (repeat apply List.Sublist.cons); refine List.Sublist.trans ?_ (List.sublist_append_left _ _); refine List.Sublist.trans ?_ (List.sublist_append_left _ _); first | exact List.sublist_append_left _ _ | exact List.sublist_append_right _ _) w hw)) hv)) ?_
    refine WS_det hF (by rfl) (y_move (c := .tuple _) (by rfl)) ?_
    refine WS_det hF (by rfl) (y_extract (c := .agg _) (by rfl) (by rfl)) ?_
    refine WS_det hF (by rfl) (y_extract (c := .int .i64 _) (by rfl) (by rfl)) ?_
    refine WS_new hF (by rfl) (y_alloc Try.zeroValue26 (by rfl)) (fun b3 => ?_)
    refine WS_store hF (i := 0) (by rfl) (by rfl) Try.sizeOf26 (by rfl) (by rfl) (by rfl) (by first | decide | exact Nat.le_of_ble_eq_true rfl | simp) ?_
    refine WS_det hF (by rfl) (y_assign (c := .int .i64 _) (by rfl)) ?_
    refine WS_nil ?_
    refine Then_normal ?_
    refine W_seq ?_
    refine W_region_lit (fun ds => ?_)
    refine WS_det hF (by rfl) (y_loadN (by rfl) Try.isAgg46 Try.sizeOf46 (Mem.own (us := [.slice _ _ _, .int .i64 _, .int .i64 _, .int .i64 _, .int .i64 _, .slice _ _ _]) 2 (by rfl) (by rfl)) (by rfl)) ?_
    refine WS_det hF (by rfl) (y_move (c := .int .i64 _) (by rfl)) ?_
    refine WS_det hF (by rfl) (y_callL (by rfl) (by rfl) Try.call44 (fun w hw => Ct_eq (rholds_any l a cap ae cape p w hn (hx.st w hw) (he.st w hw)) hv)) ?_
    refine WS_det hF (by rfl) (y_move (c := .tuple _) (by rfl)) ?_
    refine WS_det hF (by rfl) (y_extract (c := .agg _) (by rfl) (by rfl)) ?_
    refine WS_det hF (by rfl) (y_extract (c := .int .i64 _) (by rfl) (by rfl)) ?_
    refine WS_new hF (by rfl) (y_alloc Try.zeroValue26 (by rfl)) (fun b4 => ?_)
    refine WS_store hF (i := 0) (by rfl) (by rfl) Try.sizeOf26 (by rfl) (by rfl) (by rfl) (by first | decide | exact Nat.le_of_ble_eq_true rfl | simp) ?_
    refine WS_det hF (by rfl) (y_assign (c := .int .i64 _) (by rfl)) ?_
    refine WS_nil ?_
    refine Then_normal ?_
    refine W_seq ?_
    refine W_seq ?_
    refine W_draw0 hF Trymixed [] (by decide +kernel) (fun ds => ?_)
    refine P_det (by rfl) (Over_nil (y_loadN (by rfl) Try.isAgg46 Try.sizeOf46 (Mem.own (us := [.slice _ _ _, .int .i64 _, .int .i64 _, .int .i64 _, .int .i64 _, .slice _ _ _]) 2 (by rfl) (by rfl)) (by rfl))) ?_
    refine P_det (by rfl) (Over_nil (y_callL (by rfl) (by rfl) Try.call45 (fun w hw => valid_any l a' cap' ae' cape' w hn (NewRow.ints hr1 hx.len (by (repeat apply List.Sublist.cons); refine List.Sublist.trans ?_ (List.sublist_append_left _ _); refine List.Sublist.trans ?_ (List.sublist_append_left _ _); first | exact List.sublist_append_left _ _ | exact List.sublist_append_right _ _) w hw) (NewRow.rws en_len hr2 he.len (by (repeat apply List.Sublist.cons); refine List.Sublist.trans ?_ (List.sublist_append_left _ _); refine List.Sublist.trans ?_ (List.sublist_append_left _ _); first | exact List.sublist_append_left _ _ | exact List.sublist_append_right _ _) w hw)))) ?_
    refine P_det (by rfl) (Over_nil (y_loadN (by rfl) Try.isAgg46 Try.sizeOf46 (Mem.own (us := [.slice _ _ _, .int .i64 _, .int .i64 _, .int .i64 _, .int .i64 _, .slice _ _ _]) 3 (by rfl) (by rfl)) (by rfl))) ?_
    refine P_det (by rfl) (Over_nil (y_callL (by rfl) (by rfl) Try.call46 (fun w hw => rvalid_any l a cap ae cape w hn (hx.st w hw) (he.st w hw)))) ?_
    refine P_det (by rfl) (Over_nil (y_neqF (by rfl) (by rfl))) ?_
    refine P_det (by rfl) (Over_nil (y_move (c := .bool _) (by rfl))) ?_
    refine P_det (by rfl) (Over_nil (y_move (c := .slice _ _ _) (by rfl))) ?_
    refine P_det (by rfl) (Over_nil (y_move (c := .slice _ _ _) (by rfl))) ?_
    refine P_det (by rfl) (Over_nil (y_callL (by rfl) (by rfl) Try.call21 (fun w hw => Ct_eq (sameInts_any ta tb l.trs.length l.trs.length tcap tcap2 l.trs l.trs w (by omega) (hta _ _ w (by (repeat apply List.Sublist.cons); exact (List.sublist_append_right _ _).trans (List.sublist_append_left _ _)) hw) (htb _ _ w (by (repeat apply List.Sublist.cons); exact List.sublist_append_right _ _) hw)) (show Value.bool (decide (l.trs = l.trs)) = .bool true by simp)))) ?_
    refine P_det (by rfl) (Over_nil (y_not (by rfl))) ?_
    refine P_det (by rfl) (Over_nil (by first | exact y_pick_t (c := .bool _) (by rfl) (by rfl) | exact y_pick_f (c := .bool _) (by rfl) (by rfl))) ?_
    refine P_det (by rfl) (Over_nil (y_move (c := .bool _) (by rfl))) ?_
    refine P_det (by rfl) (Over_nil (y_move (c := .int .i64 _) (by rfl))) ?_
    refine P_det (by rfl) (Over_nil (y_move (c := .int .i64 _) (by rfl))) ?_
    refine P_det (by rfl) (Over_nil (y_neqF (by rfl) (by rfl))) ?_
    refine P_det (by rfl) (Over_nil (by first | exact y_pick_t (c := .bool _) (by rfl) (by rfl) | exact y_pick_f (c := .bool _) (by rfl) (by rfl))) ?_
    refine P_det (by rfl) (Over_nil (y_move (c := .bool _) (by rfl))) ?_
    refine P_det (by rfl) (Over_nil (y_loadN (by rfl) Try.isAgg26 Try.sizeOf26 (Mem.own (us := [.int .i64 _, .int .i64 _]) 1 (by rfl) (by rfl)) (by rfl))) ?_
    refine P_det (by rfl) (Over_nil (y_loadN (by rfl) Try.isAgg26 Try.sizeOf26 (Mem.own (us := [.int .i64 _, .int .i64 _]) 0 (by rfl) (by rfl)) (by rfl))) ?_
    refine P_det (by rfl) (Over_nil (y_neqlAF (by rfl) (by rfl) neqA26 (by simp only [ieq_self, Bool.and_self, Bool.not_true]))) ?_
    refine P_det (by rfl) (Over_nil (by first | exact y_pick_t (c := .bool _) (by rfl) (by rfl) | exact y_pick_f (c := .bool _) (by rfl) (by rfl))) ?_
    refine P_det (by rfl) (Over_nil (y_move (c := .bool _) (by rfl))) ?_
    refine P_det (by rfl) (Over_nil (y_move (c := .int .i64 _) (by rfl))) ?_
    refine P_det (by rfl) (Over_nil (y_move (c := .int .i64 _) (by rfl))) ?_
    refine P_det (by rfl) (Over_nil (y_neqF (by rfl) (by rfl))) ?_
    refine P_det (by rfl) (Over_nil (by first | exact y_pick_t (c := .bool _) (by rfl) (by rfl) | exact y_pick_f (c := .bool _) (by rfl) (by rfl))) ?_
    refine PW_end (by rfl) ?_
    refine OverAll_nil ?_
    rintro -
    refine Then_normal ?_
    refine W_cond (by rfl) (fun c8 => ?_) (fun c8 => ?_)
    · cases c8
    ·
      try simp only [Bool.not_eq_true', Bool.not_eq_false', decide_eq_true_eq, decide_eq_false_iff_not, ne_eq, Classical.not_not, Int.not_lt, Int.not_le] at c8
      refine W_skip ?_
      refine Then_normal ?_
      refine W_seq ?_
      refine W_region_lit (fun ds => ?_)
      refine WS_det hF (by rfl) (y_loadN (by rfl) Try.isAgg46 Try.sizeOf46 (Mem.own (us := [.slice _ _ _, .int .i64 _, .int .i64 _, .int .i64 _, .int .i64 _, .slice _ _ _]) 2 (by rfl) (by rfl)) (by rfl)) ?_
      refine WS_det hF (by rfl) (y_move (c := .int .i64 _) (by rfl)) ?_
      refine WS_det hF (by rfl) (y_callL (by rfl) (by rfl) Try.call47 (fun w hw => Ct_eq (moved_any l a' cap' ae' cape' p w hn (NewRow.ints hr1 hx.len (by (repeat apply List.Sublist.cons); refine List.Sublist.trans ?_ (List.sublist_append_left _ _); refine List.Sublist.trans ?_ (List.sublist_append_left _ _); first | exact List.sublist_append_left _ _ | exact List.sublist_append_right _ _) w hw) (NewRow.rws en_len hr2 he.len (by (repeat apply List.Sublist.cons); refine List.Sublist.trans ?_ (List.sublist_append_left _ _); refine List.Sublist.trans ?_ (List.sublist_append_left _ _); first | exact List.sublist_append_left _ _ | exact List.sublist_append_right _ _) w hw)) hu)) ?_
      refine WS_det hF (by rfl) (y_move (c := .tuple _) (by rfl)) ?_
      refine WS_det hF (by rfl) (y_extract (c := .agg _) (by rfl) (by rfl)) ?_
      refine WS_det hF (by rfl) (y_extract (c := .int .i64 _) (by rfl) (by rfl)) ?_
      refine WS_new hF (by rfl) (y_alloc Try.zeroValue26 (by rfl)) (fun b5 => ?_)
      refine WS_store hF (i := 0) (by rfl) (by rfl) Try.sizeOf26 (by rfl) (by rfl) (by rfl) (by first | decide | exact Nat.le_of_ble_eq_true rfl | simp) ?_
      refine WS_det hF (by rfl) (y_assign (c := .int .i64 _) (by rfl)) ?_
      refine WS_nil ?_
      refine Then_normal ?_
      refine W_seq ?_
      refine W_region_lit (fun ds => ?_)
      refine WS_det hF (by rfl) (y_loadN (by rfl) Try.isAgg46 Try.sizeOf46 (Mem.own (us := [.slice _ _ _, .int .i64 _, .int .i64 _, .int .i64 _, .int .i64 _, .slice _ _ _]) 4 (by rfl) (by rfl)) (by rfl)) ?_
      refine WS_det hF (by rfl) (y_move (c := .int .i64 _) (by rfl)) ?_
      refine WS_det hF (by rfl) (y_callL (by rfl) (by rfl) Try.call48 (fun w hw => Ct_eq (rmoved_any l a cap ae cape p w hn (hx.st w hw) (he.st w hw)) hu)) ?_
      refine WS_det hF (by rfl) (y_move (c := .tuple _) (by rfl)) ?_
      refine WS_det hF (by rfl) (y_extract (c := .agg _) (by rfl) (by rfl)) ?_
      refine WS_det hF (by rfl) (y_extract (c := .int .i64 _) (by rfl) (by rfl)) ?_
      refine WS_new hF (by rfl) (y_alloc Try.zeroValue26 (by rfl)) (fun b6 => ?_)
      refine WS_store hF (i := 0) (by rfl) (by rfl) Try.sizeOf26 (by rfl) (by rfl) (by rfl) (by first | decide | exact Nat.le_of_ble_eq_true rfl | simp) ?_
      refine WS_det hF (by rfl) (y_assign (c := .int .i64 _) (by rfl)) ?_
      refine WS_nil ?_
      refine Then_normal ?_
      refine W_seq ?_
      refine W_region_lit (fun ds => ?_)
      refine WS_det hF (by rfl) (y_loadN (by rfl) Try.isAgg46 Try.sizeOf46 (Mem.own (us := [.slice _ _ _, .int .i64 _, .int .i64 _, .int .i64 _, .int .i64 _, .slice _ _ _]) 4 (by rfl) (by rfl)) (by rfl)) ?_
      refine WS_det hF (by rfl) (y_move (c := .int .i64 _) (by rfl)) ?_
      refine WS_det hF (by rfl) (y_callL (by rfl) (by rfl) Try.call49 (fun w hw => Ct_eq (lost_any l a' cap' ae' cape' p w hn (NewRow.ints hr1 hx.len (by (repeat apply List.Sublist.cons); refine List.Sublist.trans ?_ (List.sublist_append_left _ _); refine List.Sublist.trans ?_ (List.sublist_append_left _ _); first | exact List.sublist_append_left _ _ | exact List.sublist_append_right _ _) w hw) (NewRow.rws en_len hr2 he.len (by (repeat apply List.Sublist.cons); refine List.Sublist.trans ?_ (List.sublist_append_left _ _); refine List.Sublist.trans ?_ (List.sublist_append_left _ _); first | exact List.sublist_append_left _ _ | exact List.sublist_append_right _ _) w hw)) hr)) ?_
      refine WS_det hF (by rfl) (y_move (c := .tuple _) (by rfl)) ?_
      refine WS_det hF (by rfl) (y_extract (c := .agg _) (by rfl) (by rfl)) ?_
      refine WS_det hF (by rfl) (y_extract (c := .int .i64 _) (by rfl) (by rfl)) ?_
      refine WS_new hF (by rfl) (y_alloc Try.zeroValue26 (by rfl)) (fun b7 => ?_)
      refine WS_store hF (i := 0) (by rfl) (by rfl) Try.sizeOf26 (by rfl) (by rfl) (by rfl) (by first | decide | exact Nat.le_of_ble_eq_true rfl | simp) ?_
      refine WS_det hF (by rfl) (y_assign (c := .int .i64 _) (by rfl)) ?_
      refine WS_nil ?_
      refine Then_normal ?_
      refine W_seq ?_
      refine W_region_lit (fun ds => ?_)
      refine WS_det hF (by rfl) (y_loadN (by rfl) Try.isAgg46 Try.sizeOf46 (Mem.own (us := [.slice _ _ _, .int .i64 _, .int .i64 _, .int .i64 _, .int .i64 _, .slice _ _ _]) 6 (by rfl) (by rfl)) (by rfl)) ?_
      refine WS_det hF (by rfl) (y_move (c := .int .i64 _) (by rfl)) ?_
      refine WS_det hF (by rfl) (y_callL (by rfl) (by rfl) Try.call50 (fun w hw => Ct_eq (rlost_any l a cap ae cape p w hn (hx.st w hw) (he.st w hw)) hr)) ?_
      refine WS_det hF (by rfl) (y_move (c := .tuple _) (by rfl)) ?_
      refine WS_det hF (by rfl) (y_extract (c := .agg _) (by rfl) (by rfl)) ?_
      refine WS_det hF (by rfl) (y_extract (c := .int .i64 _) (by rfl) (by rfl)) ?_
      refine WS_new hF (by rfl) (y_alloc Try.zeroValue26 (by rfl)) (fun b8 => ?_)
      refine WS_store hF (i := 0) (by rfl) (by rfl) Try.sizeOf26 (by rfl) (by rfl) (by rfl) (by first | decide | exact Nat.le_of_ble_eq_true rfl | simp) ?_
      refine WS_det hF (by rfl) (y_assign (c := .int .i64 _) (by rfl)) ?_
      refine WS_nil ?_
      refine Then_normal ?_
      refine W_seq ?_
      refine W_region_lit (fun ds => ?_)
      refine WS_det hF (by rfl) (y_loadN (by rfl) Try.isAgg46 Try.sizeOf46 (Mem.own (us := [.slice _ _ _, .int .i64 _, .int .i64 _, .int .i64 _, .int .i64 _, .slice _ _ _]) 6 (by rfl) (by rfl)) (by rfl)) ?_
      refine WS_det hF (by rfl) (y_callL (by rfl) (by rfl) Try.call51 (fun w hw => Ct_eq (leaked_any l a' cap' ae' cape' w hn (NewRow.ints hr1 hx.len (by (repeat apply List.Sublist.cons); refine List.Sublist.trans ?_ (List.sublist_append_left _ _); refine List.Sublist.trans ?_ (List.sublist_append_left _ _); first | exact List.sublist_append_left _ _ | exact List.sublist_append_right _ _) w hw) (NewRow.rws en_len hr2 he.len (by (repeat apply List.Sublist.cons); refine List.Sublist.trans ?_ (List.sublist_append_left _ _); refine List.Sublist.trans ?_ (List.sublist_append_left _ _); first | exact List.sublist_append_left _ _ | exact List.sublist_append_right _ _) w hw)) hs)) ?_
      refine WS_det hF (by rfl) (y_move (c := .tuple _) (by rfl)) ?_
      refine WS_det hF (by rfl) (y_extract (c := .agg _) (by rfl) (by rfl)) ?_
      refine WS_det hF (by rfl) (y_extract (c := .int .i64 _) (by rfl) (by rfl)) ?_
      refine WS_new hF (by rfl) (y_alloc Try.zeroValue26 (by rfl)) (fun b9 => ?_)
      refine WS_store hF (i := 0) (by rfl) (by rfl) Try.sizeOf26 (by rfl) (by rfl) (by rfl) (by first | decide | exact Nat.le_of_ble_eq_true rfl | simp) ?_
      refine WS_det hF (by rfl) (y_assign (c := .int .i64 _) (by rfl)) ?_
      refine WS_nil ?_
      refine Then_normal ?_
      refine W_seq ?_
      refine W_region_lit (fun ds => ?_)
      refine WS_det hF (by rfl) (y_loadN (by rfl) Try.isAgg46 Try.sizeOf46 (Mem.own (us := [.slice _ _ _, .int .i64 _, .int .i64 _, .int .i64 _, .int .i64 _, .slice _ _ _]) 8 (by rfl) (by rfl)) (by rfl)) ?_
      refine WS_det hF (by rfl) (y_callL (by rfl) (by rfl) Try.call52 (fun w hw => Ct_eq (rleaked_any l a cap ae cape w hn (hx.st w hw) (he.st w hw)) hs)) ?_
      refine WS_det hF (by rfl) (y_move (c := .tuple _) (by rfl)) ?_
      refine WS_det hF (by rfl) (y_extract (c := .agg _) (by rfl) (by rfl)) ?_
      refine WS_det hF (by rfl) (y_extract (c := .int .i64 _) (by rfl) (by rfl)) ?_
      refine WS_new hF (by rfl) (y_alloc Try.zeroValue26 (by rfl)) (fun b10 => ?_)
      refine WS_store hF (i := 0) (by rfl) (by rfl) Try.sizeOf26 (by rfl) (by rfl) (by rfl) (by first | decide | exact Nat.le_of_ble_eq_true rfl | simp) ?_
      refine WS_det hF (by rfl) (y_assign (c := .int .i64 _) (by rfl)) ?_
      refine WS_nil ?_
      refine Then_normal ?_
      refine W_seq ?_
      refine W_region_lit (fun ds => ?_)
      refine WS_det hF (by rfl) (y_loadN (by rfl) Try.isAgg26 Try.sizeOf26 (Mem.own (us := [.int .i64 _, .int .i64 _]) 5 (by rfl) (by rfl)) (by rfl)) ?_
      refine WS_det hF (by rfl) (y_loadN (by rfl) Try.isAgg26 Try.sizeOf26 (Mem.own (us := [.int .i64 _, .int .i64 _]) 4 (by rfl) (by rfl)) (by rfl)) ?_
      refine WS_det hF (by rfl) (y_eqlAT (by rfl) (by rfl) eqA26 (by simp only [ieq_self, Bool.and_self, Bool.not_true])) ?_
      refine WS_det hF (by rfl) (y_move (c := .bool _) (by rfl)) ?_
      refine WS_det hF (by rfl) (y_move (c := .int .i64 _) (by rfl)) ?_
      refine WS_det hF (by rfl) (y_move (c := .int .i64 _) (by rfl)) ?_
      refine WS_det hF (by rfl) (y_eqlT (by rfl) (by rfl)) ?_
      refine WS_det hF (by rfl) (by first | exact y_pick_t (c := .bool _) (by rfl) (by rfl) | exact y_pick_f (c := .bool _) (by rfl) (by rfl)) ?_
      refine WS_det hF (by rfl) (y_move (c := .bool _) (by rfl)) ?_
      refine WS_det hF (by rfl) (y_loadN (by rfl) Try.isAgg26 Try.sizeOf26 (Mem.own (us := [.int .i64 _, .int .i64 _]) 3 (by rfl) (by rfl)) (by rfl)) ?_
      refine WS_det hF (by rfl) (y_loadN (by rfl) Try.isAgg26 Try.sizeOf26 (Mem.own (us := [.int .i64 _, .int .i64 _]) 2 (by rfl) (by rfl)) (by rfl)) ?_
      refine WS_det hF (by rfl) (y_eqlAT (by rfl) (by rfl) eqA26 (by simp only [ieq_self, Bool.and_self, Bool.not_true])) ?_
      refine WS_det hF (by rfl) (by first | exact y_pick_t (c := .bool _) (by rfl) (by rfl) | exact y_pick_f (c := .bool _) (by rfl) (by rfl)) ?_
      refine WS_det hF (by rfl) (y_move (c := .bool _) (by rfl)) ?_
      refine WS_det hF (by rfl) (y_move (c := .int .i64 _) (by rfl)) ?_
      refine WS_det hF (by rfl) (y_move (c := .int .i64 _) (by rfl)) ?_
      refine WS_det hF (by rfl) (y_eqlT (by rfl) (by rfl)) ?_
      refine WS_det hF (by rfl) (by first | exact y_pick_t (c := .bool _) (by rfl) (by rfl) | exact y_pick_f (c := .bool _) (by rfl) (by rfl)) ?_
      refine WS_det hF (by rfl) (y_move (c := .bool _) (by rfl)) ?_
      refine WS_det hF (by rfl) (y_loadN (by rfl) Try.isAgg26 Try.sizeOf26 (Mem.own (us := [.int .i64 _, .int .i64 _]) 1 (by rfl) (by rfl)) (by rfl)) ?_
      refine WS_det hF (by rfl) (y_loadN (by rfl) Try.isAgg26 Try.sizeOf26 (Mem.own (us := [.int .i64 _, .int .i64 _]) 0 (by rfl) (by rfl)) (by rfl)) ?_
      refine WS_det hF (by rfl) (y_eqlAT (by rfl) (by rfl) eqA26 (by simp only [ieq_self, Bool.and_self, Bool.not_true])) ?_
      refine WS_det hF (by rfl) (by first | exact y_pick_t (c := .bool _) (by rfl) (by rfl) | exact y_pick_f (c := .bool _) (by rfl) (by rfl)) ?_
      refine WS_det hF (by rfl) (y_move (c := .bool _) (by rfl)) ?_
      refine WS_det hF (by rfl) (y_move (c := .int .i64 _) (by rfl)) ?_
      refine WS_det hF (by rfl) (y_move (c := .int .i64 _) (by rfl)) ?_
      refine WS_det hF (by rfl) (y_eqlT (by rfl) (by rfl)) ?_
      refine WS_det hF (by rfl) (by first | exact y_pick_t (c := .bool _) (by rfl) (by rfl) | exact y_pick_f (c := .bool _) (by rfl) (by rfl)) ?_
      refine WS_det hF (by rfl) (y_move (c := .bool _) (by rfl)) ?_
      refine WS_det hF (by rfl) (y_loadN (by rfl) Try.isAgg46 Try.sizeOf46 (Mem.own (us := [.slice _ _ _, .int .i64 _, .int .i64 _, .int .i64 _, .int .i64 _, .slice _ _ _]) 8 (by rfl) (by rfl)) (by rfl)) ?_
      refine WS_det hF (by rfl) (y_loadN (by rfl) Try.isAgg46 Try.sizeOf46 (Mem.own (us := [.slice _ _ _, .int .i64 _, .int .i64 _, .int .i64 _, .int .i64 _, .slice _ _ _]) 9 (by rfl) (by rfl)) (by rfl)) ?_
      refine WS_det hF (by rfl) (y_callL (by rfl) (by rfl) Try.call30 (fun w hw => same_any l a cap ae cape a' cap' ae' cape' w hnes hn (hx.st w hw) (he.st w hw) (NewRow.ints hr1 hx.len (by (repeat apply List.Sublist.cons); refine List.Sublist.trans ?_ (List.sublist_append_left _ _); refine List.Sublist.trans ?_ (List.sublist_append_left _ _); first | exact List.sublist_append_left _ _ | exact List.sublist_append_right _ _) w hw) (NewRow.rws en_len hr2 he.len (by (repeat apply List.Sublist.cons); refine List.Sublist.trans ?_ (List.sublist_append_left _ _); refine List.Sublist.trans ?_ (List.sublist_append_left _ _); first | exact List.sublist_append_left _ _ | exact List.sublist_append_right _ _) w hw))) ?_
      refine WS_det hF (by rfl) (by first | exact y_pick_t (c := .bool _) (by rfl) (by rfl) | exact y_pick_f (c := .bool _) (by rfl) (by rfl)) ?_
      refine WS_det hF (by rfl) (y_assign (c := .bool _) (by rfl)) ?_
      refine WS_nil ?_
      refine Then_normal ?_
      refine W_ret ?_
      refine Fin_ret [.bool _] [] Try.results6 ⟨by rfl, trivial⟩ HSub.nil ?_
      rfl
end Go.Proofs.Ythkimgfgpphgnaa.T

namespace Go.Proofs.Ythkimgfgpphgnaa
open Go.RowKit Go.Proofs Go.Eng Go.ChangeShapes Go.WideShapes Go.ChangeAt Go.Joins T
set_option maxRecDepth 100000
set_option linter.unusedVariables false

theorem walkTankHolds (v0 v1 : Value) (W : World) (h0 : ∃ (l : Lg) (a : Option Addr) (cap : Nat) (ae : Option Addr) (cape : Nat), v0 = .agg #[.slice a l.tk.n cap, .int .i64 l.tk.leak, .int .i64 l.tk.foot, .int .i64 l.start.lo, .int .i64 l.start.hi, .slice ae l.es.length cape] ∧ Ints W a l.tk.n cap l.tk.pints ∧ Ens W ae l.es.length cape l.es) (h1 : ∃ n : Int, v1 = .int .i64 n) :
    Calls Try.prog 6 #[v0, v1] W fun e W' => e = .returned (.bool true) ∧ Below W.heap.size W W' := by
  obtain ⟨l, a, cap, ae, cape, rfl, hx, he⟩ := h0
  obtain ⟨p, rfl⟩ := h1
  refine Calls.mono (tankHolds_any l a cap ae cape p W hx he) ?_
  rintro e W' ⟨v, rfl, Hn, hb, _, rfl⟩
  exact ⟨rfl, hb⟩

theorem liftTankHolds (os : Os) (started : os.Started) (H : Type) (enc : TypeId × Value → H) :
    ReturnsInHanded {} Try.checked os 6 .any (Rows.tankHoldsSpec.pre6 enc Try.prog Try.f6 Rows.tankHoldsRow.domain false) (Rows.tankHoldsSpec.post enc Try.prog Try.f6 false true false false) := by
  refine returnsInHanded_of_change (C := Try.checked) own started (by kernel_rfl) Try.func6
    (ChangeSpec.witness6 (enc := enc) (C := Try.checked) false ⟨#[], #[.agg #[.slice none 0 0, .int .i64 0, .int .i64 0, .int .i64 0, .int .i64 0, .slice none 0 0], .int .i64 0], []⟩ 8 (by kernel_rfl) (by kernel_rfl) (by kernel_rfl) (by kernel_rfl)) ?_
  intro W base args ds gs before hval0 hW hcnd _
  have hval : ∀ (j : Nat) t v, Try.f6.params[j]? = some t → args[j]? = some v → Value.okWide Try.prog W .any base t v := hval0
  have hW' := hW
  obtain ⟨p, q, hA0, hV, rfl, hfz, hnd⟩ := hW
  have hA : DataW.TrodAll enc Try.prog W 0 (fun _ => true) true Try.f6.params.toList args.toList ds p := hA0
  rw [Try.params6] at hA hval
  obtain ⟨v0, vs0, d0, ds0, p0, q0, hargs, rfl, rfl, h0, r0⟩ := trodAll_cons hA
  obtain ⟨v1, vs1, d1, ds1, p1, q1, rfl, rfl, rfl, h1, r1⟩ := trodAll_cons r0
  obtain ⟨rfl, rfl, rfl⟩ := trodAll_nil r1
  obtain rfl : args = #[v0, v1] := by cases args; simp_all
  obtain ⟨rfl, rfl⟩ := trodVars_none hV
  have lt0 : ∀ x ∈ p0, x.block < W.heap.size := by obtain ⟨m, hm⟩ := h0; exact DataW.trod_lt m _ _ _ hm
  have lt1 : ∀ x ∈ p1, x.block < W.heap.size := by obtain ⟨m, hm⟩ := h1; exact DataW.trod_lt m _ _ _ hm
  have o0 := open_log (hval 0 _ v0 rfl rfl) h0 (fun _ => rfl)
  have o1 : ∃ n : Int, v1 = .int .i64 n := by obtain ⟨n, h, _⟩ := open_int Try.underlying3 (hval 1 3 v1 rfl rfl) h1; exact ⟨n, h⟩
  clear hA0 hval0
  refine (walkTankHolds v0 v1 W o0 o1).mono fun e W' ⟨he, bel⟩ => ?_
  subst he
  exact ⟨_, rfl, _, _, _, [], _, [], hW', trodAll_mk1 (shut_bool Try.underlying4 _),
    (trodAll_cons_mk (Below.trod laidOut (by kernel_rfl) (of_decide_eq_true (by kernel_rfl)) h0 bel lt0) (trodAll_cons_mk (Below.trod laidOut (by kernel_rfl) (of_decide_eq_true (by kernel_rfl)) h1 bel lt1) trodAll_mk0)), rfl, bel.frame _, fun h => by cases h⟩

theorem tankHolds : Rows.TankHoldsSaid :=
  OpenClaim.holds_of_wide 6 Try.f6 rfl rfl rfl rfl rfl rfl rfl ⟨rfl, rfl, rfl, rfl, rfl⟩ rfl rfl rfl rfl rfl (by kernel_rfl) Try.func6 (by kernel_rfl)
    (of_decide_eq_true (by kernel_rfl)) (by unfold Func.isWrapper; first | (rw [if_pos (by decide +kernel)]; kernel_rfl) | (rw [if_neg (by decide +kernel)]; exact ⟨rfl, rfl⟩))
    (fun os started H enc _ => liftTankHolds os started H enc)
end Go.Proofs.Ythkimgfgpphgnaa
