/- A region whose order is open, state by state: what is done already, whatever its order. No project text. -/
import Derived.Test.YtjekjehgmljbgaaDoorMb3
set_option linter.unusedVariables false
set_option linter.unusedSimpArgs false
/- What the reference has reached, level by level; pure. -/
namespace Go.Proofs.YtjekjehgmljbgaaDoor.T
open Go.RowKit Go.Proofs Go.Eng
set_option linter.unusedVariables false

/-- The list of what is reached, and the table of where. -/
structure Cn.TabK (c : Cn) (xs : List (Co × Wy)) (ks : List Int) : Prop where
  len : ks.length = 9261
  tab : ∀ y, c.In y → y.sm = c.co.sm → (ks.getD (c.ky y).toNat 0 = 0 ∧ ∀ z ∈ xs, z.1 ≠ y) ∨ ∃ (j : Nat) (z : Co × Wy), xs[j]? = some z ∧ z.1 = y ∧ ks.getD (c.ky y).toNat 0 = (j : Int) + 1
  inn : ∀ z ∈ xs, c.In z.1 ∧ z.1.sm = c.co.sm
  nd : (xs.map Prod.fst).Nodup
theorem Cn.TabK.bd {c : Cn} (hok : c.Ok) {xs : List (Co × Wy)} {ks : List Int} (h : c.TabK xs ks) : xs.length ≤ 9261 := by
  have hnd : (xs.map fun z => (c.ky z.1).toNat).Nodup := by
    have h1 := h.nd
    rw [List.nodup_iff_pairwise_ne, List.pairwise_map] at h1 ⊢
    refine h1.imp_of_mem fun {a b} ha hb hab he => hab ?_
    obtain ⟨a1, a2⟩ := h.inn a ha
    obtain ⟨b1, b2⟩ := h.inn b hb
    have k1 := Cn.ky_bd hok a1
    have k2 := Cn.ky_bd hok b1
    exact Cn.ky_inj hok a1 b1 (a2.trans b2.symm) (by omega)
  have := nodup_bd (N := 9261) hnd fun n hn => by
    obtain ⟨z, hz, rfl⟩ := List.mem_map.1 hn
    have := Cn.ky_bd hok (h.inn z hz).1
    omega
  rwa [List.length_map] at this
theorem Cn.TabK.push {c : Cn} (hok : c.Ok) {xs : List (Co × Wy)} {ks : List Int} (h : c.TabK xs ks) {y : Co} (hy : c.In y) (hs : y.sm = c.co.sm) (hk : ks.getD (c.ky y).toNat 0 = 0) (v : Wy) : c.TabK (xs ++ [(y, v)]) (ks.set (c.ky y).toNat ((xs.length : Int) + 1)) := by
  have hb := Cn.ky_bd hok hy
  have hn : ∀ z ∈ xs, z.1 ≠ y := by
    rcases h.tab y hy hs with h1 | ⟨j, z, _, _, h3⟩
    · exact h1.2
    · omega
  refine ⟨by rw [List.length_set]; exact h.len, fun u hu hus => ?_, fun z hz => ?_, ?_⟩
  · by_cases he : u = y
    · subst he
      refine .inr ⟨xs.length, (u, v), by simp, rfl, ?_⟩
      rw [List.getD_eq_getElem?_getD, List.getElem?_set_self (by rw [h.len]; omega)]
      rfl
    · have hne : (c.ky y).toNat ≠ (c.ky u).toNat := fun hh => he (by
        have := Cn.ky_bd hok hu
        exact Cn.ky_inj hok hu hy (hus.trans hs.symm) (by omega))
      have hg : (ks.set (c.ky y).toNat ((xs.length : Int) + 1)).getD (c.ky u).toNat 0 = ks.getD (c.ky u).toNat 0 := by
        rw [List.getD_eq_getElem?_getD, List.getD_eq_getElem?_getD, List.getElem?_set_ne hne]
      rw [hg]
      rcases h.tab u hu hus with ⟨h1, h2⟩ | ⟨j, z, h1, h2, h3⟩
      · refine .inl ⟨h1, fun z hz => ?_⟩
        rcases List.mem_append.1 hz with hz | hz
        · exact h2 z hz
        · simp only [List.mem_singleton] at hz; subst hz; exact fun e => he e.symm
      · exact .inr ⟨j, z, by rw [List.getElem?_append_left (List.getElem?_eq_some_iff.1 h1).1]; exact h1, h2, h3⟩
  · rcases List.mem_append.1 hz with hz | hz
    · exact h.inn z hz
    · simp only [List.mem_singleton] at hz; subst hz; exact ⟨hy, hs⟩
  · rw [List.map_append, List.nodup_append]
    refine ⟨h.nd, by simp, fun a ha b hb2 hab => ?_⟩
    obtain ⟨z, hz, rfl⟩ := List.mem_map.1 ha
    simp only [List.map_cons, List.map_nil, List.mem_singleton] at hb2
    exact hn z hz (hab.trans hb2)
theorem map_set_fst {xs : List (Co × Wy)} {j : Nat} {y : Co} {u v : Wy} (h : xs[j]? = some (y, u)) : (xs.set j (y, v)).map Prod.fst = xs.map Prod.fst := by
  obtain ⟨hj, he⟩ := List.getElem?_eq_some_iff.1 h
  rw [List.map_set]
  refine List.ext_getElem (by simp) fun i h1 h2 => ?_
  rw [List.getElem_set]
  split
  · rename_i hij; subst hij; simp [he]
  · rfl
theorem Cn.TabK.upd {c : Cn} {xs : List (Co × Wy)} {ks : List Int} (h : c.TabK xs ks) {j : Nat} {y : Co} {u : Wy} (hj : xs[j]? = some (y, u)) (v : Wy) : c.TabK (xs.set j (y, v)) ks := by
  have hjl := (List.getElem?_eq_some_iff.1 hj).1
  have hfst : ∀ z ∈ xs.set j (y, v), z.1 ∈ xs.map Prod.fst := fun z hz => by
    rw [← map_set_fst hj (v := v)]; exact List.mem_map.2 ⟨z, hz, rfl⟩
  refine ⟨h.len, fun a ha has => ?_, fun z hz => ?_, by rw [map_set_fst hj]; exact h.nd⟩
  · rcases h.tab a ha has with ⟨h1, h2⟩ | ⟨i, z, h1, h2, h3⟩
    · refine .inl ⟨h1, fun z hz => ?_⟩
      obtain ⟨z', hz', he⟩ := List.mem_map.1 (hfst z hz)
      rw [← he]; exact h2 z' hz'
    · by_cases hij : j = i
      · subst hij
        rw [hj] at h1
        cases h1
        exact .inr ⟨j, (y, v), List.getElem?_set_self hjl, h2, h3⟩
      · exact .inr ⟨i, z, by rw [List.getElem?_set_ne hij]; exact h1, h2, h3⟩
  · obtain ⟨z', hz', he⟩ := List.mem_map.1 (hfst z hz)
    rw [← he]; exact h.inn z' hz'
/-- All of the levels up to one are reached. -/
structure Cn.Rc0 (c : Cn) (n fr : Nat) (xs : List (Co × Wy)) (ks : List Int) : Prop where
  tb : c.TabK xs ks
  frl : fr ≤ xs.length
  best : ∀ (j : Nat) (z : Co × Wy), xs[j]? = some z → c.Best z.2 z.1 ∧ (j < fr → z.2.l.length < n) ∧ (fr ≤ j → z.2.l.length = n)
  all : ∀ y w, c.Best w y → w.l.length ≤ n → (y, w) ∈ xs
  srt : xs.Pairwise fun a b => a.2.l.length ≤ b.2.l.length
/-- While the next level is walked. -/
structure Cn.RcI (c : Cn) (n fr en : Nat) (P : Co → Wy → Prop) (look : Co → Option Wy) (xs : List (Co × Wy)) (ks : List Int) : Prop where
  tb : c.TabK xs ks
  stp : c.Stp n P look
  frl : fr ≤ en
  enl : en ≤ xs.length
  best : ∀ (j : Nat) (z : Co × Wy), j < en → xs[j]? = some z → c.Best z.2 z.1 ∧ (j < fr → z.2.l.length < n) ∧ (fr ≤ j → z.2.l.length = n)
  all : ∀ y w, c.Best w y → w.l.length ≤ n → ∃ j : Nat, j < en ∧ xs[j]? = some (y, w)
  new : ∀ y w, look y = some w ↔ ∃ j : Nat, en ≤ j ∧ xs[j]? = some (y, w)
  srt : ∀ (i j : Nat) (a b : Co × Wy), i ≤ j → j < en → xs[i]? = some a → xs[j]? = some b → a.2.l.length ≤ b.2.l.length
theorem Cn.Rc0.start {c : Cn} {n fr : Nat} {xs : List (Co × Wy)} {ks : List Int} (h : c.Rc0 n fr xs ks) : c.RcI n fr xs.length (fun _ _ => False) (fun _ => none) xs ks := by
  refine ⟨h.tb, .nil c n, h.frl, Nat.le_refl _, fun j z _ hz => h.best j z hz, fun y w hw hl => ?_, fun y w => ?_, fun i j a b hij hj ha hb => ?_⟩
  · obtain ⟨j, hj⟩ := List.getElem?_of_mem (h.all y w hw hl)
    exact ⟨j, (List.getElem?_eq_some_iff.1 hj).1, hj⟩
  · constructor
    · intro h; cases h
    · rintro ⟨j, h1, h2⟩
      have := (List.getElem?_eq_some_iff.1 h2).1
      omega
  · by_cases he : i = j
    · subst he; rw [ha] at hb; cases hb; exact Nat.le_refl _
    · have hp := List.pairwise_iff_getElem.1 h.srt i j (by omega) hj (by omega)
      rw [(List.getElem?_eq_some_iff.1 ha).2, (List.getElem?_eq_some_iff.1 hb).2] at hp
      exact hp
theorem Cn.RcI.kn {c : Cn} {n fr en : Nat} {P : Co → Wy → Prop} {look : Co → Option Wy} {xs : List (Co × Wy)} {ks : List Int} (h : c.RcI n fr en P look xs ks) {y : Co} : c.Kn n y ↔ ∃ (j : Nat) (z : Co × Wy), j < en ∧ xs[j]? = some z ∧ z.1 = y := by
  constructor
  · rintro ⟨u, h1, h2⟩
    obtain ⟨j, h3, h4⟩ := h.all y u h1 h2
    exact ⟨j, _, h3, h4, rfl⟩
  · rintro ⟨j, z, h1, h2, rfl⟩
    obtain ⟨h3, h4, h5⟩ := h.best j z h1 h2
    refine ⟨z.2, h3, ?_⟩
    by_cases hj : j < fr
    · exact Nat.le_of_lt (h4 hj)
    · exact Nat.le_of_eq (h5 (by omega))
/-- Two entries of one content are one. -/
theorem Cn.TabK.uniq {c : Cn} {xs : List (Co × Wy)} {ks : List Int} (h : c.TabK xs ks) {i j : Nat} {a b : Co × Wy} (ha : xs[i]? = some a) (hb : xs[j]? = some b) (he : a.1 = b.1) : i = j := by
  obtain ⟨hi, ei⟩ := List.getElem?_eq_some_iff.1 ha
  obtain ⟨hj, ej⟩ := List.getElem?_eq_some_iff.1 hb
  have h1 := h.nd
  rw [List.nodup_iff_pairwise_ne, List.pairwise_iff_getElem] at h1
  rcases Nat.lt_trichotomy i j with hl | rfl | hl
  · exact (h1 i j (by simpa using hi) (by simpa using hj) hl (by simp only [List.getElem_map, ei, ej, he])).elim
  · rfl
  · exact (h1 j i (by simpa using hj) (by simpa using hi) hl (by simp only [List.getElem_map, ei, ej, he])).elim
def addP (P : Co → Wy → Prop) (y : Co) (v : Wy) : Co → Wy → Prop := fun y' v' => P y' v' ∨ (y' = y ∧ v' = v)
def addL (look : Co → Option Wy) (y : Co) (v : Wy) : Co → Option Wy := fun y' => if y' = y then some (pickW (look y) v) else look y'
theorem Cn.RcI.zero {c : Cn} {n fr en : Nat} {P : Co → Wy → Prop} {look : Co → Option Wy} {xs : List (Co × Wy)} {ks : List Int} (h : c.RcI n fr en P look xs ks) (hn : c.n ≤ 3) {x : Co} {w : Wy} {p : Po} (hx : c.In x) (hxs : x.sm = c.co.sm) (hp : c.pE x p = 0) (hk : ks.getD (c.ky (c.stp x p)).toNat 0 = 0) :
    (∀ z ∈ xs, z.1 ≠ c.stp x p) ∧ look (c.stp x p) = none ∧ ¬ c.Kn n (c.stp x p) := by
  have hz : ∀ z ∈ xs, z.1 ≠ c.stp x p := by
    rcases h.tb.tab _ (hx.stp hn hp) ((Cn.stp_sm hn hp).trans hxs) with h1 | ⟨j, z, _, _, h3⟩
    · exact h1.2
    · omega
  refine ⟨hz, ?_, fun hkn => ?_⟩
  · cases hl : look (c.stp x p) with
    | none => rfl
    | some u =>
      obtain ⟨j, _, hj⟩ := (h.new _ _).1 hl
      exact absurd rfl (hz _ (List.mem_of_getElem? hj))
  · obtain ⟨j, z, _, hj, he⟩ := h.kn.1 hkn
    exact hz _ (List.mem_of_getElem? hj) he
theorem Cn.RcI.push {c : Cn} (hok : c.Ok) {n fr en : Nat} {P : Co → Wy → Prop} {look : Co → Option Wy} {xs : List (Co × Wy)} {ks : List Int} (h : c.RcI n fr en P look xs ks) {x : Co} {w : Wy} {p : Po} (hw : c.Lv n w x) (hp : c.pE x p = 0) (hk : ks.getD (c.ky (c.stp x p)).toNat 0 = 0) :
    c.RcI n fr en (addP P (c.stp x p) (c.nx w x p)) (addL look (c.stp x p) (c.nx w x p)) (xs ++ [(c.stp x p, c.nx w x p)]) (ks.set (c.ky (c.stp x p)).toNat ((xs.length : Int) + 1)) := by
  obtain ⟨hx, hxs⟩ := hw.1.way.in hok
  obtain ⟨hz, hl, hkn⟩ := h.zero (w := w) hok.n3 hx hxs hp hk
  refine ⟨h.tb.push hok (hx.stp hok.n3 hp) ((Cn.stp_sm hok.n3 hp).trans hxs) hk _, h.stp.put hw hp hkn, h.frl, by rw [List.length_append]; have := h.enl; omega, fun j z hj hjz => ?_, fun y u hu hul => ?_, fun y u => ?_, fun i j a b hij hj ha hb => ?_⟩
  · rw [List.getElem?_append_left (by have := h.enl; omega)] at hjz
    exact h.best j z hj hjz
  · obtain ⟨j, h1, h2⟩ := h.all y u hu hul
    exact ⟨j, h1, by rw [List.getElem?_append_left (by have := h.enl; omega)]; exact h2⟩
  · unfold addL
    by_cases hy : y = c.stp x p
    · subst hy
      rw [if_pos rfl, hl]
      change some (c.nx w x p) = some u ↔ _
      constructor
      · intro e; cases e; exact ⟨xs.length, h.enl, by simp⟩
      · rintro ⟨j, h1, h2⟩
        by_cases hj : j < xs.length
        · rw [List.getElem?_append_left hj] at h2
          exact absurd rfl (hz _ (List.mem_of_getElem? h2))
        · rw [List.getElem?_append_right (by omega)] at h2
          obtain ⟨_, h3⟩ := List.getElem?_eq_some_iff.1 h2
          simp only [List.getElem_singleton, Prod.mk.injEq, true_and] at h3
          rw [h3]
    · rw [if_neg hy, h.new]
      constructor
      · rintro ⟨j, h1, h2⟩
        exact ⟨j, h1, by rw [List.getElem?_append_left (List.getElem?_eq_some_iff.1 h2).1]; exact h2⟩
      · rintro ⟨j, h1, h2⟩
        by_cases hj : j < xs.length
        · rw [List.getElem?_append_left hj] at h2; exact ⟨j, h1, h2⟩
        · rw [List.getElem?_append_right (by omega)] at h2
          obtain ⟨_, h3⟩ := List.getElem?_eq_some_iff.1 h2
          simp only [List.getElem_singleton, Prod.mk.injEq] at h3
          exact absurd h3.1.symm hy
  · have := h.enl
    rw [List.getElem?_append_left (by omega)] at ha hb
    exact h.srt i j a b hij hj ha hb
theorem Cn.RcI.known {c : Cn} (hok : c.Ok) {n fr en : Nat} {P : Co → Wy → Prop} {look : Co → Option Wy} {xs : List (Co × Wy)} {ks : List Int} (h : c.RcI n fr en P look xs ks) {x : Co} {w : Wy} {p : Po} (hw : c.Lv n w x) (hp : c.pE x p = 0) (hk : ¬ ks.getD (c.ky (c.stp x p)).toNat 0 = 0) :
    ∃ (j : Nat) (u : Wy), xs[j]? = some (c.stp x p, u) ∧ ks.getD (c.ky (c.stp x p)).toNat 0 = (j : Int) + 1 ∧ (j < en → c.Kn n (c.stp x p)) ∧ (en ≤ j → look (c.stp x p) = some u ∧ u.l.length = n + 1 ∧ ¬ c.Kn n (c.stp x p)) := by
  obtain ⟨hx, hxs⟩ := hw.1.way.in hok
  rcases h.tb.tab _ (hx.stp hok.n3 hp) ((Cn.stp_sm hok.n3 hp).trans hxs) with h1 | ⟨j, z, h1, h2, h3⟩
  · exact absurd h1.1 hk
  · obtain ⟨y, u⟩ := z
    simp only at h2
    subst h2
    refine ⟨j, u, h1, h3, fun hj => h.kn.2 ⟨j, _, hj, h1, rfl⟩, fun hj => ?_⟩
    have hl := (h.new _ u).2 ⟨j, hj, h1⟩
    have hm := h.stp.min (c.stp x p)
    rw [hl] at hm
    obtain ⟨hn, x', w', p', hw', hp', he, rfl⟩ := h.stp.snd _ _ hm.1
    exact ⟨hl, by rw [c.nx_len, hw'.2], hn⟩
theorem Cn.RcI.upd {c : Cn} {n fr en : Nat} {P : Co → Wy → Prop} {look : Co → Option Wy} {xs : List (Co × Wy)} {ks : List Int} (h : c.RcI n fr en P look xs ks) {x : Co} {w : Wy} {p : Po} (hw : c.Lv n w x) (hp : c.pE x p = 0) {j : Nat} {u : Wy} (hj : xs[j]? = some (c.stp x p, u)) (hje : en ≤ j) (hl : look (c.stp x p) = some u) (hkn : ¬ c.Kn n (c.stp x p)) :
    c.RcI n fr en (addP P (c.stp x p) (c.nx w x p)) (addL look (c.stp x p) (c.nx w x p)) (xs.set j (c.stp x p, pickW (some u) (c.nx w x p))) ks := by
  have hjl := (List.getElem?_eq_some_iff.1 hj).1
  refine ⟨h.tb.upd hj _, h.stp.put hw hp hkn, h.frl, by rw [List.length_set]; exact h.enl, fun i z hi hiz => ?_, fun y v hv hvl => ?_, fun y v => ?_, fun i k a b hik hk ha hb => ?_⟩
  · rw [List.getElem?_set_ne (by omega)] at hiz
    exact h.best i z hi hiz
  · obtain ⟨i, h1, h2⟩ := h.all y v hv hvl
    exact ⟨i, h1, by rw [List.getElem?_set_ne (by omega)]; exact h2⟩
  · unfold addL
    by_cases hy : y = c.stp x p
    · subst hy
      rw [if_pos rfl, hl]
      constructor
      · intro e; cases e; exact ⟨j, hje, List.getElem?_set_self hjl⟩
      · rintro ⟨i, h1, h2⟩
        by_cases hij : j = i
        · subst hij
          rw [List.getElem?_set_self hjl] at h2
          simp only [Option.some.injEq, Prod.mk.injEq, true_and] at h2
          rw [h2]
        · rw [List.getElem?_set_ne hij] at h2
          exact absurd (h.tb.uniq hj h2 rfl) hij
    · rw [if_neg hy, h.new]
      constructor
      · rintro ⟨i, h1, h2⟩
        have hij : j ≠ i := fun e => by subst e; rw [hj] at h2; cases h2; exact hy rfl
        exact ⟨i, h1, by rw [List.getElem?_set_ne hij]; exact h2⟩
      · rintro ⟨i, h1, h2⟩
        by_cases hij : j = i
        · subst hij
          rw [List.getElem?_set_self hjl] at h2
          simp only [Option.some.injEq, Prod.mk.injEq] at h2
          exact absurd h2.1.symm hy
        · rw [List.getElem?_set_ne hij] at h2
          exact ⟨i, h1, h2⟩
  · rw [List.getElem?_set_ne (by omega)] at ha hb
    exact h.srt i k a b hik hk ha hb
theorem Cn.RcI.done {c : Cn} (hok : c.Ok) {n fr en : Nat} {P : Co → Wy → Prop} {look : Co → Option Wy} {xs : List (Co × Wy)} {ks : List Int} (h : c.RcI n fr en P look xs ks) (hd : ∀ (j : Nat) (z : Co × Wy), fr ≤ j → j < en → xs[j]? = some z → c.Dn n P z.1 z.2 (c.ps z.1).length) : c.Rc0 (n + 1) en xs ks := by
  have hlv := h.stp.level hok.n3 fun x w hw => by
    obtain ⟨j, h1, h2⟩ := h.all x w hw.1 (Nat.le_of_eq hw.2)
    refine hd j (x, w) ?_ h1 h2
    obtain ⟨_, h3, _⟩ := h.best j _ h1 h2
    have := hw.2
    refine Nat.le_of_not_lt fun hj => ?_
    have := h3 hj
    simp only at this
    omega
  have hnew : ∀ j z, en ≤ j → xs[j]? = some z → c.Lv (n + 1) z.2 z.1 := fun j z h1 h2 => Cn.eqO_iff.1 ((hlv z.1).symm.trans ((h.new z.1 z.2).2 ⟨j, h1, h2⟩))
  have hle : ∀ (j : Nat) (z : Co × Wy), j < en → xs[j]? = some z → z.2.l.length ≤ n := fun j z h1 h2 => by
    obtain ⟨_, h3, h4⟩ := h.best j z h1 h2
    by_cases hj : j < fr
    · exact Nat.le_of_lt (h3 hj)
    · exact Nat.le_of_eq (h4 (by omega))
  refine ⟨h.tb, h.enl, fun j z hz => ?_, fun y w hw hl => ?_, ?_⟩
  · by_cases hj : j < en
    · have := hle j z hj hz
      exact ⟨(h.best j z hj hz).1, fun _ => by omega, fun h => by omega⟩
    · have := hnew j z (by omega) hz
      exact ⟨this.1, fun h => by omega, fun _ => this.2⟩
  · by_cases hn : w.l.length ≤ n
    · obtain ⟨j, _, h2⟩ := h.all y w hw hn
      exact List.mem_of_getElem? h2
    · have : look y = some w := (hlv y).trans (Cn.eqO_iff.2 ⟨hw, by omega⟩)
      obtain ⟨j, _, h2⟩ := (h.new y w).1 this
      exact List.mem_of_getElem? h2
  · rw [List.pairwise_iff_getElem]
    intro i j hi hj hij
    have ei : xs[i]? = some xs[i] := List.getElem?_eq_getElem hi
    have ej : xs[j]? = some xs[j] := List.getElem?_eq_getElem hj
    by_cases hje : j < en
    · exact h.srt i j _ _ (Nat.le_of_lt hij) hje ei ej
    · have h1 := (hnew j _ (by omega) ej).2
      by_cases hie : i < en
      · have := hle i _ hie ei; omega
      · have := (hnew i _ (by omega) ei).2; omega
/-- All is reached. -/
structure Cn.Rcd (c : Cn) (xs : List (Co × Wy)) : Prop where
  best : ∀ z ∈ xs, c.Best z.2 z.1
  all : ∀ y w, c.Best w y → (y, w) ∈ xs
  nd : (xs.map Prod.fst).Nodup
  srt : xs.Pairwise fun a b => a.2.l.length ≤ b.2.l.length
  len : xs.length ≤ 9261
theorem Cn.Rc0.end {c : Cn} (hok : c.Ok) {n fr : Nat} {xs : List (Co × Wy)} {ks : List Int} (h : c.Rc0 n fr xs ks) (hf : xs.length ≤ fr) : c.Rcd xs := by
  have hno : ∀ w y, ¬ c.Lv n w y := fun w y hw => by
    obtain ⟨j, hj⟩ := List.getElem?_of_mem (h.all y w hw.1 (Nat.le_of_eq hw.2))
    have h1 := (List.getElem?_eq_some_iff.1 hj).1
    have h2 := (h.best j _ hj).2.1 (by omega)
    have := hw.2
    simp only at h2
    omega
  refine ⟨fun z hz => ?_, fun y w hw => h.all y w hw (Nat.le_of_lt (Cn.no_more hno hw)), h.tb.nd, h.srt, h.tb.bd hok⟩
  obtain ⟨j, hj⟩ := List.getElem?_of_mem hz
  exact (h.best j z hj).1
theorem Cn.Rc0.n_bd {c : Cn} (hok : c.Ok) {n fr : Nat} {xs : List (Co × Wy)} {ks : List Int} (h : c.Rc0 n fr xs ks) (hf : fr < xs.length) : n ≤ 9260 := by
  obtain ⟨h1, _, h3⟩ := h.best fr _ (List.getElem?_eq_getElem hf)
  rw [← h3 (Nat.le_refl _)]
  exact h1.len hok
theorem Cn.Rc0.first {c : Cn} (hok : c.Ok) : c.Rc0 0 0 [(c.co, ⟨[], 0⟩)] ((List.replicate 9261 0).set (c.ky c.co).toNat 1) := by
  have hb : c.Best ⟨[], 0⟩ c.co := (Cn.lv_zero.2 ⟨rfl, rfl⟩).1
  have h0 : c.TabK [] (List.replicate 9261 0) := by
    refine ⟨List.length_replicate, fun y hy hs => .inl ⟨?_, fun z hz => (by cases hz)⟩, fun z hz => (by cases hz), List.nodup_nil⟩
    have := Cn.ky_bd hok hy
    rw [List.getD_eq_getElem?_getD, List.getElem?_replicate, if_pos (by omega)]
    rfl
  have h1 := h0.push hok hok.co_in rfl (v := ⟨[], 0⟩) (by
    have := Cn.ky_bd hok hok.co_in
    rw [List.getD_eq_getElem?_getD, List.getElem?_replicate, if_pos (by omega)]
    rfl)
  refine ⟨h1, Nat.zero_le _, fun j z hz => ?_, fun y w hw hl => ?_, by simp⟩
  · obtain ⟨hj, e⟩ := List.getElem?_eq_some_iff.1 hz
    simp only [List.length_singleton] at hj
    obtain rfl : j = 0 := by omega
    simp only [List.getElem_singleton] at e
    subst e
    exact ⟨hb, fun h => by omega, fun _ => rfl⟩
  · obtain ⟨rfl, rfl⟩ := Cn.lv_zero.1 ⟨hw, Nat.le_zero.1 hl⟩
    exact List.mem_singleton.2 rfl
theorem Cn.Dn.step {c : Cn} {n : Nat} {P P' : Co → Wy → Prop} (hP : ∀ y v, P y v → P' y v) {x : Co} {w : Wy} {k : Nat} (h : c.Dn n P x w k) (hk : ¬ c.Kn n (c.stp x ((c.ps x).getD k Po.z)) → P' (c.stp x ((c.ps x).getD k Po.z)) (c.nx w x ((c.ps x).getD k Po.z))) : c.Dn n P' x w (k + 1) := fun j hj hn => by
  by_cases he : j = k
  · subst he; exact hk hn
  · exact hP _ _ (h j (by omega) hn)
/-- The same, for a table of ways: its length. -/
theorem good_len {c : Cn} (hok : c.Ok) {HX : List Blk} {l : List (EntK Co)} {ck : Nat} (hg : GoodM l ck) (hT : Tab HX l c.bestO) : l.length ≤ 9261 := by
  have hin : ∀ y ∈ l, c.In y.1 ∧ y.1.sm = c.co.sm := fun y hy => by
    obtain ⟨x, _, h2, _⟩ := hT.mem hg hy
    exact (Cn.bestO_iff.1 h2).way.in hok
  have hnd : (l.map fun y => (c.ky y.1).toNat).Nodup := by
    have h1 := hg.keys
    rw [List.nodup_iff_pairwise_ne, List.pairwise_map] at h1 ⊢
    refine h1.imp_of_mem fun {a b} ha hb hab he => hab ?_
    obtain ⟨a1, a2⟩ := hin a ha
    obtain ⟨b1, b2⟩ := hin b hb
    have k1 := Cn.ky_bd hok a1
    have k2 := Cn.ky_bd hok b1
    exact Cn.ky_inj hok a1 b1 (a2.trans b2.symm) (by omega)
  have := nodup_bd (N := 9261) hnd fun n hn => by
    obtain ⟨y, hy, rfl⟩ := List.mem_map.1 hn
    have := Cn.ky_bd hok (hin y hy).1
    omega
  rwa [List.length_map] at this
end Go.Proofs.YtjekjehgmljbgaaDoor.T

/- The fewest pourings for an aim: the program's walks. -/
namespace Go.Proofs.YtjekjehgmljbgaaDoor.T
open Go.RowKit Go.Proofs Go.Eng
set_option maxRecDepth 100000
set_option maxHeartbeats 1000000
set_option linter.unusedVariables false
set_option linter.unusedSimpArgs false

theorem bs162_1_0 {x0_0a : Option Addr} {x0_0l x0_0c : Nat} {x0_1 : Int} : ∀ w, (Instr.buildSlice 162 1 #[(0, .agg #[.slice x0_0a x0_0l x0_0c, .int .i64 x0_1])]).run Tryd.prog w = .ok (.slice (some ⟨w.heap.size, 0, none⟩) 1 1) (w.alloc (CB [.slice x0_0a x0_0l x0_0c, .int .i64 x0_1] 112)) := fun w => by kernel_rfl

/-- A function value that tells of contents; what it reads lies among some blocks, or in the memory of the start. -/
structure AimOk (P : Program) (w0 : World) (HA : List Blk) (fid : FuncId) (first caps : List Value) (Q : Co → Prop) (p : Co → Bool) : Prop where
  enter : ∀ args w, (callFunc fid args).run P w = .ok (.enter fid args) w
  call : ∀ x, Q x → ∀ (C : Ctx) (H : List Blk) (w : World), C.w0 = w0 → HA.Sublist H → St C H w → Ct P fid (first ++ (Value.agg x.cells.toArray :: caps)).toArray w fun v _ => v = .bool (p x)
def wRow (xs : List Wl) : List Value := rowOf Wl.cells (fun k => xs.getD k Wl.z) xs.length
theorem wRow_snoc (xs : List Wl) (y : Wl) : wRow (xs ++ [y]) = wRow xs ++ y.cells := by
  unfold wRow
  rw [List.length_append, List.length_singleton, rowOf_succ]
  congr 1
  · exact rowOf_congr _ fun k hk => by simp [List.getD_eq_getElem?_getD, List.getElem?_append_left hk]
  · simp [List.getD_eq_getElem?_getD]
theorem infWay : (Tryd.prog.info? 112).map (fun i => (i.zero, i.size, i.bytes)) = some (some (.agg #[.slice none 0 0, .int .i64 0]), 2, 32) := by kernel_rfl
def addX (p : Co → Bool) (xs : List Wl) (x : Co) (y : Wl) : List Wl := if p x then xs ++ [y] else xs
theorem add_cs (w0 : World) (ds0 out0 : List Deferred) (bso bl : Nat) (fid : FuncId) (first caps : List Value) (Q : Co → Prop) (p : Co → Bool) (HA : List Blk) (hA : AimOk Tryd.prog w0 HA fid first caps Q p) (x : Co) (hq : Q x) (y : Wl) (xs : List Wl) (a : Option Addr) (cap : Nat) (G Hr : List Blk)
    (hrow : NewRow 112 2 xs.length (wRow xs) (.slice a xs.length cap) Hr) (hlen : xs.length ≤ 1000000) (hHA : HA.Sublist G) :
    Cs ⟨Tryd.prog, w0, ds0, out0⟩ 96 #[.agg x.cells.toArray, y.v, .pointer (some ⟨bso, 0, none⟩), .pointer (some ⟨bl, 0, none⟩)] ((bl, CB [.slice a xs.length cap] 162) :: (bso, CB [.func (.func fid) first.toArray caps.toArray] 117) :: (G ++ Hr)) fun v Hn => v = .tuple #[] ∧ ∃ a' cap' Hr', NewRow 112 2 (addX p xs x y).length (wRow (addX p xs x y)) (.slice a' (addX p xs x y).length cap') Hr' ∧ Hn = (bl, CB [.slice a' (addX p xs x y).length cap'] 162) :: (bso, CB [.func (.func fid) first.toArray caps.toArray] 117) :: (G ++ Hr') := by
  have hF := wide_wide
  refine Cs_start (args := [_, _, _, _]) Tryd.func96 (by rfl) Tryd.ntmps96 (by rfl) ?_
  refine W_seq ?_
  refine W_region_lit (fun ds => ?_)
  refine WS_new hF (by rfl) (y_box (by rfl)) (fun b1 => ?_)
  refine WS_new hF (by rfl) (y_box (by rfl)) (fun b2 => ?_)
  refine WS_nil ?_
  refine Then_normal ?_
  refine W_seq ?_
  refine W_region_lit (fun ds => ?_)
  refine WS_det hF (by rfl) (y_load1 (by rfl) Tryd.isAgg117 (Mem.own1 3 (by rfl) (by rfl))) ?_
  refine WS_det hF (by rfl) (y_loadN (by rfl) Tryd.isAgg99 Tryd.sizeOf99 (Mem.own (us := [.int .i64 _, .int .i64 _, .int .i64 _, .int .i64 _]) 1 (by rfl) (by rfl)) (by rfl)) ?_
  refine WS_det hF (by rfl) (y_callL (first := first) (captured := caps) (by rfl) (by rfl) hA.enter (fun w hw => hA.call x hq _ _ w rfl (hHA.trans sbA) hw)) ?_
  refine WS_nil ?_
  refine Then_normal ?_
  refine W_cond (by rfl) (fun c1 => ?_) (fun c1 => ?_)
  ·
    try simp only [Bool.not_eq_true', Bool.not_eq_false', decide_eq_true_eq, decide_eq_false_iff_not, ne_eq, Classical.not_not, Int.not_lt, Int.not_le] at c1
    refine W_region_lit (fun ds => ?_)
    refine WS_det hF (by rfl) (y_load1 (by rfl) Tryd.isAgg162 (Mem.own1 2 (by rfl) (by rfl))) ?_
    refine WS_det hF (by rfl) (y_loadN (by rfl) Tryd.isAgg112 Tryd.sizeOf112 (Mem.own (us := [.slice _ _ _, .int .i64 _]) 0 (by rfl) (by rfl)) (by rfl)) ?_
    refine WS_newS hF (by rfl) (y_buildSliceL bs162_1_0 (by rfl)) (fun b3 => ?_)
    refine WS_appendN hF (H1 := (_ :: _ :: _ :: _ :: _ :: (G))) (Hn := Hr) (by rfl) (by rfl) (by rfl) Tryd.underlying162 infWay (by rfl) (by rfl) hrow (rowOf_len wl_len _ _) (.inr ⟨_, _, rfl, Mem.own (us := [.slice _ _ _, .int _ _]) 0 (by rfl) (by rfl)⟩) (by rfl) (by rfl) (by omega) (by omega) (by omega) ?_
    intro a3 cap3 H3 hr3
    refine WS_store hF (i := 3) (by rfl) (by rfl) Tryd.sizeOf162 (by rfl) (by rfl) (by rfl) (by first | decide | exact Nat.le_of_ble_eq_true rfl | simp) ?_
    refine WS_nil ?_
    refine Fin_norm [] ((bl, _) :: (bso, _) :: (G ++ H3)) Tryd.results96 trivial (HSub.sub sbA) ?_
    rw [show addX p xs x y = xs ++ [y] from if_pos c1, wRow_snoc, List.length_append]
    exact ⟨rfl, a3, cap3, H3, hr3, rfl⟩
  ·
    try simp only [Bool.not_eq_true', Bool.not_eq_false', decide_eq_true_eq, decide_eq_false_iff_not, ne_eq, Classical.not_not, Int.not_lt, Int.not_le] at c1
    refine W_skip ?_
    refine Fin_norm [] ((bl, _) :: (bso, _) :: (G ++ Hr)) Tryd.results96 trivial (HSub.sub sbA) ?_
    rw [show addX p xs x y = xs from if_neg (by simp [c1])]
    exact ⟨rfl, a, cap, Hr, hrow, rfl⟩
/-- The ways that were taken, of the entries that were seen. -/
structure FwI (c : Cn) (p : Co → Bool) (l : List (EntK Co)) (HX : List Blk) (seen : Array Nat) (xs : List Wl) : Prop where
  snd : ∀ y ∈ xs, ∃ k, p k = true ∧ c.Best y.w k ∧ y.RdH HX
  cmp : ∀ e ∈ l, e.2.2 ∈ seen → p e.1 = true → ∃ y ∈ xs, c.Best y.w e.1
  len : xs.length + leftL l seen ≤ l.length
theorem FwI.nil (c : Cn) (p : Co → Bool) (l : List (EntK Co)) (HX : List Blk) : FwI c p l HX #[] [] := ⟨fun y h => (by cases h), fun e _ h => (by simp at h), (by rw [List.length_nil, Nat.zero_add]; exact List.length_filter_le _ _)⟩
theorem FwI.step {c : Cn} {p : Co → Bool} {l : List (EntK Co)} {HX : List Blk} {seen : Array Nat} {xs : List Wl} (h : FwI c p l HX seen xs) {k : Co} {y : Wl} {bn : Nat} (hy : (k, y.v, bn) ∈ l) (hb : (l.map (·.2.2)).Nodup) (hns : bn ∉ seen) (hbst : c.Best y.w k) (hr : y.RdH HX) :
    FwI c p l HX (seen.push bn) (addX p xs k y) := by
  have hlt := leftL_lt (l := l) (seen := seen) (y := (k, y.v, bn)) hy hns
  unfold addX
  refine ⟨fun z hz => ?_, fun e he hs hp => ?_, ?_⟩
  · split at hz
    · rename_i hp
      rcases List.mem_append.1 hz with hz | hz
      · exact h.snd z hz
      · simp only [List.mem_singleton] at hz; subst hz; exact ⟨k, hp, hbst, hr⟩
    · exact h.snd z hz
  · rcases Array.mem_push.1 hs with hs | hs
    · obtain ⟨z, hz, hzv⟩ := h.cmp e he hs hp
      refine ⟨z, ?_, hzv⟩
      split
      · exact List.mem_append_left _ hz
      · exact hz
    · have : ∀ {l : List (EntK Co)}, (l.map (·.2.2)).Nodup → e ∈ l → (k, y.v, bn) ∈ l → e = (k, y.v, bn) := by
        intro l
        induction l with
        | nil => intro _ h; cases h
        | cons z l ih =>
          intro hn a1 a2
          rw [List.map_cons, List.nodup_cons] at hn
          rcases List.mem_cons.1 a1 with e1 | e1
          · rcases List.mem_cons.1 a2 with e2 | e2
            · rw [e1, e2]
            · exact absurd (List.mem_map.2 ⟨_, e2, by rw [← e1]; exact hs.symm⟩) hn.1
          · rcases List.mem_cons.1 a2 with e2 | e2
            · exact absurd (List.mem_map.2 ⟨_, e1, by rw [← e2]; exact hs⟩) hn.1
            · exact ih hn.2 e1 e2
      have he := this hb he hy
      subst he
      rw [if_pos hp]
      exact ⟨y, List.mem_append_right _ (List.mem_singleton.2 rfl), hbst⟩
  · have := h.len
    split
    · rw [List.length_append, List.length_singleton]
      change xs.length + 1 + leftL l (seen.push bn) ≤ l.length
      change leftL l (seen.push bn) < leftL l seen at hlt
      omega
    · change leftL l (seen.push bn) < leftL l seen at hlt
      omega
theorem FwI.few {c : Cn} {p : Co → Bool} {l : List (EntK Co)} {ck : Nat} {HX : List Blk} {seen : Array Nat} {xs : List Wl} (h : FwI c p l HX seen xs) (hT : Tab HX l c.bestO) (hov : ∀ x ∈ l, x.2.2 ∈ seen) {k : Co} {v : Wy} (hp : p k = true) (hb : c.Best v k) : ∃ y ∈ xs, y.w = v := by
  obtain ⟨e, he, rfl⟩ := hT.has (Cn.bestO_iff.2 hb)
  obtain ⟨y, hy, hyb⟩ := h.cmp e he (hov e he) hp
  exact ⟨y, hy, hyb.uniq hb⟩
/-- The best way to what is wanted, of all ways of a map. -/
structure FewV (c : Cn) (p : Co → Bool) (HX : List Blk) (x : Wl) (b : Bool) : Prop where
  rd : x.RdH HX
  yes : b = true → (∃ k, p k = true ∧ c.Best x.w k) ∧ ∀ k v, p k = true → c.Best v k → v.lt x.w = false
  no : b = false → x = Wl.z ∧ ∀ k v, p k = true → ¬ c.Best v k
theorem fewest_cs (w0 : World) (ds0 out0 : List Deferred) (mk ck : Nat) (l : List (EntK Co)) (c : Cn) (HX : List Blk) (fid : FuncId) (first caps : List Value) (p : Co → Bool) (hg : GoodM l ck) (hT : Tab HX l c.bestO) (HA : List Blk) (hA : AimOk Tryd.prog w0 HA fid first caps c.In p) (hHA : HA.Sublist HX) (hok : c.Ok) :
    Cs ⟨Tryd.prog, w0, ds0, out0⟩ 58 #[.map (some mk), .func (.func fid) first.toArray caps.toArray] ((mk, MK encC l ck) :: HX) fun v Hn => ∃ (x : Wl) (b : Bool), v = .tuple #[x.v, .bool b] ∧ FewV c p HX x b ∧ Hn = (mk, MK encC l ck) :: HX := by
  have hln := good_len hok hg hT
  have hF := wide_wide
  refine Cs_start (args := [_, _]) Tryd.func58 (by rfl) Tryd.ntmps58 (by rfl) ?_
  refine W_seq ?_
  refine W_region_lit (fun ds => ?_)
  refine WS_new hF (by rfl) (y_box (by rfl)) (fun bso => ?_)
  refine WS_new hF (by rfl) (y_alloc Tryd.zeroValue112 (by rfl)) (fun b4 => ?_)
  refine WS_det hF (by rfl) (y_assign (c := .bool _) (by rfl)) ?_
  refine WS_nil ?_
  refine Then_normal ?_
  refine W_seq ?_
  refine W_region_lit (fun ds => ?_)
  refine WS_new hF (by rfl) (y_alloc Tryd.zeroValue162 (by rfl)) (fun bl => ?_)
  refine WS_nil ?_
  refine Then_normal ?_
  refine W_seq ?_
  refine W_region_lit (fun ds => ?_)
  refine WS_det hF (by rfl) (y_makeFuncL (by rfl) (by rfl)) ?_
  refine WS_det hF (by rfl) (y_assign (c := _) (by rfl)) ?_
  refine WS_nil ?_
  refine Then_normal ?_
  refine W_seq ?_
  refine W_seq ?_
  refine W_region_lit (fun ds => ?_)
  refine WS_det hF (by rfl) (y_move (c := .map _) (by rfl)) ?_
  refine WS_pull (bso, _) (by repeat (first | exact Pul.base0 | exact Pul.base | apply Pul.cons | apply Pul.app)) ?_
  refine WS_pull (bl, _) (by repeat (first | exact Pul.base0 | exact Pul.base | apply Pul.cons | apply Pul.app)) ?_
  refine WS_new hF (by rfl) (y_rangeK (enc := encC) (i := 3) (by rfl) Tryd.underlying115 (by rfl)) (fun it => ?_)
  refine WS_nil ?_
  refine Then_normal ?_
  refine W_block ?_
  refine W_loop (γ := Array Nat × Nat × List Wl × Option Addr × Nat × List Blk) (fun q => FwI c p l HX q.1 q.2.2.1 ∧ ck ≤ q.2.1 ∧ NewRow 112 2 q.2.2.1.length (wRow q.2.2.1) (.slice q.2.2.2.1 q.2.2.1.length q.2.2.2.2.1) q.2.2.2.2.2) (fun q => [(4, .pointer (some ⟨b4, 0, none⟩)), (6, .pointer (some ⟨bl, 0, none⟩)), (7, .func (.func 96) #[] #[.pointer (some ⟨bso, 0, none⟩), .pointer (some ⟨bl, 0, none⟩)]), (12, .pointer (some ⟨it, 0, none⟩))]) (fun q => (it, .mapIter (some mk) ck q.1 q.2.1) :: (bl, CB [.slice q.2.2.2.1 q.2.2.1.length q.2.2.2.2.1] 162) :: (bso, CB [.func (.func fid) first.toArray caps.toArray] 117) :: (b4, CB [.slice none 0 0, .int .i64 0] 112) :: (mk, MK encC l ck) :: (HX ++ q.2.2.2.2.2)) (fun q => leftL l q.1) ((#[], ck, [], none, 0, [])) ⟨FwI.nil c p l HX, Nat.le_refl _, ⟨none, 0, rfl, Nat.le_refl _, .inr ⟨rfl, rfl, rfl⟩⟩⟩ (by repeat (first | exact trivial | refine ⟨by rfl, ?_⟩)) ((by simp only [List.append_nil]; exact sbA)) ?_
  rintro ⟨seen, c0, xs, a, cap, Hr⟩ e ⟨hI, hc0, hrow⟩
  refine W_seq ?_
  refine W_region_lit (fun ds => ?_)
  refine WS_nextK hF (enc := encC) (i := 0) (j := 4) (by rfl) (by rfl) (by rfl) (by rfl) hg.old hc0 (fun hov => ?_) (fun y hy hns => ?_)
  ·
    have hlx : xs.length + leftL l seen ≤ l.length := hI.len
    refine WS_det hF (by rfl) (y_extract (c := .bool _) (by rfl) (by rfl)) ?_
    refine WS_nil ?_
    refine Then_normal ?_
    refine W_seq ?_
    refine W_cond (by rfl) (fun c4 => ?_) (fun c4 => ?_)
    · cases c4
    ·
      try simp only [Bool.not_eq_true', Bool.not_eq_false', decide_eq_true_eq, decide_eq_false_iff_not, ne_eq, Classical.not_not, Int.not_lt, Int.not_le] at c4
      refine W_exit ?_
      refine Then_exit ?_
      refine Loop_exit ?_
      refine InB_same ?_
      refine Then_normal ?_
      refine W_seq ?_
      refine W_seq ?_
      refine W_region_lit (fun ds => ?_)
      refine WS_det hF (by rfl) (y_load1 (by rfl) Tryd.isAgg162 (Mem.own1 1 (by rfl) (by rfl))) ?_
      refine WS_det hF (by rfl) (y_len (by rfl) Tryd.runUnderlying162) ?_
      refine WS_det hF (by rfl) (y_eql (by rfl) (by rfl)) ?_
      refine WS_nil ?_
      refine Then_normal ?_
      refine W_cond (by rfl) (fun c7 => ?_) (fun c7 => ?_)
      ·
        try simp only [Bool.not_eq_true', Bool.not_eq_false', decide_eq_true_eq, decide_eq_false_iff_not, ne_eq, Classical.not_not, Int.not_lt, Int.not_le] at c7
        refine W_seq ?_
        refine W_region_lit (fun ds => ?_)
        refine WS_det hF (by rfl) (y_buildL bd112 (by rfl)) ?_
        refine WS_store hF (i := 3) (by rfl) (by rfl) Tryd.sizeOf112 (by rfl) (by rfl) (by rfl) (by first | decide | exact Nat.le_of_ble_eq_true rfl | simp) ?_
        refine WS_det hF (by rfl) (y_assign (c := .bool _) (by rfl)) ?_
        refine WS_nil ?_
        refine Then_normal ?_
        refine W_ret ?_
        refine Then_ret ?_
        refine Fin_ret [_, .bool _] ((mk, _) :: HX) Tryd.results58 ⟨lvN (by rfl) Tryd.isAgg112 Tryd.sizeOf112 (Mem.own (us := [.slice _ _ _, .int .i64 _]) 3 (by rfl) (by rfl)) (by rfl), by rfl, trivial⟩ (HSub.sub sbA) ?_
        have h0 : xs = [] := List.eq_nil_of_length_eq_zero (by omega)
        subst h0
        refine ⟨Wl.z, false, rfl, ⟨Wl.RdH.z HX, fun h => (by cases h), fun _ => ⟨rfl, fun k v hk hv => ?_⟩⟩, rfl⟩
        obtain ⟨y, hy, _⟩ := hI.few (ck := ck) hT hov hk hv
        cases hy
      ·
        try simp only [Bool.not_eq_true', Bool.not_eq_false', decide_eq_true_eq, decide_eq_false_iff_not, ne_eq, Classical.not_not, Int.not_lt, Int.not_le] at c7
        refine W_skip ?_
        refine Then_normal ?_
        refine W_seq ?_
        refine W_region_lit (fun ds => ?_)
        refine WS_det hF (by rfl) (y_load1 (by rfl) Tryd.isAgg162 (Mem.own1 1 (by rfl) (by rfl))) ?_
        refine WS_gen hF (by rfl) (y_callL (by rfl) (by rfl) Tryd.call97 (fun w hw => firstW_any a xs.length cap xs w (by omega) (by omega) (NewRow.rws wl_len hrow rfl sbA w hw) (fun y hy => by obtain ⟨_, _, _, hr⟩ := hI.snd y hy; exact hr _ _ w sbA hw))) ?_
        rintro _ HL ⟨fx, hfm, rfl, hfmin⟩
        refine WS_back ?_
        refine WS_store hF (i := 3) (by rfl) (by rfl) Tryd.sizeOf112 (by rfl) (by rfl) (by rfl) (by first | decide | exact Nat.le_of_ble_eq_true rfl | simp) ?_
        refine WS_det hF (by rfl) (y_assign (c := .bool _) (by rfl)) ?_
        refine WS_nil ?_
        refine Then_normal ?_
        refine W_ret ?_
        refine Fin_ret [_, .bool _] ((mk, _) :: HX) Tryd.results58 ⟨lvN (by rfl) Tryd.isAgg112 Tryd.sizeOf112 (Mem.own (us := [.slice _ _ _, .int .i64 _]) 3 (by rfl) (by rfl)) (by rfl), by rfl, trivial⟩ (HSub.sub sbA) ?_
        obtain ⟨fk, hfp, hfb, hfr⟩ := hI.snd fx hfm
        refine ⟨fx, true, rfl, ⟨hfr, fun _ => ⟨⟨fk, hfp, hfb⟩, fun k v hk hv => ?_⟩, fun h => (by cases h)⟩, rfl⟩
        obtain ⟨y, hy, rfl⟩ := hI.few (ck := ck) hT hov hk hv
        exact hfmin y hy
  ·
    obtain ⟨xk, v, bn⟩ := y
    obtain ⟨y, hvy, hyl, hyr⟩ := hT.mem hg hy
    change v = y.v at hvy
    subst hvy
    have hyb : c.Best y.w xk := Cn.bestO_iff.1 hyl
    have hq := (hyb.way.in hok).1
    have hlx : xs.length + leftL l seen ≤ l.length := hI.len
    refine WS_det hF (by rfl) (y_extract (c := .bool _) (by rfl) (by rfl)) ?_
    refine WS_nil ?_
    refine Then_normal ?_
    refine W_seq ?_
    refine W_cond (by rfl) (fun c4 => ?_) (fun c4 => ?_)
    ·
      try simp only [Bool.not_eq_true', Bool.not_eq_false', decide_eq_true_eq, decide_eq_false_iff_not, ne_eq, Classical.not_not, Int.not_lt, Int.not_le] at c4
      refine W_skip ?_
      refine Then_normal ?_
      refine W_block ?_
      refine W_seq ?_
      refine W_region_lit (fun ds => ?_)
      refine WS_det hF (by rfl) (y_entryK (enc := encC) (y := (xk, y.v, bn)) (i := 0) (j := 4) (by rfl) (by rfl) (by rfl) hy hg.born) ?_
      refine WS_det hF (by rfl) (y_extract (c := .agg _) (by rfl) (by rfl)) ?_
      refine WS_det hF (by rfl) (y_extract (c := .agg _) (by rfl) (by rfl)) ?_
      refine WS_new hF (by rfl) (y_alloc Tryd.zeroValue99 (by rfl)) (fun b8 => ?_)
      refine WS_new hF (by rfl) (y_alloc Tryd.zeroValue112 (by rfl)) (fun b9 => ?_)
      refine WS_store hF (i := 1) (by rfl) (by rfl) Tryd.sizeOf99 (by rfl) (by rfl) (by rfl) (by first | decide | exact Nat.le_of_ble_eq_true rfl | simp) ?_
      refine WS_store hF (i := 0) (by rfl) (by rfl) Tryd.sizeOf112 (by rfl) (by rfl) (by rfl) (by first | decide | exact Nat.le_of_ble_eq_true rfl | simp) ?_
      refine WS_nil ?_
      refine Then_normal ?_
      refine W_region_lit (fun ds => ?_)
      refine WS_det hF (by rfl) (y_move (c := _) (by rfl)) ?_
      refine WS_det hF (by rfl) (y_loadN (by rfl) Tryd.isAgg99 Tryd.sizeOf99 (Mem.own (us := [.int .i64 _, .int .i64 _, .int .i64 _, .int .i64 _]) 1 (by rfl) (by rfl)) (by rfl)) ?_
      refine WS_det hF (by rfl) (y_loadN (by rfl) Tryd.isAgg112 Tryd.sizeOf112 (Mem.own (us := [.slice _ _ _, .int .i64 _]) 0 (by rfl) (by rfl)) (by rfl)) ?_
      refine WS_pull (bso, _) (by repeat (first | exact Pul.base0 | exact Pul.base | apply Pul.cons | apply Pul.app)) ?_
      refine WS_pull (bl, _) (by repeat (first | exact Pul.base0 | exact Pul.base | apply Pul.cons | apply Pul.app)) ?_
      refine WS_callS hF (by rfl) (by rfl) (by rfl) Tryd.call96 (add_cs _ _ _ bso bl fid first caps c.In p HA hA xk hq y xs a cap (_ :: _ :: _ :: _ :: _ :: HX) Hr hrow (by omega) (hHA.trans sbA)) ?_
      rintro _ _ ⟨rfl, a2, cap2, Hr2, hrow2, rfl⟩
      refine WS_pull (it, _) (by repeat (first | exact Pul.base0 | exact Pul.base | apply Pul.cons | apply Pul.app)) ?_
      refine WS_nil ?_
      refine InB_normal ?_
      exact Loop_next (seen.push bn, ck, addX p xs xk y, a2, cap2, Hr2) ⟨hI.step hy hg.born hns hyb hyr, Nat.le_refl _, hrow2⟩ (by repeat (first | exact trivial | refine ⟨by rfl, ?_⟩)) sbA (leftL_lt hy hns)
    · cases c4
end Go.Proofs.YtjekjehgmljbgaaDoor.T

/- What is wanted, and the fewest pourings for it; pure. -/
namespace Go.Proofs.YtjekjehgmljbgaaDoor.T
open Go.RowKit Go.Proofs Go.Eng
set_option linter.unusedVariables false

/-- What is wanted: of some can, of all cans together, or of each one. -/
def Cn.someP (c : Cn) (n : Int) (x : Co) : Bool := decide (n ∈ (c.of x).inn)
def totP (n : Int) (x : Co) : Bool := decide (x.b + x.c + x.d = n)
def Cn.bothP (c : Cn) (want : List Int) (x : Co) : Bool := (List.range want.length).all fun k => decide (want.getD k 0 < 0 ∨ (c.of x).i k = want.getD k 0)
/-- The fewest pourings. -/
def Cn.IsFew (c : Cn) (p : Co → Bool) (w : Wy) : Prop := (∃ k, p k = true ∧ c.Best w k) ∧ ∀ k v, p k = true → c.Best v k → v.lt w = false
open Classical in
noncomputable def Cn.few (c : Cn) (p : Co → Bool) : Option Wy := if h : ∃ w, c.IsFew p w then some h.choose else none
theorem Cn.IsFew.uniq {c : Cn} {p : Co → Bool} {w v : Wy} (h : c.IsFew p w) (h' : c.IsFew p v) : w = v := by
  obtain ⟨⟨k, h1, h2⟩, h3⟩ := h
  obtain ⟨⟨k', h1', h2'⟩, h3'⟩ := h'
  exact Wy.tot (h3' k w h1 h2) (h3 k' v h1' h2')
theorem Cn.few_some {c : Cn} {p : Co → Bool} {w : Wy} (h : c.IsFew p w) : c.few p = some w := by
  unfold Cn.few
  have hx : ∃ w, c.IsFew p w := ⟨w, h⟩
  rw [dif_pos hx, hx.choose_spec.uniq h]
theorem Cn.few_none {c : Cn} {p : Co → Bool} (h : ∀ k v, p k = true → ¬ c.Best v k) : c.few p = none := by
  unfold Cn.few
  rw [dif_neg]
  rintro ⟨w, ⟨k, h1, h2⟩, _⟩
  exact h k w h1 h2
def fewL (o : Option Wy) : List Po := match o with | some w => w.l | none => []
def fewB (o : Option Wy) : Int := match o with | some w => w.back | none => 0
def fewE (o : Option Wy) : Int := match o with | some _ => 0 | none => 6
theorem FewV.yes' {c : Cn} {p : Co → Bool} {HX : List Blk} {x : Wl} {b : Bool} (h : FewV c p HX x b) (hb : b = true) : c.few p = some x.w := Cn.few_some (h.yes hb)
theorem FewV.no' {c : Cn} {p : Co → Bool} {HX : List Blk} {x : Wl} {b : Bool} (h : FewV c p HX x b) (hb : b = false) : x = Wl.z ∧ c.few p = none := ⟨(h.no hb).1, Cn.few_none (h.no hb).2⟩
/-- A list of pourings in new memory. -/
def TwinP (l : List Po) (v : Value) (Hn : List Blk) : Prop := ∃ a k, v = .slice a l.length k ∧ ∀ (C : Ctx) (H : List Blk) (w : World), Hn.Sublist H → St C H w → Pos w a l.length k l
theorem TwinP.nil (Hn : List Blk) : TwinP [] (.slice none 0 0) Hn := ⟨none, 0, rfl, fun C H w _ _ => Rws.nil _ _ _⟩
def AimV (o : Option Wy) (v : Value) (Hn : List Blk) : Prop := ∃ v0, v = .tuple #[v0, .int .i64 (fewB o), .int .i64 (fewE o)] ∧ TwinP (fewL o) v0 Hn
/-- The reference's search, part way. -/
def FewK (p : Co → Bool) (xs : List (Co × Wy)) (k : Nat) (b : Bool) (i : Nat) : Prop :=
  if b then i < k ∧ (∃ z : Co × Wy, xs[i]? = some z ∧ p z.1 = true ∧ ∀ (j : Nat) (y : Co × Wy), j < k → xs[j]? = some y → p y.1 = true → y.2.lt z.2 = false)
  else ∀ (j : Nat) (y : Co × Wy), j < k → xs[j]? = some y → p y.1 = false
theorem FewK.zero (p : Co → Bool) (xs : List (Co × Wy)) : FewK p xs 0 false 0 := fun j y h => absurd h (Nat.not_lt_zero _)
theorem FewK.skip {p : Co → Bool} {xs : List (Co × Wy)} {k i : Nat} {b : Bool} {z : Co × Wy} (h : FewK p xs k b i) (hz : xs[k]? = some z) (hp : p z.1 = false) : FewK p xs (k + 1) b i := by
  unfold FewK at h ⊢
  cases b
  · intro j y hj hy
    by_cases he : j = k
    · subst he; rw [hz] at hy; cases hy; exact hp
    · exact h j y (by omega) hy
  · obtain ⟨h1, z', h2, h3, h4⟩ := h
    refine ⟨by omega, z', h2, h3, fun j y hj hy hpy => ?_⟩
    by_cases he : j = k
    · subst he; rw [hz] at hy; cases hy; rw [hp] at hpy; cases hpy
    · exact h4 j y (by omega) hy hpy
theorem FewK.fst {p : Co → Bool} {xs : List (Co × Wy)} {k i : Nat} {z : Co × Wy} (h : FewK p xs k false i) (hz : xs[k]? = some z) (hp : p z.1 = true) : FewK p xs (k + 1) true k := by
  refine ⟨Nat.lt_succ_self _, z, hz, hp, fun j y hj hy hpy => ?_⟩
  by_cases he : j = k
  · subst he; rw [hz] at hy; cases hy; exact Wy.lt_irrefl _
  · have := h j y (by omega) hy
    rw [hpy] at this; cases this
theorem FewK.take {p : Co → Bool} {xs : List (Co × Wy)} {k i : Nat} {z u : Co × Wy} (h : FewK p xs k true i) (hi : xs[i]? = some u) (hz : xs[k]? = some z) (hp : p z.1 = true) (hl : z.2.lt u.2 = true) : FewK p xs (k + 1) true k := by
  obtain ⟨h1, z', h2, h3, h4⟩ := h
  rw [hi] at h2
  cases h2
  refine ⟨Nat.lt_succ_self _, z, hz, hp, fun j y hj hy hpy => ?_⟩
  by_cases he : j = k
  · subst he; rw [hz] at hy; cases hy; exact Wy.lt_irrefl _
  · cases hlt : y.2.lt z.2 with
    | false => rfl
    | true => have := h4 j y (by omega) hy hpy; rw [Wy.lt_trans hlt hl] at this; exact this
theorem FewK.keep {p : Co → Bool} {xs : List (Co × Wy)} {k i : Nat} {z u : Co × Wy} (h : FewK p xs k true i) (hi : xs[i]? = some u) (hz : xs[k]? = some z) (hl : z.2.lt u.2 = false) : FewK p xs (k + 1) true i := by
  obtain ⟨h1, z', h2, h3, h4⟩ := h
  rw [hi] at h2
  cases h2
  refine ⟨by omega, u, hi, h3, fun j y hj hy hpy => ?_⟩
  by_cases he : j = k
  · subst he; rw [hz] at hy; cases hy; exact hl
  · exact h4 j y (by omega) hy hpy
theorem FewK.end_yes {c : Cn} {p : Co → Bool} {xs : List (Co × Wy)} {i : Nat} {u : Co × Wy} (hR : c.Rcd xs) (h : FewK p xs xs.length true i) (hi : xs[i]? = some u) : c.few p = some u.2 := by
  obtain ⟨h1, z', h2, h3, h4⟩ := h
  rw [hi] at h2
  cases h2
  refine Cn.few_some ⟨⟨u.1, h3, hR.best u (List.mem_of_getElem? hi)⟩, fun k v hk hv => ?_⟩
  obtain ⟨j, hj⟩ := List.getElem?_of_mem (hR.all k v hv)
  exact h4 j _ (List.getElem?_eq_some_iff.1 hj).1 hj hk
theorem FewK.end_no {c : Cn} {p : Co → Bool} {xs : List (Co × Wy)} {i : Nat} (hR : c.Rcd xs) (h : FewK p xs xs.length false i) : c.few p = none := by
  refine Cn.few_none fun k v hk hv => ?_
  obtain ⟨j, hj⟩ := List.getElem?_of_mem (hR.all k v hv)
  have := h j _ (List.getElem?_eq_some_iff.1 hj).1 hj
  rw [hk] at this
  cases this
/-- The reference's comparison of two ways. -/
def wbetB (a b : Wy) : Bool := decide (a.back < b.back) || (decide (a.back = b.back) && plt a.l b.l)
theorem wbetB_lt {a b : Wy} (h : a.l.length = b.l.length) : wbetB a b = a.lt b := by
  unfold wbetB Wy.lt
  simp [h]
theorem Wy.ge_lt {a b : Wy} (h : b.l.length ≤ a.l.length) (hn : ¬ (a.l.length = b.l.length ∧ wbetB a b = true)) : a.lt b = false := by
  cases hl : a.lt b with
  | false => rfl
  | true =>
    by_cases he : a.l.length = b.l.length
    · exact absurd ⟨he, by rw [wbetB_lt he]; exact hl⟩ hn
    · rw [Wy.lt_iff] at hl
      omega
theorem Cn.Rcd.mono {c : Cn} {xs : List (Co × Wy)} (hR : c.Rcd xs) {i k : Nat} {a b : Co × Wy} (hik : i < k) (hi : xs[i]? = some a) (hk : xs[k]? = some b) : a.2.l.length ≤ b.2.l.length := by
  obtain ⟨h1, e1⟩ := List.getElem?_eq_some_iff.1 hi
  obtain ⟨h2, e2⟩ := List.getElem?_eq_some_iff.1 hk
  have := List.pairwise_iff_getElem.1 hR.srt i k h1 h2 hik
  rw [e1, e2] at this
  exact this
/-- Comparing lists step by step. -/
theorem plt_step {l m : List Po} {k : Nat} (h : k < l.length) (h' : k < m.length) : plt (l.drop k) (m.drop k) = ((l.getD k Po.z).lt (m.getD k Po.z) || (decide (l.getD k Po.z = m.getD k Po.z) && plt (l.drop (k + 1)) (m.drop (k + 1)))) := by
  rw [List.drop_eq_getElem_cons h, List.drop_eq_getElem_cons h']
  simp [plt, h, h', List.getD_eq_getElem?_getD]
theorem plt_end {l m : List Po} {k : Nat} (h : l.length ≤ k) : plt (l.drop k) (m.drop k) = false := by
  rw [List.drop_eq_nil_of_le h]; rfl
theorem Po.eq_of2 {p q : Po} (h1 : p.f = q.f) (h2 : p.t = q.t) : p = q := by
  obtain ⟨a, b⟩ := p
  obtain ⟨a', b'⟩ := q
  simp only at h1 h2
  rw [h1, h2]
def sumL : List Int → Int
  | [] => 0
  | x :: l => x + sumL l
def sumTo (xs : List Int) (k : Nat) : Int := sumL (xs.take k)
theorem sumL_app (l m : List Int) : sumL (l ++ m) = sumL l + sumL m := by
  induction l with
  | nil => simp [sumL]
  | cons x l ih => simp only [List.cons_append, sumL, ih]; omega
theorem sumTo_succ {xs : List Int} {k : Nat} (h : k < xs.length) : sumTo xs (k + 1) = sumTo xs k + xs.getD k 0 := by
  unfold sumTo
  rw [List.take_add_one, sumL_app]
  simp [h, sumL, List.getD_eq_getElem?_getD]
theorem Cn.sum_of {c : Cn} (hok : c.Ok) {x : Co} (hx : c.In x) : sumL (c.of x).inn = x.b + x.c + x.d := by
  have h1 := hok.n1
  have h3 := hok.n3
  have z2 : c.n < 2 → x.c = 0 := fun hn => hx.z 2 hn (by decide)
  have z3 : c.n < 3 → x.d = 0 := fun hn => hx.z 3 hn (by decide)
  unfold Cn.of
  simp only
  obtain h | h | h : c.n = 1 ∨ c.n = 2 ∨ c.n = 3 := by omega
  · have := z2 (by omega); have := z3 (by omega)
    rw [h]; simp [sumL]; omega
  · have := z3 (by omega)
    rw [h]; simp [sumL]; omega
  · rw [h]; simp [sumL]; omega
end Go.Proofs.YtjekjehgmljbgaaDoor.T

/- The reference's numbers of contents, and its comparisons of ways, walked. -/
namespace Go.Proofs.YtjekjehgmljbgaaDoor.T
open Go.RowKit Go.Proofs Go.Eng
set_option maxRecDepth 100000
set_option maxHeartbeats 1000000
set_option linter.unusedVariables false
set_option linter.unusedSimpArgs false

theorem fa128_1 : ∀ b o w, (Instr.fieldAt 128 (.pointer (some ⟨b, o, none⟩)) 1).run Tryd.prog w = .ok (.pointer (some ⟨b, o + 3, none⟩)) w := fun b o w => by kernel_rfl
theorem fa128_2 : ∀ b o w, (Instr.fieldAt 128 (.pointer (some ⟨b, o, none⟩)) 2).run Tryd.prog w = .ok (.pointer (some ⟨b, o + 4, none⟩)) w := fun b o w => by kernel_rfl

/-- The number so far. -/
def kyT (xs : List Int) (k : Nat) : Int := kyL 0 (xs.take k)
theorem kyL_app (l : List Int) (x : Int) : ∀ n, kyL n (l ++ [x]) = 21 * kyL n l + x := by
  induction l with
  | nil => intro n; rfl
  | cons y l ih => intro n; exact ih _
theorem kyT_succ {xs : List Int} {k : Nat} (h : k < xs.length) : kyT xs (k + 1) = 21 * kyT xs k + xs.getD k 0 := by
  unfold kyT
  rw [List.take_add_one, List.getElem?_eq_getElem h]
  simp only [Option.toList_some]
  rw [kyL_app]
  simp [h, List.getD_eq_getElem?_getD]
theorem kyT_bd {xs : List Int} (h : ∀ k, k < xs.length → 0 ≤ xs.getD k 0 ∧ xs.getD k 0 ≤ 20) : ∀ k, k ≤ xs.length → 0 ≤ kyT xs k ∧ kyT xs k ≤ 21 ^ k - 1
  | 0, _ => by unfold kyT; simp [kyL]
  | k + 1, hk => by
    have ih := kyT_bd h k (by omega)
    have hx := h k (by omega)
    rw [kyT_succ (by omega), Int.pow_succ]
    omega
theorem kyT_bd3 {xs : List Int} (h : ∀ k, k < xs.length → 0 ≤ xs.getD k 0 ∧ xs.getD k 0 ≤ 20) (h3 : xs.length ≤ 3) {k : Nat} (hk : k ≤ xs.length) : 0 ≤ kyT xs k ∧ kyT xs k ≤ 9260 := by
  have h1 := kyT_bd h k hk
  obtain rfl | rfl | rfl | rfl : k = 0 ∨ k = 1 ∨ k = 2 ∨ k = 3 := by omega
  all_goals omega
theorem rkey_any (c : Cn) (a1 : Option Addr) (p1 : Nat) (a2 : Option Addr) (p2 : Nat) (w : World) (hn : c.n ≤ 1000000) (hl3 : c.inn.length ≤ 3) (hbd : ∀ k, k < c.inn.length → 0 ≤ c.inn.getD k 0 ∧ c.inn.getD k 0 ≤ 20) (h2 : Ints w a2 c.inn.length p2 c.inn) :
    Ct Tryd.prog 108 #[.agg #[.slice a1 c.n p1, .slice a2 c.inn.length p2, .int .i64 c.st]] w fun v _ => v = .int .i64 (kyL 0 c.inn) := by
  have hF := wide_wide
  refine Ct_start (args := [_]) Tryd.func108 (by rfl) Tryd.ntmps108 (by rfl) ?_
  refine W_seq ?_
  refine W_region_lit (fun ds => ?_)
  refine WS_new hF (by rfl) (y_box (by rfl)) (fun b1 => ?_)
  refine WS_det hF (by rfl) (y_assign (c := .int .i64 _) (by rfl)) ?_
  refine WS_nil ?_
  refine Then_normal ?_
  refine W_seq ?_
  refine W_region_lit (fun ds => ?_)
  refine WS_det hF (by rfl) (y_assign (c := .int .i64 _) (by rfl)) ?_
  refine WS_nil ?_
  refine Then_normal ?_
  refine W_seq ?_
  refine W_seq ?_
  refine W_region_lit (fun ds => ?_)
  refine WS_det hF (by rfl) (y_fieldAddr (by rfl) fa24_1) ?_
  refine WS_det hF (by rfl) (y_load1 (by rfl) Tryd.isAgg22 (Mem.own1 0 (by rfl) (by rfl))) ?_
  refine WS_det hF (by rfl) (y_len (by rfl) Tryd.runUnderlying22) ?_
  refine WS_det hF (by rfl) (y_move (c := .int .i64 _) (by rfl)) ?_
  refine WS_nil ?_
  refine Then_normal ?_
  refine W_block ?_
  refine W_loop (γ := Nat) (fun k => k ≤ c.inn.length) (fun k => [(3, .int .i64 (kyT c.inn k)), (7, .slice a2 c.inn.length p2), (8, .int .i64 (c.inn.length : Int)), (9, .int .i64 (k : Int))]) (fun _ => _) (fun k => c.inn.length - k) (0) (Nat.zero_le _) (by repeat (first | exact trivial | refine ⟨by rfl, ?_⟩)) (List.Sublist.refl _) ?_
  intro k e hk
  refine W_seq ?_
  refine W_region_lit (fun ds => ?_)
  refine WS_det hF (by rfl) (y_lss (by rfl) (by rfl)) ?_
  refine WS_nil ?_
  refine Then_normal ?_
  refine W_seq ?_
  refine W_cond (by rfl) (fun c3 => ?_) (fun c3 => ?_)
  ·
    try simp only [Bool.not_eq_true', Bool.not_eq_false', decide_eq_true_eq, decide_eq_false_iff_not, ne_eq, Classical.not_not, Int.not_lt, Int.not_le] at c3
    obtain ⟨b, o, rfl, hc⟩ := h2.cell k (by omega)
    have hb := kyT_bd3 hbd hl3 hk
    have hx := hbd k (by omega)
    have hsc := kyT_succ (xs := c.inn) (k := k) (by omega)
    refine W_skip ?_
    refine Then_normal ?_
    refine W_seq ?_
    refine W_block ?_
    refine W_seq ?_
    refine W_region_lit (fun ds => ?_)
    refine WS_det hF (by rfl) (y_index (k := k) (by rfl) (by rfl) (by first | rfl | omega) (by first | decide | omega) Tryd.runUnderlying22 Tryd.sizeOf3) ?_
    refine WS_det hF (by rfl) (y_load1 (by rfl) Tryd.isAgg3 (by first | exact Mem.old1 (by assumption) | exact Mem.oldAt1 (by assumption) (by rfl) | exact Mem.old (by assumption) | exact Mem.oldAtL1 (by assumption) (by rfl) (by rfl))) ?_
    refine WS_det hF (by rfl) (y_assign (c := .int .i64 _) (by rfl)) ?_
    refine WS_nil ?_
    refine Then_normal ?_
    refine W_region_lit (fun ds => ?_)
    refine WS_det hF (by rfl) (y_move (c := .int .i64 _) (by rfl)) ?_
    refine WS_det hF (by rfl) (y_mul (by rfl) (by rfl) (by unfold I64; omega)) ?_
    refine WS_det hF (by rfl) (y_move (c := .int .i64 _) (by rfl)) ?_
    refine WS_det hF (by rfl) (y_add (by rfl) (by rfl) (by unfold I64; omega)) ?_
    refine WS_det hF (by rfl) (y_assign (c := .int .i64 _) (by rfl)) ?_
    refine WS_nil ?_
    refine InB_normal ?_
    refine Then_normal ?_
    rw [← hsc]
    refine W_region_lit (fun ds => ?_)
    refine WS_det hF (by rfl) (y_add (by rfl) (by rfl) (by unfold I64; omega)) ?_
    refine WS_det hF (by rfl) (y_move (c := .int .i64 _) (by rfl)) ?_
    refine WS_nil ?_
    exact Loop_next (k + 1) (by omega) (by repeat (first | exact trivial | refine ⟨by rfl, ?_⟩)) (by repeat (first | exact List.Sublist.refl _ | exact List.nil_sublist _ | apply List.Sublist.cons_cons | apply List.Sublist.cons)) (by omega)
  ·
    try simp only [Bool.not_eq_true', Bool.not_eq_false', decide_eq_true_eq, decide_eq_false_iff_not, ne_eq, Classical.not_not, Int.not_lt, Int.not_le] at c3
    refine W_exit ?_
    refine Then_exit ?_
    refine Loop_exit ?_
    refine InB_same ?_
    refine Then_normal ?_
    refine W_seq ?_
    refine W_region_lit (fun ds => ?_)
    refine WS_det hF (by rfl) (y_move (c := .int .i64 _) (by rfl)) ?_
    refine WS_det hF (by rfl) (y_assign (c := .int .i64 _) (by rfl)) ?_
    refine WS_nil ?_
    refine Then_normal ?_
    refine W_ret ?_
    refine Fin_ret [.int .i64 _] [] Tryd.results108 ⟨by rfl, trivial⟩ HSub.nil ?_
    have : k = c.inn.length := by omega
    subst this
    unfold kyT
    rw [List.take_length]
    rfl
def pcmp : List Po → List Po → Nat → Prop := fun l m k => plt (l.drop k) (m.drop k) = plt l m
theorem rsooner_any (l m : List Po) (la : Option Addr) (lcap : Nat) (ma : Option Addr) (mcap : Nat) (w : World) (hlm : l.length = m.length) (hl : l.length ≤ 1000000) (hp : Pos w la l.length lcap l) (hq : Pos w ma m.length mcap m) :
    Ct Tryd.prog 134 #[.slice la l.length lcap, .slice ma m.length mcap] w fun v _ => v = .bool (plt l m) := by
  have hF := wide_wide
  refine Ct_start (args := [_, _]) Tryd.func134 (by rfl) Tryd.ntmps134 (by rfl) ?_
  refine W_seq ?_
  refine W_region_lit (fun ds => ?_)
  refine WS_det hF (by rfl) (y_assign (c := .bool _) (by rfl)) ?_
  refine WS_nil ?_
  refine Then_normal ?_
  refine W_seq ?_
  refine W_seq ?_
  refine W_region_lit (fun ds => ?_)
  refine WS_det hF (by rfl) (y_assign (c := .int .i64 _) (by rfl)) ?_
  refine WS_nil ?_
  refine Then_normal ?_
  refine W_block ?_
  refine W_loop (γ := Nat) (fun k => k ≤ l.length ∧ plt (l.drop k) (m.drop k) = plt l m) (fun k => [(0, .slice la l.length lcap), (1, .slice ma m.length mcap), (5, .int .i64 (k : Int))]) (fun _ => _) (fun k => l.length - k) (0) ⟨Nat.zero_le _, by simp⟩ (by repeat (first | exact trivial | refine ⟨by rfl, ?_⟩)) (List.Sublist.refl _) ?_
  intro k e hk
  refine W_seq ?_
  refine W_seq ?_
  refine W_region_lit (fun ds => ?_)
  refine WS_det hF (by rfl) (y_move (c := .int .i64 _) (by rfl)) ?_
  refine WS_det hF (by rfl) (y_move (c := .slice _ _ _) (by rfl)) ?_
  refine WS_det hF (by rfl) (y_len (by rfl) Tryd.runUnderlying27) ?_
  refine WS_det hF (by rfl) (y_lss (by rfl) (by rfl)) ?_
  refine WS_nil ?_
  refine Then_normal ?_
  refine W_cond (by rfl) (fun c2 => ?_) (fun c2 => ?_)
  ·
    try simp only [Bool.not_eq_true', Bool.not_eq_false', decide_eq_true_eq, decide_eq_false_iff_not, ne_eq, Classical.not_not, Int.not_lt, Int.not_le] at c2
    obtain ⟨b, o, rfl, hc⟩ := hp.cell k (by omega)
    change At w b _ (l.getD k Po.z).cells at hc
    obtain ⟨b', o', rfl, hc'⟩ := hq.cell k (by omega)
    change At w b' _ (m.getD k Po.z).cells at hc'
    have hst := plt_step (l := l) (m := m) (k := k) (by omega) (by omega)
    refine W_skip ?_
    refine Then_normal ?_
    refine W_seq ?_
    refine W_block ?_
    refine W_seq ?_
    refine W_seq ?_
    refine W_draw0 hF Trydmixed [] (by decide +kernel) (fun ds => ?_)
    refine P_det (by rfl) (Over_nil (y_move (c := .slice _ _ _) (by rfl))) ?_
    refine P_det (by rfl) (Over_nil (y_move (c := .int .i64 _) (by rfl))) ?_
    refine P_det (by rfl) (Over_nil (y_index (k := k) (by rfl) (by rfl) (by first | rfl | omega) (by first | decide | omega) Tryd.runUnderlying27 Tryd.sizeOf26)) ?_
    refine P_det (by rfl) (Over_nil (y_fieldAddr (by rfl) fa26_0)) ?_
    refine P_det (by rfl) (Over_nil (y_load1 (by rfl) Tryd.isAgg3 (by first | exact Mem.old1 (by assumption) | exact Mem.oldAt1 (by assumption) (by rfl) | exact Mem.old (by assumption) | exact Mem.oldAtL1 (by assumption) (by rfl) (by rfl)))) ?_
    refine P_det (by rfl) (Over_nil (y_move (c := .slice _ _ _) (by rfl))) ?_
    refine P_det (by rfl) (Over_nil (y_move (c := .int .i64 _) (by rfl))) ?_
    refine P_det (by rfl) (Over_nil (y_index (k := k) (by rfl) (by rfl) (by first | rfl | omega) (by first | decide | omega) Tryd.runUnderlying27 Tryd.sizeOf26)) ?_
    refine P_det (by rfl) (Over_nil (y_fieldAddr (by rfl) fa26_0)) ?_
    refine P_det (by rfl) (Over_nil (y_load1 (by rfl) Tryd.isAgg3 (by first | exact Mem.old1 (by assumption) | exact Mem.oldAt1 (by assumption) (by rfl) | exact Mem.old (by assumption) | exact Mem.oldAtL1 (by assumption) (by rfl) (by rfl)))) ?_
    refine P_det (by rfl) (Over_nil (y_neq (by rfl) (by rfl))) ?_
    refine PW_end (by rfl) ?_
    refine OverAll_nil ?_
    rintro -
    refine Then_normal ?_
    refine W_cond (by rfl) (fun c4 => ?_) (fun c4 => ?_)
    ·
      try simp only [Bool.not_eq_true', Bool.not_eq_false', decide_eq_true_eq, decide_eq_false_iff_not, ne_eq, Classical.not_not, Int.not_lt, Int.not_le] at c4
      refine W_seq ?_
      refine W_draw0 hF Trydmixed [] (by decide +kernel) (fun ds => ?_)
      refine P_det (by rfl) (Over_nil (y_move (c := .slice _ _ _) (by rfl))) ?_
      refine P_det (by rfl) (Over_nil (y_move (c := .int .i64 _) (by rfl))) ?_
      refine P_det (by rfl) (Over_nil (y_index (k := k) (by rfl) (by rfl) (by first | rfl | omega) (by first | decide | omega) Tryd.runUnderlying27 Tryd.sizeOf26)) ?_
      refine P_det (by rfl) (Over_nil (y_fieldAddr (by rfl) fa26_0)) ?_
      refine P_det (by rfl) (Over_nil (y_load1 (by rfl) Tryd.isAgg3 (by first | exact Mem.old1 (by assumption) | exact Mem.oldAt1 (by assumption) (by rfl) | exact Mem.old (by assumption) | exact Mem.oldAtL1 (by assumption) (by rfl) (by rfl)))) ?_
      refine P_det (by rfl) (Over_nil (y_move (c := .slice _ _ _) (by rfl))) ?_
      refine P_det (by rfl) (Over_nil (y_move (c := .int .i64 _) (by rfl))) ?_
      refine P_det (by rfl) (Over_nil (y_index (k := k) (by rfl) (by rfl) (by first | rfl | omega) (by first | decide | omega) Tryd.runUnderlying27 Tryd.sizeOf26)) ?_
      refine P_det (by rfl) (Over_nil (y_fieldAddr (by rfl) fa26_0)) ?_
      refine P_det (by rfl) (Over_nil (y_load1 (by rfl) Tryd.isAgg3 (by first | exact Mem.old1 (by assumption) | exact Mem.oldAt1 (by assumption) (by rfl) | exact Mem.old (by assumption) | exact Mem.oldAtL1 (by assumption) (by rfl) (by rfl)))) ?_
      refine P_det (by rfl) (Over_nil (y_lss (by rfl) (by rfl))) ?_
      refine P_det (by rfl) (Over_nil (y_assign (c := .bool _) (by rfl))) ?_
      refine PW_end (by rfl) ?_
      refine OverAll_nil ?_
      rintro -
      refine Then_normal ?_
      refine W_ret ?_
      refine Then_ret ?_
      refine InB_ret ?_
      refine Then_ret ?_
      refine Loop_ret ?_
      refine InB_ret ?_
      refine Then_ret ?_
      refine Fin_ret [.bool _] [] Tryd.results134 ⟨by rfl, trivial⟩ HSub.nil ?_
      rw [← hk.2, hst]
      show Value.bool _ = _
      congr 1
      rw [Bool.eq_iff_iff]
      simp only [Bool.or_eq_true, Bool.and_eq_true, decide_eq_true_eq, Po.lt_iff]
      constructor
      · intro h; exact .inl (.inl h)
      · rintro ((h | ⟨h, _⟩) | ⟨h, _⟩)
        · exact h
        · exact absurd h c4
        · exact absurd (by rw [h]) c4
    ·
      try simp only [Bool.not_eq_true', Bool.not_eq_false', decide_eq_true_eq, decide_eq_false_iff_not, ne_eq, Classical.not_not, Int.not_lt, Int.not_le] at c4
      refine W_skip ?_
      refine Then_normal ?_
      refine W_seq ?_
      refine W_draw0 hF Trydmixed [] (by decide +kernel) (fun ds => ?_)
      refine P_det (by rfl) (Over_nil (y_move (c := .slice _ _ _) (by rfl))) ?_
      refine P_det (by rfl) (Over_nil (y_move (c := .int .i64 _) (by rfl))) ?_
      refine P_det (by rfl) (Over_nil (y_index (k := k) (by rfl) (by rfl) (by first | rfl | omega) (by first | decide | omega) Tryd.runUnderlying27 Tryd.sizeOf26)) ?_
      refine P_det (by rfl) (Over_nil (y_fieldAddr (by rfl) fa26_1)) ?_
      refine P_det (by rfl) (Over_nil (y_load1 (by rfl) Tryd.isAgg3 (by first | exact Mem.old1 (by assumption) | exact Mem.oldAt1 (by assumption) (by rfl) | exact Mem.old (by assumption) | exact Mem.oldAtL1 (by assumption) (by rfl) (by rfl)))) ?_
      refine P_det (by rfl) (Over_nil (y_move (c := .slice _ _ _) (by rfl))) ?_
      refine P_det (by rfl) (Over_nil (y_move (c := .int .i64 _) (by rfl))) ?_
      refine P_det (by rfl) (Over_nil (y_index (k := k) (by rfl) (by rfl) (by first | rfl | omega) (by first | decide | omega) Tryd.runUnderlying27 Tryd.sizeOf26)) ?_
      refine P_det (by rfl) (Over_nil (y_fieldAddr (by rfl) fa26_1)) ?_
      refine P_det (by rfl) (Over_nil (y_load1 (by rfl) Tryd.isAgg3 (by first | exact Mem.old1 (by assumption) | exact Mem.oldAt1 (by assumption) (by rfl) | exact Mem.old (by assumption) | exact Mem.oldAtL1 (by assumption) (by rfl) (by rfl)))) ?_
      refine P_det (by rfl) (Over_nil (y_neq (by rfl) (by rfl))) ?_
      refine PW_end (by rfl) ?_
      refine OverAll_nil ?_
      rintro -
      refine Then_normal ?_
      refine W_cond (by rfl) (fun c6 => ?_) (fun c6 => ?_)
      ·
        try simp only [Bool.not_eq_true', Bool.not_eq_false', decide_eq_true_eq, decide_eq_false_iff_not, ne_eq, Classical.not_not, Int.not_lt, Int.not_le] at c6
        refine W_seq ?_
        refine W_draw0 hF Trydmixed [] (by decide +kernel) (fun ds => ?_)
        refine P_det (by rfl) (Over_nil (y_move (c := .slice _ _ _) (by rfl))) ?_
        refine P_det (by rfl) (Over_nil (y_move (c := .int .i64 _) (by rfl))) ?_
        refine P_det (by rfl) (Over_nil (y_index (k := k) (by rfl) (by rfl) (by first | rfl | omega) (by first | decide | omega) Tryd.runUnderlying27 Tryd.sizeOf26)) ?_
        refine P_det (by rfl) (Over_nil (y_fieldAddr (by rfl) fa26_1)) ?_
        refine P_det (by rfl) (Over_nil (y_load1 (by rfl) Tryd.isAgg3 (by first | exact Mem.old1 (by assumption) | exact Mem.oldAt1 (by assumption) (by rfl) | exact Mem.old (by assumption) | exact Mem.oldAtL1 (by assumption) (by rfl) (by rfl)))) ?_
        refine P_det (by rfl) (Over_nil (y_move (c := .slice _ _ _) (by rfl))) ?_
        refine P_det (by rfl) (Over_nil (y_move (c := .int .i64 _) (by rfl))) ?_
        refine P_det (by rfl) (Over_nil (y_index (k := k) (by rfl) (by rfl) (by first | rfl | omega) (by first | decide | omega) Tryd.runUnderlying27 Tryd.sizeOf26)) ?_
        refine P_det (by rfl) (Over_nil (y_fieldAddr (by rfl) fa26_1)) ?_
        refine P_det (by rfl) (Over_nil (y_load1 (by rfl) Tryd.isAgg3 (by first | exact Mem.old1 (by assumption) | exact Mem.oldAt1 (by assumption) (by rfl) | exact Mem.old (by assumption) | exact Mem.oldAtL1 (by assumption) (by rfl) (by rfl)))) ?_
        refine P_det (by rfl) (Over_nil (y_lss (by rfl) (by rfl))) ?_
        refine P_det (by rfl) (Over_nil (y_assign (c := .bool _) (by rfl))) ?_
        refine PW_end (by rfl) ?_
        refine OverAll_nil ?_
        rintro -
        refine Then_normal ?_
        refine W_ret ?_
        refine InB_ret ?_
        refine Then_ret ?_
        refine Loop_ret ?_
        refine InB_ret ?_
        refine Then_ret ?_
        refine Fin_ret [.bool _] [] Tryd.results134 ⟨by rfl, trivial⟩ HSub.nil ?_
        rw [← hk.2, hst]
        show Value.bool _ = _
        congr 1
        rw [Bool.eq_iff_iff]
        simp only [Bool.or_eq_true, Bool.and_eq_true, decide_eq_true_eq, Po.lt_iff]
        constructor
        · intro h; exact .inl (.inr ⟨c4, h⟩)
        · rintro ((h | ⟨_, h⟩) | ⟨h, _⟩)
          · omega
          · exact h
          · exact absurd (by rw [h]) c6
      ·
        try simp only [Bool.not_eq_true', Bool.not_eq_false', decide_eq_true_eq, decide_eq_false_iff_not, ne_eq, Classical.not_not, Int.not_lt, Int.not_le] at c6
        refine W_skip ?_
        refine InB_normal ?_
        refine Then_normal ?_
        refine W_region_lit (fun ds => ?_)
        refine WS_det hF (by rfl) (y_move (c := .int .i64 _) (by rfl)) ?_
        refine WS_det hF (by rfl) (y_add (by rfl) (by rfl) (by unfold I64; omega)) ?_
        refine WS_det hF (by rfl) (y_assign (c := .int .i64 _) (by rfl)) ?_
        refine WS_nil ?_
        exact Loop_next (k + 1) ⟨by omega, by rw [← hk.2, hst, Po.eq_of2 c4 c6]; simp [Po.lt_iff]⟩ (by repeat (first | exact trivial | refine ⟨by rfl, ?_⟩)) (by repeat (first | exact List.Sublist.refl _ | exact List.nil_sublist _ | apply List.Sublist.cons_cons | apply List.Sublist.cons)) (by omega)
  ·
    try simp only [Bool.not_eq_true', Bool.not_eq_false', decide_eq_true_eq, decide_eq_false_iff_not, ne_eq, Classical.not_not, Int.not_lt, Int.not_le] at c2
    refine W_exit ?_
    refine Then_exit ?_
    refine Loop_exit ?_
    refine InB_same ?_
    refine Then_normal ?_
    refine W_seq ?_
    refine W_region_lit (fun ds => ?_)
    refine WS_det hF (by rfl) (y_assign (c := .bool _) (by rfl)) ?_
    refine WS_nil ?_
    refine Then_normal ?_
    refine W_ret ?_
    refine Fin_ret [.bool _] [] Tryd.results134 ⟨by rfl, trivial⟩ HSub.nil ?_
    rw [← hk.2, plt_end (by omega)]
    rfl
theorem rbetter_any (x y : Wy) (la : Option Addr) (lcap : Nat) (ma : Option Addr) (mcap : Nat) (w : World) (hlm : x.l.length = y.l.length) (hl : x.l.length ≤ 1000000) (a1 a2 a3 a4 : Option Addr) (n1 n2 n3 n4 k1 k2 k3 k4 : Nat) (s1 s2 : Int) (hp : Pos w la x.l.length lcap x.l) (hq : Pos w ma y.l.length mcap y.l) :
    Ct Tryd.prog 107 #[.agg #[.slice a1 n1 k1, .slice a2 n2 k2, .int .i64 s1, .slice la x.l.length lcap, .int .i64 x.back], .agg #[.slice a3 n3 k3, .slice a4 n4 k4, .int .i64 s2, .slice ma y.l.length mcap, .int .i64 y.back]] w fun v _ => v = .bool (wbetB x y) := by
  have hF := wide_wide
  refine Ct_start (args := [_, _]) Tryd.func107 (by rfl) Tryd.ntmps107 (by rfl) ?_
  refine W_seq ?_
  refine W_region_lit (fun ds => ?_)
  refine WS_new hF (by rfl) (y_box (by rfl)) (fun b1 => ?_)
  refine WS_new hF (by rfl) (y_box (by rfl)) (fun b2 => ?_)
  refine WS_det hF (by rfl) (y_assign (c := .bool _) (by rfl)) ?_
  refine WS_nil ?_
  refine Then_normal ?_
  refine W_seq ?_
  refine W_seq ?_
  refine W_region_lit (fun ds => ?_)
  refine WS_det hF (by rfl) (y_fieldAddr (by rfl) fa128_2) ?_
  refine WS_det hF (by rfl) (y_load1 (by rfl) Tryd.isAgg3 (Mem.own1 1 (by rfl) (by rfl))) ?_
  refine WS_det hF (by rfl) (y_fieldAddr (by rfl) fa128_2) ?_
  refine WS_det hF (by rfl) (y_load1 (by rfl) Tryd.isAgg3 (Mem.own1 0 (by rfl) (by rfl))) ?_
  refine WS_det hF (by rfl) (y_neq (by rfl) (by rfl)) ?_
  refine WS_nil ?_
  refine Then_normal ?_
  refine W_cond (by rfl) (fun c1 => ?_) (fun c1 => ?_)
  ·
    try simp only [Bool.not_eq_true', Bool.not_eq_false', decide_eq_true_eq, decide_eq_false_iff_not, ne_eq, Classical.not_not, Int.not_lt, Int.not_le] at c1
    refine W_seq ?_
    refine W_region_lit (fun ds => ?_)
    refine WS_det hF (by rfl) (y_fieldAddr (by rfl) fa128_2) ?_
    refine WS_det hF (by rfl) (y_load1 (by rfl) Tryd.isAgg3 (Mem.own1 1 (by rfl) (by rfl))) ?_
    refine WS_det hF (by rfl) (y_fieldAddr (by rfl) fa128_2) ?_
    refine WS_det hF (by rfl) (y_load1 (by rfl) Tryd.isAgg3 (Mem.own1 0 (by rfl) (by rfl))) ?_
    refine WS_det hF (by rfl) (y_lss (by rfl) (by rfl)) ?_
    refine WS_det hF (by rfl) (y_assign (c := .bool _) (by rfl)) ?_
    refine WS_nil ?_
    refine Then_normal ?_
    refine W_ret ?_
    refine Then_ret ?_
    refine Fin_ret [.bool _] [] Tryd.results107 ⟨by rfl, trivial⟩ HSub.nil ?_
    unfold wbetB
    show Value.bool _ = _
    congr 1
    rw [Bool.eq_iff_iff]
    simp only [Bool.or_eq_true, Bool.and_eq_true, decide_eq_true_eq]
    constructor
    · intro h; exact .inl h
    · rintro (h | ⟨h, _⟩)
      · exact h
      · exact absurd h c1
  ·
    try simp only [Bool.not_eq_true', Bool.not_eq_false', decide_eq_true_eq, decide_eq_false_iff_not, ne_eq, Classical.not_not, Int.not_lt, Int.not_le] at c1
    refine W_skip ?_
    refine Then_normal ?_
    refine W_seq ?_
    refine W_region_lit (fun ds => ?_)
    refine WS_det hF (by rfl) (y_fieldAddr (by rfl) fa128_1) ?_
    refine WS_det hF (by rfl) (y_load1 (by rfl) Tryd.isAgg27 (Mem.own1 1 (by rfl) (by rfl))) ?_
    refine WS_det hF (by rfl) (y_fieldAddr (by rfl) fa128_1) ?_
    refine WS_det hF (by rfl) (y_load1 (by rfl) Tryd.isAgg27 (Mem.own1 0 (by rfl) (by rfl))) ?_
    refine WS_det hF (by rfl) (y_callL (by rfl) (by rfl) Tryd.call134 (fun w hw => rsooner_any x.l y.l la lcap ma mcap w hlm hl (hp.st w hw) (hq.st w hw))) ?_
    refine WS_det hF (by rfl) (y_assign (c := .bool _) (by rfl)) ?_
    refine WS_nil ?_
    refine Then_normal ?_
    refine W_ret ?_
    refine Fin_ret [.bool _] [] Tryd.results107 ⟨by rfl, trivial⟩ HSub.nil ?_
    unfold wbetB
    show Value.bool _ = _
    congr 1
    rw [Bool.eq_iff_iff]
    simp only [Bool.or_eq_true, Bool.and_eq_true, decide_eq_true_eq]
    constructor
    · intro h; exact .inr ⟨c1, h⟩
    · rintro (h | ⟨_, h⟩)
      · omega
      · exact h
end Go.Proofs.YtjekjehgmljbgaaDoor.T

/- What the reference has reached, and where it lies. -/
namespace Go.Proofs.YtjekjehgmljbgaaDoor.T
open Go.RowKit Go.Proofs Go.Eng
set_option maxRecDepth 100000
set_option maxHeartbeats 1000000
set_option linter.unusedVariables false
set_option linter.unusedSimpArgs false



/-- A content that is reached, its way, and where all lies. -/
structure Rl where
  x : Co
  w : Wy
  s : Option Addr
  ks : Nat
  i : Option Addr
  ki : Nat
  l : Option Addr
  kl : Nat
def Rl.z : Rl := ⟨Co.z, ⟨[], 0⟩, none, 0, none, 0, none, 0⟩
def Rl.cells (c : Cn) (r : Rl) : List Value := [.slice r.s c.n r.ks, .slice r.i (c.of r.x).inn.length r.ki, .int .i64 r.x.a, .slice r.l r.w.l.length r.kl, .int .i64 r.w.back]
theorem rl_len (c : Cn) : ∀ r, (Rl.cells c r).length = 5 := fun _ => rfl
def Rl.zz (r : Rl) : Co × Wy := (r.x, r.w)
structure Rl.RdH (c : Cn) (HH : List Blk) (r : Rl) : Prop where
  s : ∀ (C : Ctx) (H : List Blk) (w : World), HH.Sublist H → St C H w → Ints w r.s c.n r.ks c.sz
  i : ∀ (C : Ctx) (H : List Blk) (w : World), HH.Sublist H → St C H w → Ints w r.i (c.of r.x).inn.length r.ki (c.of r.x).inn
  p : ∀ (C : Ctx) (H : List Blk) (w : World), HH.Sublist H → St C H w → Pos w r.l r.w.l.length r.kl r.w.l
theorem Rl.RdH.mono {c : Cn} {HH HH' : List Blk} {r : Rl} (h : r.RdH c HH) (hs : HH.Sublist HH') : r.RdH c HH' :=
  ⟨fun C H w h2 hw => h.s C H w (hs.trans h2) hw, fun C H w h2 hw => h.i C H w (hs.trans h2) hw, fun C H w h2 hw => h.p C H w (hs.trans h2) hw⟩
theorem Rl.RdH.new {c : Cn} {HH H1 H2 H3 : List Blk} {r : Rl} (h1 : NewRow 3 1 c.n (iv c.sz) (.slice r.s c.n r.ks) H1) (h2 : NewRow 3 1 (c.of r.x).inn.length (iv (c.of r.x).inn) (.slice r.i (c.of r.x).inn.length r.ki) H2)
    (h3 : NewRow 26 2 r.w.l.length (rowOf Po.cells (fun k => r.w.l.getD k Po.z) r.w.l.length) (.slice r.l r.w.l.length r.kl) H3) (s1 : H1.Sublist HH) (s2 : H2.Sublist HH) (s3 : H3.Sublist HH) : r.RdH c HH :=
  ⟨fun C H w h hw => NewRow.ints h1 rfl (s1.trans h) w hw, fun C H w h hw => NewRow.ints h2 rfl (s2.trans h) w hw, fun C H w h hw => NewRow.rws po_len h3 rfl (s3.trans h) w hw⟩
def rRow (c : Cn) (rs : List Rl) : List Value := rowOf (Rl.cells c) (fun k => rs.getD k Rl.z) rs.length
theorem rRow_snoc (c : Cn) (rs : List Rl) (y : Rl) : rRow c (rs ++ [y]) = rRow c rs ++ y.cells c := by
  unfold rRow
  rw [List.length_append, List.length_singleton, rowOf_succ]
  congr 1
  · exact rowOf_congr _ fun k hk => by simp [List.getD_eq_getElem?_getD, List.getElem?_append_left hk]
  · simp [List.getD_eq_getElem?_getD]
theorem rRow_len (c : Cn) (rs : List Rl) : (rRow c rs).length = rs.length * 5 := rowOf_len (rl_len c) _ _
theorem rRow_splice {c : Cn} {rs : List Rl} {junk : List Value} {j : Nat} (h : j < rs.length) (y : Rl) : splice (rRow c rs ++ junk) (0 + j * 5) (y.cells c) = rRow c (rs.set j y) ++ junk := by
  have h1 := rowOf_splice (rl_len c) (f := fun k => rs.getD k Rl.z) (g := fun k => (rs.set j y).getD k Rl.z) (k := j) (n := rs.length) h (us := y.cells c) (by simp [List.getD_eq_getElem?_getD, h]) fun k hk hkj => by
    simp only [List.getD_eq_getElem?_getD]
    rw [List.getElem?_set_ne (Ne.symm hkj)]
  have h2 : rRow c (rs.set j y) = rowOf (Rl.cells c) (fun k => (rs.set j y).getD k Rl.z) rs.length := by unfold rRow; rw [List.length_set]
  rw [h2, ← h1, Nat.zero_add]
  have hl := rRow_len c rs
  have h5 : (y.cells c).length = 5 := rfl
  unfold splice
  rw [List.take_append_of_le_length (by omega), List.drop_append_of_le_length (by omega)]
  simp only [rRow, List.append_assoc]
theorem Mem.rl {C : Ctx} {H : List Blk} {b k o : Nat} {T : TypeId} {c : Cn} {rs : List Rl} {junk us rest : List Value} {r : Rl} (j : Nat) (i : Nat) (hi : H[i]? = some (b, CB (rRow c rs ++ junk) T)) (hr : rs[k]? = some r) (hj : (r.cells c).drop j = us ++ rest) (hj5 : j ≤ 5) (ho : o = k * 5 + j) : Mem C H b o us := by
  subst ho
  obtain ⟨hk, he⟩ := List.getElem?_eq_some_iff.1 hr
  obtain ⟨t, ht⟩ := rowOf_drop (rl_len c) (fun k => rs.getD k Rl.z) hk
  have hrd : rs.getD k Rl.z = r := by rw [List.getD_eq_getElem?_getD, hr]; rfl
  simp only [hrd] at ht
  refine Mem.own (rest := rest ++ (t ++ junk)) i hi ?_
  have hl := rRow_len c rs
  rw [← List.drop_drop, List.drop_append_of_le_length (by omega), show List.drop (k * 5) (rRow c rs) = r.cells c ++ t from ht, List.append_assoc, List.drop_append_of_le_length (by rw [rl_len]; exact hj5), hj, List.append_assoc]
/-- Where the walk of the reference stands. -/
structure RcG where
  k : Nat
  P : Co → Wy → Prop
  look : Co → Option Wy
  rs : List Rl
  ks : List Int
  bo : Nat
  cap : Nat
  junk : List Value
  HX : List Blk
structure RcS (c : Cn) (n fr en i : Nat) (q : RcG) : Prop where
  rc : c.RcI n fr en q.P q.look (q.rs.map Rl.zz) q.ks
  rd : ∀ r ∈ q.rs, r.RdH c q.HX
  len : (rRow c q.rs ++ q.junk).length = q.cap * 5
  cap : q.rs.length ≤ q.cap
  dn : ∀ (j : Nat) (z : Co × Wy), fr ≤ j → j < i → (q.rs.map Rl.zz)[j]? = some z → c.Dn n q.P z.1 z.2 (c.ps z.1).length
structure RcR (c : Cn) (n fr en i : Nat) (r : Rl) (J : Nat) (q : RcG) : Prop where
  s : RcS c n fr en i q
  e : q.rs[i]? = some r
  fi : fr ≤ i
  ie : i < en
  d : c.Dn n q.P r.x r.w (c.psJ r.x J).length
theorem zz_at {rs : List Rl} {i : Nat} {r : Rl} (h : rs[i]? = some r) : (rs.map Rl.zz)[i]? = some (r.x, r.w) := by rw [List.getElem?_map, h]; rfl
theorem zz_of {rs : List Rl} {i : Nat} {z : Co × Wy} (h : (rs.map Rl.zz)[i]? = some z) : ∃ r, rs[i]? = some r ∧ r.x = z.1 ∧ r.w = z.2 := by
  rw [List.getElem?_map] at h
  obtain ⟨r, h1, rfl⟩ := Option.map_eq_some_iff.1 h
  exact ⟨r, h1, rfl, rfl⟩
theorem RcS.bd {c : Cn} (hok : c.Ok) {n fr en i : Nat} {q : RcG} (h : RcS c n fr en i q) : q.rs.length ≤ 9261 := by
  have := h.rc.tb.bd hok
  rwa [List.length_map] at this
theorem RcS.ent {c : Cn} {n fr en i : Nat} {q : RcG} (h : RcS c n fr en i q) (hi : i < en) (hf : fr ≤ i) : ∃ r, q.rs[i]? = some r ∧ RcR c n fr en i r 0 q := by
  have he := h.rc.enl
  rw [List.length_map] at he
  exact ⟨_, List.getElem?_eq_getElem (by omega), h, List.getElem?_eq_getElem (by omega), hf, hi, fun j hj => absurd hj (by simp [Cn.psJ])⟩
theorem RcR.rk {c : Cn} {n fr en i J : Nat} {r : Rl} {q : RcG} (h : RcR c n fr en i r J q) (k : Nat) : RcR c n fr en i r J { q with k := k } := ⟨⟨h.s.rc, h.s.rd, h.s.len, h.s.cap, h.s.dn⟩, h.e, h.fi, h.ie, h.d⟩
theorem RcS.rk {c : Cn} {n fr en i : Nat} {q : RcG} (h : RcS c n fr en i q) (k : Nat) : RcS c n fr en i { q with k := k } := ⟨h.rc, h.rd, h.len, h.cap, h.dn⟩
theorem RcR.lv {c : Cn} {n fr en i J : Nat} {r : Rl} {q : RcG} (h : RcR c n fr en i r J q) : c.Lv n r.w r.x := by
  obtain ⟨h1, _, h3⟩ := h.s.rc.best i _ h.ie (zz_at h.e)
  exact ⟨h1, h3 h.fi⟩
theorem RcR.rdr {c : Cn} {n fr en i J : Nat} {r : Rl} {q : RcG} (h : RcR c n fr en i r J q) : r.RdH c q.HX := h.s.rd r (List.mem_of_getElem? h.e)
theorem RcR.fin {c : Cn} {n fr en i : Nat} {r : Rl} {q : RcG} (h : RcR c n fr en i r ((c.n + 1) * (c.n + 1)) q) (k : Nat) : RcS c n fr en (i + 1) { q with k := k } := by
  refine ⟨h.s.rc, h.s.rd, h.s.len, h.s.cap, fun j z h1 h2 h3 => ?_⟩
  by_cases hj : j = i
  · subst hj
    have := zz_at h.e
    change (List.map Rl.zz q.rs)[j]? = some z at h3
    rw [this] at h3
    cases h3
    exact h.d
  · exact h.s.dn j z h1 (by omega) h3
theorem RcR.skip {c : Cn} {n fr en i J : Nat} {r : Rl} {q : RcG} (h : RcR c n fr en i r J q) (k : Nat) (hp : ¬ c.pE r.x (pA c.n J) = 0) : RcR c n fr en i r (J + 1) { q with k := k } :=
  ⟨⟨h.s.rc, h.s.rd, h.s.len, h.s.cap, h.s.dn⟩, h.e, h.fi, h.ie, by rw [Cn.psJ_no hp]; exact h.d⟩
theorem RcR.knw {c : Cn} {n fr en i J : Nat} {r : Rl} {q : RcG} (h : RcR c n fr en i r J q) (k : Nat) {p : Po} (hpA : pA c.n J = p) (hJ : J < (c.n + 1) * (c.n + 1)) (hp : c.pE r.x (p) = 0) (hk : c.Kn n (c.stp r.x (p))) : RcR c n fr en i r (J + 1) { q with k := k } := by
  subst hpA
  obtain ⟨_, h2⟩ := Cn.ps_at hJ hp
  refine ⟨⟨h.s.rc, h.s.rd, h.s.len, h.s.cap, h.s.dn⟩, h.e, h.fi, h.ie, ?_⟩
  rw [Cn.psJ_yes hp, List.length_append, List.length_singleton]
  exact h.d.step (fun _ _ h => h) fun hn => absurd (by rw [h2]; exact hk) hn
theorem RcR.nxt {c : Cn} {n fr en i J : Nat} {r : Rl} {q : RcG} (h : RcR c n fr en i r J q) (hJ : J < (c.n + 1) * (c.n + 1)) (hp : c.pE r.x (pA c.n J) = 0) (q' : RcG) (hP : q'.P = addP q.P (c.stp r.x (pA c.n J)) (c.nx r.w r.x (pA c.n J)))
    (hrc : c.RcI n fr en q'.P q'.look (q'.rs.map Rl.zz) q'.ks) (hrd : ∀ r ∈ q'.rs, r.RdH c q'.HX) (hlen : (rRow c q'.rs ++ q'.junk).length = q'.cap * 5) (hcap : q'.rs.length ≤ q'.cap) (hsame : ∀ j, j < en → q'.rs[j]? = q.rs[j]?) : RcR c n fr en i r (J + 1) q' := by
  obtain ⟨_, h2⟩ := Cn.ps_at hJ hp
  have hm : ∀ y v, q.P y v → q'.P y v := fun y v h => by rw [hP]; exact .inl h
  refine ⟨⟨hrc, hrd, hlen, hcap, fun j z h1 h2 h3 => ?_⟩, by rw [hsame i h.ie]; exact h.e, h.fi, h.ie, ?_⟩
  · rw [List.getElem?_map, hsame j (by have := h.ie; omega), ← List.getElem?_map] at h3
    have := h.s.dn j z h1 h2 h3
    exact fun t ht hn => hm _ _ (this t ht hn)
  · rw [Cn.psJ_yes hp, List.length_append, List.length_singleton]
    exact h.d.step hm fun hn => by rw [hP, h2]; exact .inr ⟨rfl, rfl⟩
theorem RcR.push {c : Cn} (hok : c.Ok) {n fr en i J : Nat} {r y : Rl} {q : RcG} (h : RcR c n fr en i r J q) {p : Po} (hpA : pA c.n J = p) (hJ : J < (c.n + 1) * (c.n + 1)) (hp : c.pE r.x (p) = 0) (hk : q.ks.getD (c.ky (c.stp r.x (p))).toNat 0 = 0)
    (hyx : y.x = c.stp r.x (p)) (hyw : y.w = c.nx r.w r.x (p)) {HX : List Blk} (hs : q.HX.Sublist HX) (hy : y.RdH c HX) (k bo : Nat) {cap : Nat} {junk : List Value} (hlen : (rRow c (q.rs ++ [y]) ++ junk).length = cap * 5) (hcap : q.rs.length + 1 ≤ cap) :
    RcR c n fr en i r (J + 1) ⟨k, addP q.P (c.stp r.x (p)) (c.nx r.w r.x (p)), addL q.look (c.stp r.x (p)) (c.nx r.w r.x (p)), q.rs ++ [y], q.ks.set (c.ky (c.stp r.x (p))).toNat ((q.rs.length : Int) + 1), bo, cap, junk, HX⟩ := by
  subst hpA
  refine h.nxt hJ hp _ rfl ?_ (fun z hz => ?_) hlen (by simpa using hcap) fun j hj => ?_
  · have := h.s.rc.push hok h.lv hp hk
    rw [List.length_map] at this
    simp only [List.map_append, List.map_cons, List.map_nil]
    rw [show y.zz = (c.stp r.x (pA c.n J), c.nx r.w r.x (pA c.n J)) by unfold Rl.zz; rw [hyx, hyw]]
    exact this
  · rcases List.mem_append.1 hz with hz | hz
    · exact (h.s.rd z hz).mono hs
    · simp only [List.mem_singleton] at hz; subst hz; exact hy
  · have he := h.s.rc.enl
    rw [List.length_map] at he
    exact List.getElem?_append_left (by omega)
theorem set_same {α : Type} {l : List α} {j : Nat} {a : α} (h : l[j]? = some a) : l.set j a = l := by
  obtain ⟨hj, rfl⟩ := List.getElem?_eq_some_iff.1 h
  exact List.set_getElem_self hj
theorem RcR.keep {c : Cn} {n fr en i J j : Nat} {r : Rl} {u : Wy} {q : RcG} (h : RcR c n fr en i r J q) {p : Po} (hpA : pA c.n J = p) (hJ : J < (c.n + 1) * (c.n + 1)) (hp : c.pE r.x (p) = 0) (hj : (q.rs.map Rl.zz)[j]? = some (c.stp r.x (p), u)) (hje : en ≤ j) (hl : q.look (c.stp r.x (p)) = some u) (hkn : ¬ c.Kn n (c.stp r.x (p)))
    (hlt : (c.nx r.w r.x (p)).lt u = false) (k : Nat) :
    RcR c n fr en i r (J + 1) ⟨k, addP q.P (c.stp r.x (p)) (c.nx r.w r.x (p)), addL q.look (c.stp r.x (p)) (c.nx r.w r.x (p)), q.rs, q.ks, q.bo, q.cap, q.junk, q.HX⟩ := by
  subst hpA
  refine h.nxt hJ hp _ rfl ?_ h.s.rd h.s.len h.s.cap fun _ _ => rfl
  have := h.s.rc.upd h.lv hp hj hje hl hkn
  rw [show pickW (some u) (c.nx r.w r.x (pA c.n J)) = u by unfold pickW; simp [hlt], set_same hj] at this
  exact this
theorem RcR.upd {c : Cn} {n fr en i J j : Nat} {r y : Rl} {u : Wy} {q : RcG} (h : RcR c n fr en i r J q) {p : Po} (hpA : pA c.n J = p) (hJ : J < (c.n + 1) * (c.n + 1)) (hp : c.pE r.x (p) = 0) (hj : (q.rs.map Rl.zz)[j]? = some (c.stp r.x (p), u)) (hje : en ≤ j) (hl : q.look (c.stp r.x (p)) = some u) (hkn : ¬ c.Kn n (c.stp r.x (p)))
    (hlt : (c.nx r.w r.x (p)).lt u = true) (hyx : y.x = c.stp r.x (p)) (hyw : y.w = c.nx r.w r.x (p)) {HX : List Blk} (hs : q.HX.Sublist HX) (hy : y.RdH c HX) (k : Nat) :
    RcR c n fr en i r (J + 1) ⟨k, addP q.P (c.stp r.x (p)) (c.nx r.w r.x (p)), addL q.look (c.stp r.x (p)) (c.nx r.w r.x (p)), q.rs.set j y, q.ks, q.bo, q.cap, q.junk, HX⟩ := by
  subst hpA
  refine h.nxt hJ hp _ rfl ?_ (fun z hz => ?_) ?_ (by rw [List.length_set]; exact h.s.cap) fun t ht => ?_
  · have := h.s.rc.upd h.lv hp hj hje hl hkn
    rw [show pickW (some u) (c.nx r.w r.x (pA c.n J)) = c.nx r.w r.x (pA c.n J) by unfold pickW; simp [hlt]] at this
    simp only [List.map_set]
    rw [show y.zz = (c.stp r.x (pA c.n J), c.nx r.w r.x (pA c.n J)) by unfold Rl.zz; rw [hyx, hyw]]
    exact this
  · rcases List.mem_or_eq_of_mem_set hz with hz | rfl
    · exact (h.s.rd z hz).mono hs
    · exact hy
  · have := h.s.len
    rw [List.length_append, rRow_len] at this ⊢
    rw [List.length_set]; exact this
  · exact List.getElem?_set_ne (by omega)
/-- What the reference's Pour tells of an entry. -/
theorem rpourE_any (c : Cn) (x : Co) (p : Po) (s : Option Addr) (ks : Nat) (i : Option Addr) (ki : Nat) (w : World) (hok : c.Ok) (hin : c.In x) (h1 : Ints w s c.n ks c.sz) (h2 : Ints w i (c.of x).inn.length ki (c.of x).inn) :
    Ct Tryd.prog 12 #[.agg #[.slice s c.n ks, .slice i (c.of x).inn.length ki, .int .i64 x.a], .agg p.cells.toArray] w fun v Hn => ∃ q x1 t1 x2 t2 J1 J2, v = .tuple #[.agg #[.slice x1 q.n t1, .slice x2 q.inn.length t2, .int .i64 q.st], .int .i64 (c.pE x p)] ∧ (c.pE x p = 0 → q = c.of (c.stp x p)) ∧ NewRow 3 1 q.n (iv q.sz) (.slice x1 q.n t1) J1 ∧ NewRow 3 1 q.inn.length (iv q.inn) (.slice x2 q.inn.length t2) J2 ∧ J1.Sublist Hn ∧ J2.Sublist Hn := by
  have hokx := hok.of hin
  have hco := hok.of_co hin
  have h3 := hokx.n3
  have hpe : (c.of x).poE p = c.pE x p := by unfold Cn.poE; rw [if_pos (Cn.ok_iff.2 hokx), Cn.of_pE hco]
  have hpc : c.pE x p = 0 → (c.of x).poC p = c.of (c.stp x p) := fun h => by
    unfold Cn.poC
    rw [if_pos (Cn.ok_iff.2 hokx), if_pos (by rw [Cn.of_pE hco]; exact h), hco]; rfl
  refine (rpour_any (c.of x) s ks i ki p w (by omega) (by rw [hokx.len]; omega) h1 h2).mono fun v Hn => ?_
  rintro ⟨_, rfl, x1, t1, x2, t2, J1, J2, rfl, g1, g2, rfl⟩
  exact ⟨(c.of x).poC p, x1, t1, x2, t2, J1, J2, by rw [hpe], hpc, g1, g2, List.sublist_append_left _ _, List.sublist_append_right _ _⟩
end Go.Proofs.YtjekjehgmljbgaaDoor.T

/- What the reference has reached: its walk. -/
namespace Go.Proofs.YtjekjehgmljbgaaDoor.T
open Go.RowKit Go.Proofs Go.Eng
set_option maxRecDepth 100000
set_option maxHeartbeats 1000000
set_option linter.unusedVariables false
set_option linter.unusedSimpArgs false

theorem bd128_0 {x0_0a : Option Addr} {x0_0l x0_0c : Nat} {x0_1a : Option Addr} {x0_1l x0_1c : Nat} {x0_2 : Int} : ∀ w, (Instr.build 128 #[(0, .agg #[.slice x0_0a x0_0l x0_0c, .slice x0_1a x0_1l x0_1c, .int .i64 x0_2])]).run Tryd.prog w = .ok (.agg #[.slice x0_0a x0_0l x0_0c, .slice x0_1a x0_1l x0_1c, .int .i64 x0_2, .slice none 0 0, .int .i64 0]) w := fun w => by kernel_rfl
theorem bd128_0_1_2 {x0_0a : Option Addr} {x0_0l x0_0c : Nat} {x0_1a : Option Addr} {x0_1l x0_1c : Nat} {x0_2 : Int} {x1a : Option Addr} {x1l x1c : Nat} {x2 : Int} : ∀ w, (Instr.build 128 #[(0, .agg #[.slice x0_0a x0_0l x0_0c, .slice x0_1a x0_1l x0_1c, .int .i64 x0_2]), (1, .slice x1a x1l x1c), (2, .int .i64 x2)]).run Tryd.prog w = .ok (.agg #[.slice x0_0a x0_0l x0_0c, .slice x0_1a x0_1l x0_1c, .int .i64 x0_2, .slice x1a x1l x1c, .int .i64 x2]) w := fun w => by kernel_rfl
theorem bs131_1_0 {x0_0a : Option Addr} {x0_0l x0_0c : Nat} {x0_1a : Option Addr} {x0_1l x0_1c : Nat} {x0_2 : Int} {x0_3a : Option Addr} {x0_3l x0_3c : Nat} {x0_4 : Int} : ∀ w, (Instr.buildSlice 131 1 #[(0, .agg #[.slice x0_0a x0_0l x0_0c, .slice x0_1a x0_1l x0_1c, .int .i64 x0_2, .slice x0_3a x0_3l x0_3c, .int .i64 x0_4])]).run Tryd.prog w = .ok (.slice (some ⟨w.heap.size, 0, none⟩) 1 1) (w.alloc (CB [.slice x0_0a x0_0l x0_0c, .slice x0_1a x0_1l x0_1c, .int .i64 x0_2, .slice x0_3a x0_3l x0_3c, .int .i64 x0_4] 128)) := fun w => by kernel_rfl
theorem fa128_0 : ∀ b o w, (Instr.fieldAt 128 (.pointer (some ⟨b, o, none⟩)) 0).run Tryd.prog w = .ok (.pointer (some ⟨b, o + 0, none⟩)) w := fun b o w => by kernel_rfl

/-- All that is reached, in memory. -/
def RchV (c : Cn) (v : Value) (Hn : List Blk) : Prop := ∃ rs bo cap junk HX, v = .slice (some ⟨bo, 0, none⟩) rs.length cap ∧ Hn = (bo, CB (rRow c rs ++ junk) 128) :: HX ∧ c.Rcd (rs.map Rl.zz) ∧ (∀ r ∈ rs, r.RdH c HX) ∧ rs.length ≤ cap
theorem zeros_rep (n : Nat) : ((List.range n).flatMap fun _ => [Value.int .i64 0]) = iv (List.replicate n 0) := by
  unfold iv
  induction n with
  | zero => rfl
  | succ n ih => rw [List.range_succ, List.flatMap_append, ih, List.replicate_succ']; simp
def Cn.key (c : Cn) (y : Co) : Nat := (c.ky y).toNat
theorem Cn.key_eq {c : Cn} (hok : c.Ok) {y : Co} (hy : c.In y) : c.ky y = (c.key y : Int) ∧ c.key y < 9261 := by
  have := Cn.ky_bd hok hy
  unfold Cn.key
  omega
theorem Cn.of_bd {c : Cn} (hok : c.Ok) {y : Co} (hy : c.In y) : ∀ k, k < (c.of y).inn.length → 0 ≤ (c.of y).inn.getD k 0 ∧ (c.of y).inn.getD k 0 ≤ 20 := fun k hk => by
  have hoky := hok.of hy
  rw [hoky.len] at hk
  have h1 := hoky.i k hk
  have h2 := hoky.s k hk
  change 0 ≤ (c.of y).i k ∧ (c.of y).i k ≤ 20
  omega
theorem Src_pos {C : Ctx} {H : List Blk} {l : List Po} {a : Option Addr} {k : Nat} (hp : ∀ w, St C H w → Pos w a l.length k l) {w : World} (hw : St C H w) : Src C H a l.length (rowOf Po.cells (fun k => l.getD k Po.z) l.length) := by
  by_cases h0 : l.length = 0
  · exact .inl ⟨h0, by rw [h0]; rfl⟩
  · obtain ⟨b, o, rfl, _⟩ := (hp w hw).cell 0 (by omega)
    exact .inr ⟨b, o, rfl, fun w' hw' => Rws.row po_len (hp w' hw') _ (Nat.le_refl _)⟩
theorem infWy : (Tryd.prog.info? 128).map (fun i => (i.zero, i.size, i.bytes)) = some (some (.agg #[.slice none 0 0, .slice none 0 0, .int .i64 0, .slice none 0 0, .int .i64 0]), 5, 88) := by kernel_rfl
theorem reached_any (c : Cn) (a1 : Option Addr) (p1 : Nat) (a2 : Option Addr) (p2 : Nat) (w : World) (hok : c.Ok) (hn : c.n ≤ 1000000) (hm : c.inn.length ≤ 1000000) (h1 : Ints w a1 c.n p1 c.sz) (h2 : Ints w a2 c.inn.length p2 c.inn) : Ct Tryd.prog 67 #[.agg #[.slice a1 c.n p1, .slice a2 c.inn.length p2, .int .i64 c.st]] w (RchV c) := by
  have hn1 := hok.n1
  have hn3 := hok.n3
  have hco := hok.co_of
  have hk0 := Cn.key_eq hok hok.co_in
  obtain ⟨N, hN⟩ : ∃ N : Nat, N = 9261 := ⟨_, rfl⟩
  obtain ⟨K0, hK0⟩ : ∃ K0, K0 = List.replicate N (0 : Int) := ⟨_, rfl⟩
  have hKl : K0.length = N := by rw [hK0]; exact List.length_replicate
  have hR0 := Cn.Rc0.first hok
  rw [← hN, ← hK0] at hR0
  have hF := wide_wide
  refine Ct_start (args := [_]) Tryd.func67 (by rfl) Tryd.ntmps67 (by rfl) ?_
  refine W_seq ?_
  refine W_region_lit (fun ds => ?_)
  refine WS_new hF (by rfl) (y_box (by rfl)) (fun b1 => ?_)
  refine WS_det hF (by rfl) (y_assign (c := .slice _ _ _) (by rfl)) ?_
  refine WS_nil ?_
  refine Then_normal ?_
  refine W_seq ?_
  refine W_region_lit (fun ds => ?_)
  generalize hZ : (9261 : Int) = Z
  refine WS_gen hF (by rfl) (y_makeRow (n := N) (by rfl) (by rfl) (by omega) (by omega) Tryd.underlying22 infInt (by rfl) (by rfl) (by omega) (by omega) (show ((List.range N).flatMap fun _ => [Value.int .i64 0]) = iv K0 by rw [hK0]; exact zeros_rep N)) ?_
  rintro _ Hk hrk0
  obtain ⟨ka, kcap, rfl, hrk⟩ := NewRow.sl hrk0
  obtain ⟨bk, jk, rfl, rfl, hkl, hkc⟩ := NewRow.head hrk (by omega)
  refine WS_det hF (by rfl) (y_assign (c := .slice _ _ _) (by rfl)) ?_
  refine WS_nil ?_
  refine Then_normal ?_
  refine W_seq ?_
  refine W_region_lit (fun ds => ?_)
  refine WS_det hF (by rfl) (y_loadN (by rfl) Tryd.isAgg24 Tryd.sizeOf24 (Mem.own (us := [.slice _ _ _, .slice _ _ _, .int .i64 _]) 1 (by rfl) (by rfl)) (by rfl)) ?_
  refine WS_gen hF (by rfl) (y_callL (by rfl) (by rfl) Tryd.call10 (fun w hw => rctwin_any c a1 p1 a2 p2 w hn hm (h1.st w hw) (h2.st w hw))) ?_
  rintro _ _ ⟨z1, q1, z2, q2, H1, H2, rfl, hr1, hr2, rfl⟩
  refine WS_back ?_
  refine WS_det hF (by rfl) (y_buildL bd128_0 (by rfl)) ?_
  refine WS_newS hF (by rfl) (y_buildSliceL bs131_1_0 (by rfl)) (fun b2 => ?_)
  refine WS_det hF (by rfl) (y_assign (c := .slice _ _ _) (by rfl)) ?_
  refine WS_nil ?_
  refine Then_normal ?_
  refine W_seq ?_
  refine W_region_lit (fun ds => ?_)
  refine WS_det hF (by rfl) (y_move (c := .slice _ _ _) (by rfl)) ?_
  refine WS_det hF (by rfl) (y_loadN (by rfl) Tryd.isAgg24 Tryd.sizeOf24 (Mem.own (us := [.slice _ _ _, .slice _ _ _, .int .i64 _]) 2 (by rfl) (by rfl)) (by rfl)) ?_
  refine WS_det hF (by rfl) (y_callL (by rfl) (by rfl) Tryd.call108 (fun w hw => Ct_eq (rkey_any c a1 p1 a2 p2 w hn (by rw [hok.len]; omega) (by have := Cn.of_bd hok hok.co_in; rw [hco] at this; exact this) (h2.st w hw)) (show Value.int .i64 (kyL 0 c.inn) = .int .i64 (c.key c.co : Int) by rw [← hk0.1]; unfold Cn.ky; rw [hco]))) ?_
  refine WS_det hF (by rfl) (y_index (k := c.key c.co) (by rfl) (by rfl) (by first | rfl | omega) (by first | decide | omega) Tryd.runUnderlying22 Tryd.sizeOf3) ?_
  refine WS_store hF (us := [.int .i64 _]) (i := 1) (by rfl) (by rfl) Tryd.sizeOf3 (by rfl) (by rfl) (by rfl) (fit_iv (by omega)) ?_
  refine WS_nil ?_
  refine Then_normal ?_
  refine W_seq ?_
  refine W_seq ?_
  rw [splice_iv _ _ _ _ (by omega)]
  have hrd0 : ∀ r ∈ [(⟨c.co, ⟨[], 0⟩, z1, q1, z2, q2, none, 0⟩ : Rl)], r.RdH c (H1 ++ H2) := fun r hr => by
    simp only [List.mem_singleton] at hr
    subst hr
    exact ⟨fun C H w h hw => NewRow.ints hr1 rfl ((List.sublist_append_left _ _).trans h) w hw, fun C H w h hw => by
      have := NewRow.ints hr2 rfl ((List.sublist_append_right _ _).trans h) w hw
      simp only [hco]; exact this, fun C H w _ _ => Rws.nil _ _ _⟩
  rw [show CB [.slice z1 c.n q1, .slice z2 c.inn.length q2, .int .i64 c.st, .slice none 0 0, .int .i64 0] 128 = CB (rRow c [⟨c.co, ⟨[], 0⟩, z1, q1, z2, q2, none, 0⟩] ++ []) 128 by rw [← show (c.of c.co).inn.length = c.inn.length by rw [hco]]; rfl]
  refine W_region_lit (fun ds => ?_)
  refine WS_det hF (by rfl) (y_assign (c := .int .i64 _) (by rfl)) ?_
  refine WS_nil ?_
  refine Then_normal ?_
  refine W_block ?_
  refine W_loop (γ := Nat × Nat × RcG) (fun q => q.1 ≤ 9261 ∧ c.Rc0 q.1 q.2.1 (q.2.2.rs.map Rl.zz) q.2.2.ks ∧ (∀ r ∈ q.2.2.rs, r.RdH c q.2.2.HX) ∧ (rRow c q.2.2.rs ++ q.2.2.junk).length = q.2.2.cap * 5 ∧ q.2.2.rs.length ≤ q.2.2.cap) (fun q => [(1, .pointer (some ⟨b1, 0, none⟩)), (3, .slice (some ⟨bk, 0, none⟩) N kcap), (4, .slice (some ⟨q.2.2.bo, 0, none⟩) q.2.2.rs.length q.2.2.cap), (5, .int .i64 (q.2.1 : Int))]) (fun q => (q.2.2.bo, CB (rRow c q.2.2.rs ++ q.2.2.junk) 128) :: (bk, CB (iv q.2.2.ks ++ jk) 3) :: (b1, CB [.slice a1 c.n p1, .slice a2 c.inn.length p2, .int .i64 c.st] 24) :: q.2.2.HX) (fun q => 9262 - q.1) ((0, 0, RcG.mk 0 (fun _ _ => False) (fun _ => none) [⟨c.co, ⟨[], 0⟩, z1, q1, z2, q2, none, 0⟩] (K0.set (c.key c.co) 1) b2 1 [] (H1 ++ H2))) ⟨Nat.zero_le _, hR0, hrd0, rfl, Nat.le_refl _⟩ (by repeat (first | exact trivial | refine ⟨by rfl, ?_⟩)) (sbA) ?_
  rintro ⟨n, fr, ⟨k, P, lookM, rs, ks, bo, cap, junk, HX⟩⟩ e ⟨(hn9 : n ≤ 9261), (hR : c.Rc0 n fr (rs.map Rl.zz) ks), (hrd : ∀ r ∈ rs, r.RdH c HX), (hlen : (rRow c rs ++ junk).length = cap * 5), (hcap : rs.length ≤ cap)⟩
  refine W_seq ?_
  refine W_seq ?_
  refine W_region_lit (fun ds => ?_)
  refine WS_det hF (by rfl) (y_move (c := .int .i64 _) (by rfl)) ?_
  refine WS_det hF (by rfl) (y_move (c := .slice _ _ _) (by rfl)) ?_
  refine WS_det hF (by rfl) (y_len (by rfl) Tryd.runUnderlying131) ?_
  refine WS_det hF (by rfl) (y_lss (by rfl) (by rfl)) ?_
  refine WS_nil ?_
  refine Then_normal ?_
  refine W_cond (by rfl) (fun c5 => ?_) (fun c5 => ?_)
  ·
    try simp only [Bool.not_eq_true', Bool.not_eq_false', decide_eq_true_eq, decide_eq_false_iff_not, ne_eq, Classical.not_not, Int.not_lt, Int.not_le] at c5
    have hfr : fr < rs.length := by omega
    have hn8 : n ≤ 9260 := hR.n_bd hok (by rw [List.length_map]; exact hfr)
    have hS0 : RcS c n fr rs.length fr ⟨fr, fun _ _ => False, fun _ => none, rs, ks, bo, cap, junk, HX⟩ := ⟨by have := hR.start; rw [List.length_map] at this; exact this, hrd, hlen, hcap, fun j z h1 h2 => by omega⟩
    have hbd0 : rs.length ≤ 9261 := hS0.bd hok
    refine W_skip ?_
    refine Then_normal ?_
    refine W_block ?_
    refine W_seq ?_
    refine W_region_lit (fun ds => ?_)
    refine WS_det hF (by rfl) (y_move (c := .slice _ _ _) (by rfl)) ?_
    refine WS_det hF (by rfl) (y_len (by rfl) Tryd.runUnderlying131) ?_
    refine WS_det hF (by rfl) (y_assign (c := .int .i64 _) (by rfl)) ?_
    refine WS_nil ?_
    refine Then_normal ?_
    refine W_seq ?_
    refine W_seq ?_
    refine W_region_lit (fun ds => ?_)
    refine WS_det hF (by rfl) (y_move (c := .int .i64 _) (by rfl)) ?_
    refine WS_det hF (by rfl) (y_assign (c := .int .i64 _) (by rfl)) ?_
    refine WS_nil ?_
    refine Then_normal ?_
    refine W_block ?_
    refine W_loop (γ := RcG) (fun q => fr ≤ q.k ∧ q.k ≤ rs.length ∧ RcS c n fr rs.length q.k q) (fun q => [(1, .pointer (some ⟨b1, 0, none⟩)), (3, .slice (some ⟨bk, 0, none⟩) N kcap), (4, .slice (some ⟨q.bo, 0, none⟩) q.rs.length q.cap), (6, .int .i64 (rs.length : Int)), (7, .int .i64 (q.k : Int))]) (fun q => (q.bo, CB (rRow c q.rs ++ q.junk) 128) :: (bk, CB (iv q.ks ++ jk) 3) :: (b1, CB [.slice a1 c.n p1, .slice a2 c.inn.length p2, .int .i64 c.st] 24) :: q.HX) (fun q => rs.length - q.k) ((RcG.mk fr (fun _ _ => False) (fun _ => none) rs ks bo cap junk HX)) ⟨Nat.le_refl _, Nat.le_of_lt hfr, hS0⟩ (by repeat (first | exact trivial | refine ⟨by rfl, ?_⟩)) (sbA) ?_
    rintro ⟨i, P1, look1, rs1, ks1, bo1, cap1, junk1, HX1⟩ e ⟨(hfi : fr ≤ i), (hie : i ≤ rs.length), hS1⟩
    refine W_seq ?_
    refine W_seq ?_
    refine W_region_lit (fun ds => ?_)
    refine WS_det hF (by rfl) (y_move (c := .int .i64 _) (by rfl)) ?_
    refine WS_det hF (by rfl) (y_move (c := .int .i64 _) (by rfl)) ?_
    refine WS_det hF (by rfl) (y_lss (by rfl) (by rfl)) ?_
    refine WS_nil ?_
    refine Then_normal ?_
    refine W_cond (by rfl) (fun c8 => ?_) (fun c8 => ?_)
    ·
      try simp only [Bool.not_eq_true', Bool.not_eq_false', decide_eq_true_eq, decide_eq_false_iff_not, ne_eq, Classical.not_not, Int.not_lt, Int.not_le] at c8
      have hien : i < rs.length := by omega
      obtain ⟨r, hri, hRR⟩ := hS1.ent hien hfi
      have hlv := hRR.lv
      have hin := (hlv.1.way.in hok).1
      have hbl := hlv.1.len hok
      have hbk := Cn.Best.back hok hlv.1.way
      have q1 : 0 ≤ r.x.a := hin.lo 0 (by decide)
      have q2 : r.x.a ≤ 600 := hin.hi 0 (Nat.zero_le _)
      have hl2 := hlv.2
      refine W_skip ?_
      refine Then_normal ?_
      refine W_seq ?_
      refine W_block ?_
      refine W_seq ?_
      refine W_region_lit (fun ds => ?_)
      refine WS_det hF (by rfl) (y_assign (c := .int .i64 _) (by rfl)) ?_
      refine WS_nil ?_
      refine Then_normal ?_
      refine W_block ?_
      refine W_loop (γ := RcG) (fun q => q.k ≤ c.n + 1 ∧ RcR c n fr rs.length i r (q.k * (c.n + 1)) q) (fun q => [(1, .pointer (some ⟨b1, 0, none⟩)), (3, .slice (some ⟨bk, 0, none⟩) N kcap), (4, .slice (some ⟨q.bo, 0, none⟩) q.rs.length q.cap), (6, .int .i64 (rs.length : Int)), (7, .int .i64 (i : Int)), (8, .int .i64 (q.k : Int))]) (fun q => (q.bo, CB (rRow c q.rs ++ q.junk) 128) :: (bk, CB (iv q.ks ++ jk) 3) :: (b1, CB [.slice a1 c.n p1, .slice a2 c.inn.length p2, .int .i64 c.st] 24) :: q.HX) (fun q => c.n + 1 - q.k) ((RcG.mk 0 P1 look1 rs1 ks1 bo1 cap1 junk1 HX1)) ⟨Nat.zero_le _, by rw [Nat.zero_mul]; exact hRR.rk 0⟩ (by repeat (first | exact trivial | refine ⟨by rfl, ?_⟩)) (sbA) ?_
      rintro ⟨a, P2, look2, rs2, ks2, bo2, cap2, junk2, HX2⟩ e ⟨(ha : a ≤ c.n + 1), hR2⟩
      refine W_seq ?_
      refine W_seq ?_
      refine W_region_lit (fun ds => ?_)
      refine WS_det hF (by rfl) (y_move (c := .int .i64 _) (by rfl)) ?_
      refine WS_det hF (by rfl) (y_fieldAddr (by rfl) fa24_0) ?_
      refine WS_det hF (by rfl) (y_load1 (by rfl) Tryd.isAgg22 (Mem.own1 2 (by rfl) (by rfl))) ?_
      refine WS_det hF (by rfl) (y_len (by rfl) Tryd.runUnderlying22) ?_
      refine WS_det hF (by rfl) (y_leq (by rfl) (by rfl)) ?_
      refine WS_nil ?_
      refine Then_normal ?_
      refine W_cond (by rfl) (fun c11 => ?_) (fun c11 => ?_)
      ·
        try simp only [Bool.not_eq_true', Bool.not_eq_false', decide_eq_true_eq, decide_eq_false_iff_not, ne_eq, Classical.not_not, Int.not_lt, Int.not_le] at c11
        refine W_skip ?_
        refine Then_normal ?_
        refine W_seq ?_
        refine W_block ?_
        refine W_seq ?_
        refine W_region_lit (fun ds => ?_)
        refine WS_det hF (by rfl) (y_assign (c := .int .i64 _) (by rfl)) ?_
        refine WS_nil ?_
        refine Then_normal ?_
        refine W_block ?_
        refine W_loop (γ := RcG) (fun q => q.k ≤ c.n + 1 ∧ RcR c n fr rs.length i r (a * (c.n + 1) + q.k) q) (fun q => [(1, .pointer (some ⟨b1, 0, none⟩)), (3, .slice (some ⟨bk, 0, none⟩) N kcap), (4, .slice (some ⟨q.bo, 0, none⟩) q.rs.length q.cap), (6, .int .i64 (rs.length : Int)), (7, .int .i64 (i : Int)), (8, .int .i64 (a : Int)), (9, .int .i64 (q.k : Int))]) (fun q => (q.bo, CB (rRow c q.rs ++ q.junk) 128) :: (bk, CB (iv q.ks ++ jk) 3) :: (b1, CB [.slice a1 c.n p1, .slice a2 c.inn.length p2, .int .i64 c.st] 24) :: q.HX) (fun q => c.n + 1 - q.k) ((RcG.mk 0 P2 look2 rs2 ks2 bo2 cap2 junk2 HX2)) ⟨Nat.zero_le _, hR2.rk 0⟩ (by repeat (first | exact trivial | refine ⟨by rfl, ?_⟩)) (sbA) ?_
        rintro ⟨b, P3, look3, rs3, ks3, bo3, cap3, junk3, HX3⟩ e ⟨(hb : b ≤ c.n + 1), hR3⟩
        refine W_seq ?_
        refine W_seq ?_
        refine W_region_lit (fun ds => ?_)
        refine WS_det hF (by rfl) (y_move (c := .int .i64 _) (by rfl)) ?_
        refine WS_det hF (by rfl) (y_fieldAddr (by rfl) fa24_0) ?_
        refine WS_det hF (by rfl) (y_load1 (by rfl) Tryd.isAgg22 (Mem.own1 2 (by rfl) (by rfl))) ?_
        refine WS_det hF (by rfl) (y_len (by rfl) Tryd.runUnderlying22) ?_
        refine WS_det hF (by rfl) (y_leq (by rfl) (by rfl)) ?_
        refine WS_nil ?_
        refine Then_normal ?_
        refine W_cond (by rfl) (fun c14 => ?_) (fun c14 => ?_)
        ·
          try simp only [Bool.not_eq_true', Bool.not_eq_false', decide_eq_true_eq, decide_eq_false_iff_not, ne_eq, Classical.not_not, Int.not_lt, Int.not_le] at c14
          have hJ : a * (c.n + 1) + b < (c.n + 1) * (c.n + 1) := by
            have ha' : a ≤ c.n := by omega
            have hb' : b ≤ c.n := by omega
            have : a * (c.n + 1) ≤ c.n * (c.n + 1) := Nat.mul_le_mul_right _ ha'
            rw [Nat.succ_mul c.n (c.n + 1)]
            omega
          have hpA : pA c.n (a * (c.n + 1) + b) = ⟨(a : Int), (b : Int)⟩ := pA_eq (by omega)
          have hrd3 := hR3.rdr
          have hbd3 : rs3.length ≤ 9261 := hR3.s.bd hok
          have hcap3 : rs3.length ≤ cap3 := hR3.s.cap
          have hi3 : i < rs3.length := (List.getElem?_eq_some_iff.1 hR3.e).1
          refine W_skip ?_
          refine Then_normal ?_
          refine W_seq ?_
          refine W_block ?_
          refine W_seq ?_
          refine W_seq ?_
          refine W_region_lit (fun ds => ?_)
          refine WS_det hF (by rfl) (y_move (c := .int .i64 _) (by rfl)) ?_
          refine WS_det hF (by rfl) (y_move (c := .int .i64 _) (by rfl)) ?_
          refine WS_det hF (by rfl) (y_eql (by rfl) (by rfl)) ?_
          refine WS_nil ?_
          refine Then_normal ?_
          refine W_cond (by rfl) (fun c16 => ?_) (fun c16 => ?_)
          ·
            try simp only [Bool.not_eq_true', Bool.not_eq_false', decide_eq_true_eq, decide_eq_false_iff_not, ne_eq, Classical.not_not, Int.not_lt, Int.not_le] at c16
            have hR6 : RcR c n fr rs.length i r (a * (c.n + 1) + (b + 1)) ⟨b + 1, P3, look3, rs3, ks3, bo3, cap3, junk3, HX3⟩ := hR3.skip (b + 1) (by rw [hpA, Cn.pE_zero, Cn.vld_iff]; rintro ⟨⟨_, _, h⟩, _⟩; exact h c16)
            refine W_exit ?_
            refine Then_exit ?_
            refine InB_same ?_
            refine Then_normal ?_
            refine W_region_lit (fun ds => ?_)
            refine WS_det hF (by rfl) (y_move (c := .int .i64 _) (by rfl)) ?_
            refine WS_det hF (by rfl) (y_add (by rfl) (by rfl) (by unfold I64; first | omega | (simp only; omega))) ?_
            refine WS_det hF (by rfl) (y_assign (c := .int .i64 _) (by rfl)) ?_
            refine WS_nil ?_
            exact Loop_next (RcG.mk (b + 1) P3 look3 rs3 ks3 bo3 cap3 junk3 HX3) ⟨(by first | omega | (simp only; omega)), hR6⟩ (by repeat (first | exact trivial | refine ⟨by rfl, ?_⟩)) sbA (by first | omega | (simp only; omega))
          ·
            try simp only [Bool.not_eq_true', Bool.not_eq_false', decide_eq_true_eq, decide_eq_false_iff_not, ne_eq, Classical.not_not, Int.not_lt, Int.not_le] at c16
            refine W_skip ?_
            refine Then_normal ?_
            refine W_seq ?_
            refine W_region_lit (fun ds => ?_)
            refine WS_det hF (by rfl) (y_move (c := .int .i64 _) (by rfl)) ?_
            refine WS_det hF (by rfl) (y_move (c := .int .i64 _) (by rfl)) ?_
            refine WS_det hF (by rfl) (y_buildL bd26_0_1 (by rfl)) ?_
            refine WS_new hF (by rfl) (y_alloc Tryd.zeroValue26 (by rfl)) (fun b10 => ?_)
            refine WS_store hF (us := [.int .i64 _, .int .i64 _]) (i := 0) (by rfl) (by rfl) Tryd.sizeOf26 (by rfl) (by rfl) (by rfl) (by first | decide | exact Nat.le_of_ble_eq_true rfl | simp) ?_
            refine WS_nil ?_
            refine Then_normal ?_
            refine W_seq ?_
            refine W_draw0 hF Trydmixed [11] (by decide +kernel) (fun ds => ?_)
            refine P_det (by rfl) (Over_nil (y_move (c := .slice _ _ _) (by rfl))) ?_
            refine P_det (by rfl) (Over_nil (y_move (c := .int .i64 _) (by rfl))) ?_
            refine P_det (by rfl) (Over_nil (y_index (k := i) (by rfl) (by rfl) (by first | rfl | omega) (by first | decide | omega) Tryd.runUnderlying131 Tryd.sizeOf128)) ?_
            refine P_det (by rfl) (Over_nil (y_fieldAddr (by rfl) fa128_0)) ?_
            refine P_det (by rfl) (Over_nil (y_loadN (by rfl) Tryd.isAgg24 Tryd.sizeOf24 (Mem.rl 0 1 (by rfl) hR3.e (us := [.slice _ _ _, .slice _ _ _, .int _ _]) (by rfl) (by omega) (by omega)) (by rfl))) ?_
            refine P_det (by rfl) (Over_nil (y_loadN (by rfl) Tryd.isAgg26 Tryd.sizeOf26 (Mem.own (us := [.int .i64 _, .int .i64 _]) 0 (by rfl) (by rfl)) (by rfl))) ?_
            refine P_new (by rfl) (by rfl) (Over_nil (y_callL (by rfl) (by rfl) Tryd.call12 (fun w hw => rpourE_any c r.x ⟨(a : Int), (b : Int)⟩ r.s r.ks r.i r.ki w hok hin (hrd3.s _ _ w sbA hw) (hrd3.i _ _ w sbA hw)))) ?_
            refine P_ali [63] (fun e => e 63) (by rfl) (by rfl) (by rfl) (fun _ _ h => h 63 (List.mem_singleton.2 rfl)) (Over_in (by rfl) (Over_nil (by intro vb4 l63 hb4; obtain ⟨q, x1, t1, x2, t2, J1, J2, rfl, hq, g1, g2, gs1, gs2⟩ := hb4; obtain ⟨JJ, rfl⟩ : ∃ JJ, JJ = l63 := ⟨_, rfl⟩; exact (YD0_of (y_move (c := .tuple _) (by rfl)))))) ?_
            refine P_ali [56] (fun e => tupAt (e 56) 0) (by rfl) (by rfl) (by rfl) (fun _ _ h => congrArg (tupAt · 0) (h 56 (List.mem_singleton.2 rfl))) (Over_in (by rfl) (Over_in (by rfl) (Over_nil (by intro vb6 l63 hb6; obtain ⟨q, x1, t1, x2, t2, J1, J2, rfl, hq, g1, g2, gs1, gs2⟩ := hb6; obtain ⟨JJ, rfl⟩ : ∃ JJ, JJ = l63 := ⟨_, rfl⟩; rintro vb7 _ ⟨hvb7, rfl⟩; replace hvb7 : vb7 = .tuple _ := hvb7; subst hvb7; exact (YD0_of (y_extract (c := .agg _) (by rfl) (by rfl))))))) ?_
            refine P_ali [56] (fun e => tupAt (e 56) 1) (by rfl) (by rfl) (by rfl) (fun _ _ h => congrArg (tupAt · 1) (h 56 (List.mem_singleton.2 rfl))) (Over_out (by rfl) (Over_in (by rfl) (Over_in (by rfl) (Over_nil (by intro vb9 l63 hb9; obtain ⟨q, x1, t1, x2, t2, J1, J2, rfl, hq, g1, g2, gs1, gs2⟩ := hb9; obtain ⟨JJ, rfl⟩ : ∃ JJ, JJ = l63 := ⟨_, rfl⟩; rintro vb10 _ ⟨hvb10, rfl⟩; replace hvb10 : vb10 = .tuple _ := hvb10; subst hvb10; exact (YD0_of (y_extract (c := .int .i64 _) (by rfl) (by rfl)))))))) ?_
            refine P_newSD 64 (by rfl) (by rfl) (by rfl) (Over_out (by rfl) (Over_out (by rfl) (Over_out (by rfl) (Over_out (by rfl) (Over_nil (y_alloc Tryd.zeroValue24 (by rfl))))))) ?_
            refine P_st 11 0 (by rfl) (by rfl) (by rfl) (by rfl) (by rfl) (Over_out (by rfl) (Over_in (by rfl) (Over_in (by rfl) (Over_in (by rfl) (Over_nil (by intro vb12 l63 hb12; obtain ⟨q, x1, t1, x2, t2, J1, J2, rfl, hq, g1, g2, gs1, gs2⟩ := hb12; obtain ⟨JJ, rfl⟩ : ∃ JJ, JJ = l63 := ⟨_, rfl⟩; rintro vb13 _ ⟨hvb13, rfl⟩; replace hvb13 : vb13 = .tuple _ := hvb13; subst hvb13; rintro vb14 _ ⟨hvb14, rfl⟩; replace hvb14 : vb14 = .agg _ := hvb14; subst hvb14; exact (st_newD (by rfl) (by rfl) Tryd.sizeOf24 (by rfl) (by rfl) (by first | decide | exact Nat.le_of_ble_eq_true rfl | simp)))))))) ?_
            refine P_ali [65] (fun e => e 65) (by rfl) (by rfl) (by rfl) (fun _ _ h => h 65 (List.mem_singleton.2 rfl)) (Over_out (by rfl) (Over_in (by rfl) (Over_out (by rfl) (Over_in (by rfl) (Over_in (by rfl) (Over_nil (by intro vb15 l63 hb15; obtain ⟨q, x1, t1, x2, t2, J1, J2, rfl, hq, g1, g2, gs1, gs2⟩ := hb15; obtain ⟨JJ, rfl⟩ : ∃ JJ, JJ = l63 := ⟨_, rfl⟩; rintro vb16 _ ⟨hvb16, rfl⟩; replace hvb16 : vb16 = .tuple _ := hvb16; subst hvb16; rintro vb17 _ ⟨hvb17, rfl⟩; replace hvb17 : vb17 = .int .i64 _ := hvb17; subst hvb17; exact (YD0_of (y_assign (c := .int .i64 _) (by rfl)))))))))) ?_
            refine PW_end (by rfl) ?_
            refine OverAll_cons (fun w12 l12 => ?_)
            refine OverAll_cons (fun w11 l11 => ?_)
            refine OverAll_cons (fun w65 l65 => ?_)
            refine OverAll_cons (fun w64 l64 => ?_)
            refine OverAll_cons (fun w56 l56 => ?_)
            refine OverAll_cons (fun w63 l63 => ?_)
            refine OverAll_nil ?_
            rintro ⟨⟨⟨⟨⟨⟨-, h12⟩, h11⟩, h65⟩, h64⟩, h56⟩, h63⟩
            obtain ⟨q, x1, t1, x2, t2, J1, J2, rfl, hq, g1, g2, gs1, gs2⟩ := h63
            obtain ⟨JJ, rfl⟩ : ∃ JJ, JJ = l63 := ⟨_, rfl⟩
            obtain ⟨h56, rfl⟩ := h56
            replace h56 : w56 = .tuple _ := h56
            subst h56
            obtain ⟨h64, rfl⟩ := h64
            replace h64 : w64 = .agg _ := h64
            subst h64
            obtain ⟨h65, rfl⟩ := h65
            replace h65 : w65 = .int .i64 _ := h65
            subst h65
            obtain ⟨h12, rfl⟩ := h12
            replace h12 : w12 = .int .i64 _ := h12
            subst h12
            obtain ⟨b11, rfl, rfl⟩ := h11
            refine Then_normal ?_
            refine W_seq ?_
            refine W_seq ?_
            refine W_region_lit (fun ds => ?_)
            refine WS_pull (b1, _) (by repeat (first | exact Pul.base0 | exact Pul.base | apply Pul.cons | apply Pul.app)) ?_
            refine WS_pull (bk, _) (by repeat (first | exact Pul.base0 | exact Pul.base | apply Pul.cons | apply Pul.app)) ?_
            refine WS_pull (bo3, _) (by repeat (first | exact Pul.base0 | exact Pul.base | apply Pul.cons | apply Pul.app)) ?_
            refine WS_pull (b10, CB [.int .i64 (a : Int), .int .i64 (b : Int)] 26) (by repeat (first | exact Pul.base0 | exact Pul.base | apply Pul.cons | apply Pul.app)) ?_
            refine WS_pull (b11, CB [.slice x1 q.n t1, .slice x2 q.inn.length t2, .int .i64 q.st] 24) (by repeat (first | exact Pul.base0 | exact Pul.base | apply Pul.cons | apply Pul.app)) ?_
            refine WS_det hF (by rfl) (y_move (c := .int .i64 _) (by rfl)) ?_
            refine WS_det hF (by rfl) (y_neq (by rfl) (by rfl)) ?_
            refine WS_nil ?_
            refine Then_normal ?_
            refine W_cond (by rfl) (fun c19 => ?_) (fun c19 => ?_)
            ·
              try simp only [Bool.not_eq_true', Bool.not_eq_false', decide_eq_true_eq, decide_eq_false_iff_not, ne_eq, Classical.not_not, Int.not_lt, Int.not_le] at c19
              have hR6 : RcR c n fr rs.length i r (a * (c.n + 1) + (b + 1)) ⟨b + 1, P3, look3, rs3, ks3, bo3, cap3, junk3, HX3⟩ := hR3.skip (b + 1) (by rw [hpA]; exact c19)
              refine W_exit ?_
              refine Then_exit ?_
              refine InB_same ?_
              refine Then_normal ?_
              refine W_region_lit (fun ds => ?_)
              refine WS_det hF (by rfl) (y_move (c := .int .i64 _) (by rfl)) ?_
              refine WS_det hF (by rfl) (y_add (by rfl) (by rfl) (by unfold I64; first | omega | (simp only; omega))) ?_
              refine WS_det hF (by rfl) (y_assign (c := .int .i64 _) (by rfl)) ?_
              refine WS_nil ?_
              exact Loop_next (RcG.mk (b + 1) P3 look3 rs3 ks3 bo3 cap3 junk3 HX3) ⟨(by first | omega | (simp only; omega)), hR6⟩ (by repeat (first | exact trivial | refine ⟨by rfl, ?_⟩)) sbA (by first | omega | (simp only; omega))
            ·
              try simp only [Bool.not_eq_true', Bool.not_eq_false', decide_eq_true_eq, decide_eq_false_iff_not, ne_eq, Classical.not_not, Int.not_lt, Int.not_le] at c19
              obtain rfl := hq c19
              have hpe : c.pE r.x (⟨(a : Int), (b : Int)⟩ : Po) = 0 := c19
              have hyi : c.In (c.stp r.x (⟨(a : Int), (b : Int)⟩ : Po)) := hin.stp hn3 hpe
              have hky := Cn.key_eq hok hyi
              have q3 : 0 ≤ ((c.stp r.x (⟨(a : Int), (b : Int)⟩ : Po))).a := hyi.lo 0 (by decide)
              have q4 : ((c.stp r.x (⟨(a : Int), (b : Int)⟩ : Po))).a ≤ 600 := hyi.hi 0 (Nat.zero_le _)
              refine W_skip ?_
              refine Then_normal ?_
              refine W_seq ?_
              refine W_tailH 29 Trydmixed (fun e2 H2 => ∃ na ncap b13 Hl, NewRow 26 2 (c.nx r.w r.x (⟨(a : Int), (b : Int)⟩ : Po)).l.length (rowOf Po.cells (fun z => (c.nx r.w r.x (⟨(a : Int), (b : Int)⟩ : Po)).l.getD z Po.z) (c.nx r.w r.x (⟨(a : Int), (b : Int)⟩ : Po)).l.length) (.slice na (c.nx r.w r.x (⟨(a : Int), (b : Int)⟩ : Po)).l.length ncap) Hl ∧ Slots e2 [(1, .pointer (some ⟨b1, 0, none⟩)), (3, .slice (some ⟨bk, 0, none⟩) N kcap), (4, .slice (some ⟨bo3, 0, none⟩) rs3.length cap3), (6, .int .i64 (rs.length : Int)), (7, .int .i64 (i : Int)), (8, .int .i64 (a : Int)), (9, .int .i64 (b : Int)), (11, .pointer (some ⟨b11, 0, none⟩)), (13, .pointer (some ⟨b13, 0, none⟩)), (95, .agg #[.slice x1 c.n t1, .slice x2 (c.of (c.stp r.x (⟨(a : Int), (b : Int)⟩ : Po))).inn.length t2, .int .i64 ((c.stp r.x (⟨(a : Int), (b : Int)⟩ : Po))).a, .slice na (r.w.l.length + 1) ncap, .int .i64 (c.nx r.w r.x (⟨(a : Int), (b : Int)⟩ : Po)).back])] ∧ HSub H2 ((b13, CB [.slice none 0 0, .slice none 0 0, .int .i64 0, .slice none 0 0, .int .i64 0] 128) :: (b11, CB [.slice x1 c.n t1, .slice x2 (c.of (c.stp r.x (⟨(a : Int), (b : Int)⟩ : Po))).inn.length t2, .int .i64 ((c.stp r.x (⟨(a : Int), (b : Int)⟩ : Po))).a] 24) :: (bo3, CB (rRow c rs3 ++ junk3) 128) :: (bk, CB (iv ks3 ++ jk) 3) :: (b1, CB [.slice a1 c.n p1, .slice a2 c.inn.length p2, .int .i64 c.st] 24) :: (JJ ++ (HX3 ++ Hl)))) (by decide +kernel) (fun ds e2 H2 hmid => ?_) (fun ds => ?_)
              ·
                obtain ⟨na, ncap, b13, Hl, hrow, hsl, hsb⟩ := hmid
                rw [← c.nx_len r.w r.x (⟨(a : Int), (b : Int)⟩ : Po)] at hsl
                rw [← hsl.sets]
                refine WS_sub hsb ?_
                have hyr : Rl.RdH c (JJ ++ (HX3 ++ Hl)) ⟨(c.stp r.x (⟨(a : Int), (b : Int)⟩ : Po)), (c.nx r.w r.x (⟨(a : Int), (b : Int)⟩ : Po)), x1, t1, x2, t2, na, ncap⟩ := Rl.RdH.new g1 g2 hrow (gs1.trans sbA) (gs2.trans sbA) sbA
                have hHX : HX3.Sublist (JJ ++ (HX3 ++ Hl)) := sbA
                refine WS_store hF (us := [.slice _ _ _, .slice _ _ _, .int .i64 _, .slice _ _ _, .int .i64 _]) (i := 0) (by rfl) (by rfl) Tryd.sizeOf128 (by rfl) (by rfl) (by rfl) (by first | decide | exact Nat.le_of_ble_eq_true rfl | simp) ?_
                refine WS_nil ?_
                refine Then_normal ?_
                refine W_seq ?_
                refine W_region_lit (fun ds => ?_)
                refine WS_pull (b13, CB (Rl.cells c (⟨(c.stp r.x (⟨(a : Int), (b : Int)⟩ : Po)), (c.nx r.w r.x (⟨(a : Int), (b : Int)⟩ : Po)), x1, t1, x2, t2, na, ncap⟩ : Rl)) 128) (by repeat (first | exact Pul.base0 | exact Pul.base | apply Pul.cons | apply Pul.app)) ?_
                have hkl3 : ks3.length = 9261 := hR3.s.rc.tb.len
                have hlen3 : (rRow c rs3 ++ junk3).length = cap3 * 5 := hR3.s.len
                refine WS_det hF (by rfl) (y_move (c := .slice _ _ _) (by rfl)) ?_
                refine WS_det hF (by rfl) (y_loadN (by rfl) Tryd.isAgg24 Tryd.sizeOf24 (Mem.own (us := [.slice _ _ _, .slice _ _ _, .int .i64 _]) 1 (by rfl) (by rfl)) (by rfl)) ?_
                refine WS_det hF (by rfl) (y_callL (by rfl) (by rfl) Tryd.call108 (fun w hw => Ct_eq (rkey_any (c.of (c.stp r.x (⟨(a : Int), (b : Int)⟩ : Po))) x1 t1 x2 t2 w hn (by rw [(hok.of hyi).len]; exact hn3) (Cn.of_bd hok hyi) (NewRow.ints g2 rfl (gs2.trans sbA) w hw)) (show Value.int .i64 (kyL 0 (c.of (c.stp r.x (⟨(a : Int), (b : Int)⟩ : Po))).inn) = .int .i64 (c.key (c.stp r.x (⟨(a : Int), (b : Int)⟩ : Po)) : Int) by rw [← hky.1]; rfl))) ?_
                refine WS_det hF (by rfl) (y_index (k := c.key (c.stp r.x (⟨(a : Int), (b : Int)⟩ : Po))) (by rfl) (by rfl) (by first | rfl | omega) (by first | decide | omega) Tryd.runUnderlying22 Tryd.sizeOf3) ?_
                refine WS_det hF (by rfl) (y_load1 (by rfl) Tryd.isAgg3 (Mem.own (us := [.int .i64 (ks3.getD (c.key (c.stp r.x (⟨(a : Int), (b : Int)⟩ : Po))) 0)]) 3 (by rfl) (drop_iv (by omega) rfl))) ?_
                refine WS_det hF (by rfl) (y_assign (c := .int .i64 _) (by rfl)) ?_
                refine WS_nil ?_
                refine Then_normal ?_
                refine W_seq ?_
                refine W_region_lit (fun ds => ?_)
                refine WS_det hF (by rfl) (y_move (c := .int .i64 _) (by rfl)) ?_
                refine WS_det hF (by rfl) (y_eql (by rfl) (by rfl)) ?_
                refine WS_nil ?_
                refine Then_normal ?_
                refine W_cond (by rfl) (fun c22 => ?_) (fun c22 => ?_)
                ·
                  try simp only [Bool.not_eq_true', Bool.not_eq_false', decide_eq_true_eq, decide_eq_false_iff_not, ne_eq, Classical.not_not, Int.not_lt, Int.not_le] at c22
                  refine W_seq ?_
                  refine W_region_lit (fun ds => ?_)
                  refine WS_det hF (by rfl) (y_move (c := .slice _ _ _) (by rfl)) ?_
                  refine WS_det hF (by rfl) (y_loadN (by rfl) Tryd.isAgg128 Tryd.sizeOf128 (Mem.own (us := [.slice _ _ _, .slice _ _ _, .int .i64 _, .slice _ _ _, .int .i64 _]) 0 (by rfl) (by rfl)) (by rfl)) ?_
                  refine WS_newS hF (by rfl) (y_buildSliceL bs131_1_0 (by rfl)) (fun b19 => ?_)
                  refine WS_append hF (news := Rl.cells c (⟨(c.stp r.x (⟨(a : Int), (b : Int)⟩ : Po)), (c.nx r.w r.x (⟨(a : Int), (b : Int)⟩ : Po)), x1, t1, x2, t2, na, ncap⟩ : Rl)) (H1 := (_ :: _ :: _ :: [])) (Hn := [(bo3, CB (rRow c rs3 ++ junk3) 128)]) (by rfl) (by rfl) (by rfl) Tryd.underlying131 infWy (by rfl) (by rfl) (.inr ⟨bo3, junk3, rfl, rfl, rRow_len c rs3, hlen3, hcap3⟩) (.inr ⟨_, _, rfl, Mem.own (us := Rl.cells c (⟨(c.stp r.x (⟨(a : Int), (b : Int)⟩ : Po)), (c.nx r.w r.x (⟨(a : Int), (b : Int)⟩ : Po)), x1, t1, x2, t2, na, ncap⟩ : Rl)) 0 (by rfl) (by rfl)⟩) (by rfl) (by rfl) (by omega) (by omega) ?_
                  intro a4 cap4 H4 hr4
                  obtain ⟨bo4, junk4, rfl, rfl, hl4, hj4, hc4⟩ := hr4.resolve_left (by rintro ⟨_, h, _⟩; omega)
                  rw [← rRow_snoc] at hj4
                  rw [← rRow_snoc]
                  rw [show rs3.length + 1 = (rs3 ++ [(⟨(c.stp r.x (⟨(a : Int), (b : Int)⟩ : Po)), (c.nx r.w r.x (⟨(a : Int), (b : Int)⟩ : Po)), x1, t1, x2, t2, na, ncap⟩ : Rl)]).length by simp]
                  have hR6 := hR3.push hok hpA hJ hpe c22 (y := (⟨(c.stp r.x (⟨(a : Int), (b : Int)⟩ : Po)), (c.nx r.w r.x (⟨(a : Int), (b : Int)⟩ : Po)), x1, t1, x2, t2, na, ncap⟩ : Rl)) rfl rfl hHX hyr (b + 1) bo4 hj4 hc4
                  refine WS_det hF (by rfl) (y_assign (c := .slice _ _ _) (by rfl)) ?_
                  refine WS_nil ?_
                  refine Then_normal ?_
                  refine W_region_lit (fun ds => ?_)
                  refine WS_det hF (by rfl) (y_move (c := .slice _ _ _) (by rfl)) ?_
                  refine WS_det hF (by rfl) (y_loadN (by rfl) Tryd.isAgg24 Tryd.sizeOf24 (Mem.own (us := [.slice _ _ _, .slice _ _ _, .int .i64 _]) 2 (by rfl) (by rfl)) (by rfl)) ?_
                  refine WS_det hF (by rfl) (y_callL (by rfl) (by rfl) Tryd.call108 (fun w hw => Ct_eq (rkey_any (c.of (c.stp r.x (⟨(a : Int), (b : Int)⟩ : Po))) x1 t1 x2 t2 w hn (by rw [(hok.of hyi).len]; exact hn3) (Cn.of_bd hok hyi) (NewRow.ints g2 rfl (gs2.trans sbA) w hw)) (show Value.int .i64 (kyL 0 (c.of (c.stp r.x (⟨(a : Int), (b : Int)⟩ : Po))).inn) = .int .i64 (c.key (c.stp r.x (⟨(a : Int), (b : Int)⟩ : Po)) : Int) by rw [← hky.1]; rfl))) ?_
                  refine WS_det hF (by rfl) (y_move (c := .slice _ _ _) (by rfl)) ?_
                  refine WS_det hF (by rfl) (y_len (by rfl) Tryd.runUnderlying131) ?_
                  refine WS_det hF (by rfl) (y_index (k := c.key (c.stp r.x (⟨(a : Int), (b : Int)⟩ : Po))) (by rfl) (by rfl) (by first | rfl | omega) (by first | decide | omega) Tryd.runUnderlying22 Tryd.sizeOf3) ?_
                  refine WS_store hF (us := [.int .i64 _]) (i := 4) (by rfl) (by rfl) Tryd.sizeOf3 (by rfl) (by rfl) (by rfl) (fit_iv (by omega)) ?_
                  refine WS_nil ?_
                  refine InB_normal ?_
                  refine Then_normal ?_
                  rw [splice_iv _ _ _ _ (by omega)]
                  rw [show ((rs3 ++ [(⟨(c.stp r.x (⟨(a : Int), (b : Int)⟩ : Po)), (c.nx r.w r.x (⟨(a : Int), (b : Int)⟩ : Po)), x1, t1, x2, t2, na, ncap⟩ : Rl)]).length : Int) = (rs3.length : Int) + 1 by simp]
                  refine W_region_lit (fun ds => ?_)
                  refine WS_det hF (by rfl) (y_move (c := .int .i64 _) (by rfl)) ?_
                  refine WS_det hF (by rfl) (y_add (by rfl) (by rfl) (by unfold I64; first | omega | (simp only; omega))) ?_
                  refine WS_det hF (by rfl) (y_assign (c := .int .i64 _) (by rfl)) ?_
                  refine WS_nil ?_
                  exact Loop_next (RcG.mk (b + 1) (addP P3 (c.stp r.x (⟨(a : Int), (b : Int)⟩ : Po)) (c.nx r.w r.x (⟨(a : Int), (b : Int)⟩ : Po))) (addL look3 (c.stp r.x (⟨(a : Int), (b : Int)⟩ : Po)) (c.nx r.w r.x (⟨(a : Int), (b : Int)⟩ : Po))) (rs3 ++ [(⟨(c.stp r.x (⟨(a : Int), (b : Int)⟩ : Po)), (c.nx r.w r.x (⟨(a : Int), (b : Int)⟩ : Po)), x1, t1, x2, t2, na, ncap⟩ : Rl)]) (ks3.set (c.key (c.stp r.x (⟨(a : Int), (b : Int)⟩ : Po))) ((rs3.length : Int) + 1)) bo4 cap4 junk4 (JJ ++ (HX3 ++ Hl))) ⟨(by first | omega | (simp only; omega)), hR6⟩ (by repeat (first | exact trivial | refine ⟨by rfl, ?_⟩)) sbA (by first | omega | (simp only; omega))
                ·
                  try simp only [Bool.not_eq_true', Bool.not_eq_false', decide_eq_true_eq, decide_eq_false_iff_not, ne_eq, Classical.not_not, Int.not_lt, Int.not_le] at c22
                  obtain ⟨j, u, hj, hkj, hjlt, hjge⟩ := hR3.s.rc.known hok hlv hpe c22
                  change ks3.getD (c.key (c.stp r.x (⟨(a : Int), (b : Int)⟩ : Po))) 0 = (j : Int) + 1 at hkj
                  rw [hkj]
                  refine W_seq ?_
                  refine W_draw0 hF Trydmixed [] (by decide +kernel) (fun ds => ?_)
                  refine P_det (by rfl) (Over_nil (y_move (c := .int .i64 _) (by rfl))) ?_
                  refine P_det (by rfl) (Over_nil (y_move (c := .int .i64 _) (by rfl))) ?_
                  refine P_det (by rfl) (Over_nil (y_gtr (by rfl) (by rfl))) ?_
                  refine P_det (by rfl) (Over_nil (y_move (c := .bool _) (by rfl))) ?_
                  refine P_split 116 (by rfl) (fun g25_3 => ?_) (fun g25_3 => ?_)
                  ·
                    try simp only [Bool.not_eq_true', Bool.not_eq_false', decide_eq_true_eq, decide_eq_false_iff_not, ne_eq, Classical.not_not, Int.not_lt, Int.not_le] at g25_3
                    obtain ⟨hlk, hul, hnk⟩ := hjge (by omega)
                    obtain ⟨rj, hrj, hrjx, hrjw⟩ := zz_of hj
                    change rj.w = u at hrjw
                    have hjl : j < rs3.length := (List.getElem?_eq_some_iff.1 hrj).1
                    have hlu : (c.nx r.w r.x (⟨(a : Int), (b : Int)⟩ : Po)).l.length = rj.w.l.length := by rw [c.nx_len, hrjw]; omega
                    have hnl := c.nx_len r.w r.x (⟨(a : Int), (b : Int)⟩ : Po)
                    refine P_det (by rfl) (Over_nil (y_loadN (by rfl) Tryd.isAgg128 Tryd.sizeOf128 (Mem.own (us := [.slice _ _ _, .slice _ _ _, .int .i64 _, .slice _ _ _, .int .i64 _]) 0 (by rfl) (by rfl)) (by rfl))) ?_
                    refine P_det (by rfl) (Over_nil (y_move (c := .slice _ _ _) (by rfl))) ?_
                    refine P_det (by rfl) (Over_nil (y_move (c := .int .i64 _) (by rfl))) ?_
                    refine P_det (by rfl) (Over_nil (y_sub (by rfl) (by rfl) (by unfold I64; omega))) ?_
                    refine P_det (by rfl) (Over_nil (y_index (k := j) (by rfl) (by rfl) (by first | rfl | omega) (by first | decide | omega) Tryd.runUnderlying131 Tryd.sizeOf128)) ?_
                    refine P_det (by rfl) (Over_nil (y_loadN (by rfl) Tryd.isAgg128 Tryd.sizeOf128 (Mem.rl 0 2 (by rfl) hrj (us := [.slice _ _ _, .slice _ _ _, .int _ _, .slice _ _ _, .int _ _]) (by rfl) (by omega) (by omega)) (by rfl))) ?_
                    refine P_det (by rfl) (Over_nil (y_callL (by rfl) (by rfl) Tryd.call107 (fun w hw => rbetter_any (c.nx r.w r.x (⟨(a : Int), (b : Int)⟩ : Po)) rj.w na ncap rj.l rj.kl w hlu (by omega) _ _ _ _ _ _ _ _ _ _ _ _ _ _ (NewRow.rws po_len hrow rfl sbA w hw) ((hR3.s.rd rj (List.mem_of_getElem? hrj)).p _ _ w sbA hw)))) ?_
                    refine P_det (by rfl) (Over_nil (by first | exact y_pick_t (c := .bool _) (by rfl) (by rfl) | exact y_pick_f (c := .bool _) (by rfl) (by rfl))) ?_
                    refine PW_end (by rfl) ?_
                    refine OverAll_nil ?_
                    rintro -
                    refine Then_normal ?_
                    refine W_cond (by rfl) (fun c25 => ?_) (fun c25 => ?_)
                    ·
                      try simp only [Bool.not_eq_true', Bool.not_eq_false', decide_eq_true_eq, decide_eq_false_iff_not, ne_eq, Classical.not_not, Int.not_lt, Int.not_le] at c25
                      rw [wbetB_lt hlu, hrjw] at c25
                      have hR6 := hR3.upd hpA hJ hpe hj (by omega) hlk hnk c25 (y := (⟨(c.stp r.x (⟨(a : Int), (b : Int)⟩ : Po)), (c.nx r.w r.x (⟨(a : Int), (b : Int)⟩ : Po)), x1, t1, x2, t2, na, ncap⟩ : Rl)) rfl rfl hHX hyr (b + 1)
                      refine W_region_lit (fun ds => ?_)
                      refine WS_det hF (by rfl) (y_move (c := .slice _ _ _) (by rfl)) ?_
                      refine WS_det hF (by rfl) (y_move (c := .int .i64 _) (by rfl)) ?_
                      refine WS_det hF (by rfl) (y_sub (by rfl) (by rfl) (by unfold I64; omega)) ?_
                      refine WS_det hF (by rfl) (y_loadN (by rfl) Tryd.isAgg128 Tryd.sizeOf128 (Mem.own (us := [.slice _ _ _, .slice _ _ _, .int .i64 _, .slice _ _ _, .int .i64 _]) 0 (by rfl) (by rfl)) (by rfl)) ?_
                      refine WS_det hF (by rfl) (y_index (k := j) (by rfl) (by rfl) (by first | rfl | omega) (by first | decide | omega) Tryd.runUnderlying131 Tryd.sizeOf128) ?_
                      refine WS_store hF (us := [.slice _ _ _, .slice _ _ _, .int .i64 _, .slice _ _ _, .int .i64 _]) (i := 2) (by rfl) (by rfl) Tryd.sizeOf128 (by rfl) (by rfl) (by rfl) (by rw [List.length_append, rRow_len]; simp only [List.length_cons, List.length_nil]; omega) ?_
                      refine WS_nil ?_
                      refine InB_normal ?_
                      refine Then_normal ?_
                      rw [show splice (rRow c rs3 ++ junk3) (0 + j * 5) [.slice x1 c.n t1, .slice x2 (c.of (c.stp r.x (⟨(a : Int), (b : Int)⟩ : Po))).inn.length t2, .int .i64 ((c.stp r.x (⟨(a : Int), (b : Int)⟩ : Po))).a, .slice na (c.nx r.w r.x (⟨(a : Int), (b : Int)⟩ : Po)).l.length ncap, .int .i64 (c.nx r.w r.x (⟨(a : Int), (b : Int)⟩ : Po)).back] = rRow c (rs3.set j (⟨(c.stp r.x (⟨(a : Int), (b : Int)⟩ : Po)), (c.nx r.w r.x (⟨(a : Int), (b : Int)⟩ : Po)), x1, t1, x2, t2, na, ncap⟩ : Rl)) ++ junk3 from rRow_splice hjl (⟨(c.stp r.x (⟨(a : Int), (b : Int)⟩ : Po)), (c.nx r.w r.x (⟨(a : Int), (b : Int)⟩ : Po)), x1, t1, x2, t2, na, ncap⟩ : Rl)]
                      rw [show rs3.length = (rs3.set j (⟨(c.stp r.x (⟨(a : Int), (b : Int)⟩ : Po)), (c.nx r.w r.x (⟨(a : Int), (b : Int)⟩ : Po)), x1, t1, x2, t2, na, ncap⟩ : Rl)).length by rw [List.length_set]]
                      refine W_region_lit (fun ds => ?_)
                      refine WS_det hF (by rfl) (y_move (c := .int .i64 _) (by rfl)) ?_
                      refine WS_det hF (by rfl) (y_add (by rfl) (by rfl) (by unfold I64; first | omega | (simp only; omega))) ?_
                      refine WS_det hF (by rfl) (y_assign (c := .int .i64 _) (by rfl)) ?_
                      refine WS_nil ?_
                      exact Loop_next (RcG.mk (b + 1) (addP P3 (c.stp r.x (⟨(a : Int), (b : Int)⟩ : Po)) (c.nx r.w r.x (⟨(a : Int), (b : Int)⟩ : Po))) (addL look3 (c.stp r.x (⟨(a : Int), (b : Int)⟩ : Po)) (c.nx r.w r.x (⟨(a : Int), (b : Int)⟩ : Po))) (rs3.set j (⟨(c.stp r.x (⟨(a : Int), (b : Int)⟩ : Po)), (c.nx r.w r.x (⟨(a : Int), (b : Int)⟩ : Po)), x1, t1, x2, t2, na, ncap⟩ : Rl)) ks3 bo3 cap3 junk3 (JJ ++ (HX3 ++ Hl))) ⟨(by first | omega | (simp only; omega)), hR6⟩ (by repeat (first | exact trivial | refine ⟨by rfl, ?_⟩)) sbA (by first | omega | (simp only; omega))
                    ·
                      try simp only [Bool.not_eq_true', Bool.not_eq_false', decide_eq_true_eq, decide_eq_false_iff_not, ne_eq, Classical.not_not, Int.not_lt, Int.not_le] at c25
                      rw [wbetB_lt hlu, hrjw] at c25
                      have hR6 := hR3.keep hpA hJ hpe hj (by omega) hlk hnk c25 (b + 1)
                      refine W_skip ?_
                      refine InB_normal ?_
                      refine Then_normal ?_
                      refine W_region_lit (fun ds => ?_)
                      refine WS_det hF (by rfl) (y_move (c := .int .i64 _) (by rfl)) ?_
                      refine WS_det hF (by rfl) (y_add (by rfl) (by rfl) (by unfold I64; first | omega | (simp only; omega))) ?_
                      refine WS_det hF (by rfl) (y_assign (c := .int .i64 _) (by rfl)) ?_
                      refine WS_nil ?_
                      exact Loop_next (RcG.mk (b + 1) (addP P3 (c.stp r.x (⟨(a : Int), (b : Int)⟩ : Po)) (c.nx r.w r.x (⟨(a : Int), (b : Int)⟩ : Po))) (addL look3 (c.stp r.x (⟨(a : Int), (b : Int)⟩ : Po)) (c.nx r.w r.x (⟨(a : Int), (b : Int)⟩ : Po))) rs3 ks3 bo3 cap3 junk3 HX3) ⟨(by first | omega | (simp only; omega)), hR6⟩ (by repeat (first | exact trivial | refine ⟨by rfl, ?_⟩)) sbA (by first | omega | (simp only; omega))
                  ·
                    try simp only [Bool.not_eq_true', Bool.not_eq_false', decide_eq_true_eq, decide_eq_false_iff_not, ne_eq, Classical.not_not, Int.not_lt, Int.not_le] at g25_3
                    have hR6 := hR3.knw (b + 1) hpA hJ hpe (hjlt (by omega))
                    refine P_no (by rfl) ?_
                    refine P_no (by rfl) ?_
                    refine P_no (by rfl) ?_
                    refine P_no (by rfl) ?_
                    refine P_no (by rfl) ?_
                    refine P_no (by rfl) ?_
                    refine P_no (by rfl) ?_
                    refine P_det (by rfl) (Over_nil (by first | exact y_pick_t (c := .bool _) (by rfl) (by rfl) | exact y_pick_f (c := .bool _) (by rfl) (by rfl))) ?_
                    refine PW_end (by rfl) ?_
                    refine OverAll_nil ?_
                    rintro -
                    refine Then_normal ?_
                    refine W_cond (by rfl) (fun c25 => ?_) (fun c25 => ?_)
                    · cases c25
                    ·
                      try simp only [Bool.not_eq_true', Bool.not_eq_false', decide_eq_true_eq, decide_eq_false_iff_not, ne_eq, Classical.not_not, Int.not_lt, Int.not_le] at c25
                      refine W_skip ?_
                      refine InB_normal ?_
                      refine Then_normal ?_
                      refine W_region_lit (fun ds => ?_)
                      refine WS_det hF (by rfl) (y_move (c := .int .i64 _) (by rfl)) ?_
                      refine WS_det hF (by rfl) (y_add (by rfl) (by rfl) (by unfold I64; first | omega | (simp only; omega))) ?_
                      refine WS_det hF (by rfl) (y_assign (c := .int .i64 _) (by rfl)) ?_
                      refine WS_nil ?_
                      exact Loop_next (RcG.mk (b + 1) P3 look3 rs3 ks3 bo3 cap3 junk3 HX3) ⟨(by first | omega | (simp only; omega)), hR6⟩ (by repeat (first | exact trivial | refine ⟨by rfl, ?_⟩)) sbA (by first | omega | (simp only; omega))
              ·
                refine WH_take 0 (by decide +kernel) (by rfl) (by decide +kernel) (by decide +kernel) (by rfl) (ye_loadN (by rfl) Tryd.isAgg24 Tryd.sizeOf24 (Mem.own (us := [.slice _ _ _, .slice _ _ _, .int .i64 _]) 0 (by rfl) (by rfl)) (by rfl)) ?_
                refine WH_take 2 (by decide +kernel) (by rfl) (by decide +kernel) (by decide +kernel) (by rfl) (ye_move (c := .slice _ _ _) (by rfl)) ?_
                refine WH_take 3 (by decide +kernel) (by rfl) (by decide +kernel) (by decide +kernel) (by rfl) (ye_move (c := .int .i64 _) (by rfl)) ?_
                refine WH_take 4 (by decide +kernel) (by rfl) (by decide +kernel) (by decide +kernel) (by rfl) (ye_index (k := i) (by rfl) (by rfl) (by first | rfl | omega) (by first | decide | omega) Tryd.runUnderlying131 Tryd.sizeOf128) ?_
                refine WH_take 5 (by decide +kernel) (by rfl) (by decide +kernel) (by decide +kernel) (by rfl) (ye_fieldAddr (by rfl) fa128_1) ?_
                refine WH_take 6 (by decide +kernel) (by rfl) (by decide +kernel) (by decide +kernel) (by rfl) (ye_load1 (by rfl) Tryd.isAgg27 (Mem.rl 3 2 (by rfl) hR3.e (us := [.slice _ _ _]) (by rfl) (by omega) (by omega))) ?_
                refine WH_take 8 (by decide +kernel) (by rfl) (by decide +kernel) (by decide +kernel) (by rfl) (ye_loadN (by rfl) Tryd.isAgg26 Tryd.sizeOf26 (Mem.own (us := [.int .i64 _, .int .i64 _]) 1 (by rfl) (by rfl)) (by rfl)) ?_
                refine WH_take 11 (by decide +kernel) (by rfl) (by decide +kernel) (by decide +kernel) (by rfl) (ye_move (c := .slice _ _ _) (by rfl)) ?_
                refine WH_take 12 (by decide +kernel) (by rfl) (by decide +kernel) (by decide +kernel) (by rfl) (ye_move (c := .int .i64 _) (by rfl)) ?_
                refine WH_take 13 (by decide +kernel) (by rfl) (by decide +kernel) (by decide +kernel) (by rfl) (ye_index (k := i) (by rfl) (by rfl) (by first | rfl | omega) (by first | decide | omega) Tryd.runUnderlying131 Tryd.sizeOf128) ?_
                refine WH_take 14 (by decide +kernel) (by rfl) (by decide +kernel) (by decide +kernel) (by rfl) (ye_fieldAddr (by rfl) fa128_2) ?_
                refine WH_take 15 (by decide +kernel) (by rfl) (by decide +kernel) (by decide +kernel) (by rfl) (ye_load1 (by rfl) Tryd.isAgg3 (Mem.rl 4 2 (by rfl) hR3.e (us := [.int _ _]) (by rfl) (by omega) (by omega))) ?_
                refine WH_take 16 (by decide +kernel) (by rfl) (by decide +kernel) (by decide +kernel) (by rfl) (ye_fieldAddr (by rfl) fa24_2) ?_
                refine WH_take 17 (by decide +kernel) (by rfl) (by decide +kernel) (by decide +kernel) (by rfl) (ye_load1 (by rfl) Tryd.isAgg3 (Mem.own1 0 (by rfl) (by rfl))) ?_
                refine WH_take 18 (by decide +kernel) (by rfl) (by decide +kernel) (by decide +kernel) (by rfl) (ye_move (c := .slice _ _ _) (by rfl)) ?_
                refine WH_take 19 (by decide +kernel) (by rfl) (by decide +kernel) (by decide +kernel) (by rfl) (ye_move (c := .int .i64 _) (by rfl)) ?_
                refine WH_take 20 (by decide +kernel) (by rfl) (by decide +kernel) (by decide +kernel) (by rfl) (ye_index (k := i) (by rfl) (by rfl) (by first | rfl | omega) (by first | decide | omega) Tryd.runUnderlying131 Tryd.sizeOf128) ?_
                refine WH_take 21 (by decide +kernel) (by rfl) (by decide +kernel) (by decide +kernel) (by rfl) (ye_fieldAddr (by rfl) fa128_0) ?_
                refine WH_take 22 (by decide +kernel) (by rfl) (by decide +kernel) (by decide +kernel) (by rfl) (ye_fieldAddr (by rfl) fa24_2) ?_
                refine WH_take 23 (by decide +kernel) (by rfl) (by decide +kernel) (by decide +kernel) (by rfl) (ye_load1 (by rfl) Tryd.isAgg3 (Mem.rl 2 2 (by rfl) hR3.e (us := [.int _ _]) (by rfl) (by omega) (by omega))) ?_
                refine WH_take 24 (by decide +kernel) (by rfl) (by decide +kernel) (by decide +kernel) (by rfl) (ye_sub (by rfl) (by rfl) (by show I64 (((c.stp r.x (⟨(a : Int), (b : Int)⟩ : Po))).a - r.x.a); unfold I64; omega)) ?_
                refine WH_take 25 (by decide +kernel) (by rfl) (by decide +kernel) (by decide +kernel) (by rfl) (ye_max (by rfl) (by rfl)) ?_
                refine WH_take 26 (by decide +kernel) (by rfl) (by decide +kernel) (by decide +kernel) (by rfl) (ye_add (by rfl) (by rfl) (by show I64 (r.w.back + max 0 (((c.stp r.x (⟨(a : Int), (b : Int)⟩ : Po))).a - r.x.a)); unfold I64; omega)) ?_
                refine WH_step3 1 9 28 (by decide +kernel) (fun _ h => St.sub h sbA) (by rfl) (by rfl) (by rfl) ?_ ?_ ?_
                ·
                  refine WS_newS hF (by rfl) (y_buildSliceL bs27_0 (by rfl)) (fun b20 => ?_)
                  refine WS_nil ?_
                  refine WH_step3 7 9 28 (by decide +kernel) (fun _ h => St.sub h sbA) (by rfl) (by rfl) (by rfl) ?_ ?_ ?_
                  ·
                    refine WS_gen hF (by rfl) (fun w hw => y_append0 (by rfl) (by rfl) Tryd.underlying27 infPo (by rfl) (Src_pos (fun w hw => hrd3.p _ _ w sbA hw) hw) (rowOf_len po_len _ _) (by omega) (by omega) w hw) ?_
                    rintro _ Hc hrc0
                    obtain ⟨ca, ccap, rfl, hrc⟩ := NewRow.sl hrc0
                    refine WS_back ?_
                    refine WS_nil ?_
                    refine WH_step2 9 28 (by decide +kernel) (fun _ h => St.sub h sbA) (by rfl) (by rfl) ?_ ?_
                    ·
                      refine WS_newS hF (by rfl) (y_buildSliceL bs27_1_0 (by rfl)) (fun b21 => ?_)
                      refine WS_nil ?_
                      refine WH_step2 10 28 (by decide +kernel) (fun _ h => St.sub h sbA) (by rfl) (by rfl) ?_ ?_
                      ·
                        refine WS_appendN hF (H1 := (_ :: _ :: _ :: _ :: _ :: _ :: _ :: (JJ ++ (HX3)))) (Hn := Hc) (by rfl) (by rfl) (by rfl) Tryd.underlying27 infPo (by rfl) (by rfl) hrc (rowOf_len po_len _ _) (.inr ⟨_, _, rfl, (by first | exact Mem.own (us := [.int _ _, .int _ _]) 0 (by rfl) (by rfl) | exact Mem.own (us := [.int _ _, .int _ _]) 1 (by rfl) (by rfl) | exact Mem.own (us := [.int _ _, .int _ _]) 2 (by rfl) (by rfl))⟩) (by rfl) (by rfl) (by omega) (by omega) (by omega) ?_
                        intro a3 cap3' H3 hr3
                        have hrow3 : NewRow 26 2 (c.nx r.w r.x (⟨(a : Int), (b : Int)⟩ : Po)).l.length (rowOf Po.cells (fun z => (c.nx r.w r.x (⟨(a : Int), (b : Int)⟩ : Po)).l.getD z Po.z) (c.nx r.w r.x (⟨(a : Int), (b : Int)⟩ : Po)).l.length) (.slice a3 (c.nx r.w r.x (⟨(a : Int), (b : Int)⟩ : Po)).l.length cap3') H3 := by rw [c.nx_row, c.nx_len]; exact hr3
                        refine WS_nil ?_
                        refine WH_take 27 (by decide +kernel) (by rfl) (by decide +kernel) (by decide +kernel) (by rfl) (ye_buildL bd128_0_1_2 (by rfl)) ?_
                        refine WH_step1 28 (by decide +kernel) (fun _ h => St.sub h sbA) (by rfl) ?_
                        ·
                          refine WS_new hF (by rfl) (y_alloc Tryd.zeroValue128 (by rfl)) (fun b13 => ?_)
                          refine WS_nil ?_
                          refine WH_done (by decide +kernel) (fun _ h => St.sub h sbA) ?_
                          exact ⟨_, _, _, _, hrow3, (by repeat (first | exact trivial | refine ⟨by rfl, ?_⟩ | refine ⟨congrArg (Value.int _) (by first | omega | (simp only; omega) | (push_cast; omega)), ?_⟩)), HSub.sub sbA⟩
                      ·
                        refine WS_new hF (by rfl) (y_alloc Tryd.zeroValue128 (by rfl)) (fun b13 => ?_)
                        refine WS_nil ?_
                        refine WH_step1 10 (by decide +kernel) (fun _ h => St.sub h sbA) (by rfl) ?_
                        ·
                          refine WS_appendN hF (H1 := (_ :: _ :: _ :: _ :: _ :: _ :: _ :: _ :: (JJ ++ (HX3)))) (Hn := Hc) (by rfl) (by rfl) (by rfl) Tryd.underlying27 infPo (by rfl) (by rfl) hrc (rowOf_len po_len _ _) (.inr ⟨_, _, rfl, (by first | exact Mem.own (us := [.int _ _, .int _ _]) 0 (by rfl) (by rfl) | exact Mem.own (us := [.int _ _, .int _ _]) 1 (by rfl) (by rfl) | exact Mem.own (us := [.int _ _, .int _ _]) 2 (by rfl) (by rfl))⟩) (by rfl) (by rfl) (by omega) (by omega) (by omega) ?_
                          intro a3 cap3' H3 hr3
                          have hrow3 : NewRow 26 2 (c.nx r.w r.x (⟨(a : Int), (b : Int)⟩ : Po)).l.length (rowOf Po.cells (fun z => (c.nx r.w r.x (⟨(a : Int), (b : Int)⟩ : Po)).l.getD z Po.z) (c.nx r.w r.x (⟨(a : Int), (b : Int)⟩ : Po)).l.length) (.slice a3 (c.nx r.w r.x (⟨(a : Int), (b : Int)⟩ : Po)).l.length cap3') H3 := by rw [c.nx_row, c.nx_len]; exact hr3
                          refine WS_nil ?_
                          refine WH_take 27 (by decide +kernel) (by rfl) (by decide +kernel) (by decide +kernel) (by rfl) (ye_buildL bd128_0_1_2 (by rfl)) ?_
                          refine WH_done (by decide +kernel) (fun _ h => St.sub h sbA) ?_
                          exact ⟨_, _, _, _, hrow3, (by repeat (first | exact trivial | refine ⟨by rfl, ?_⟩ | refine ⟨congrArg (Value.int _) (by first | omega | (simp only; omega) | (push_cast; omega)), ?_⟩)), HSub.sub sbA⟩
                    ·
                      refine WS_new hF (by rfl) (y_alloc Tryd.zeroValue128 (by rfl)) (fun b13 => ?_)
                      refine WS_nil ?_
                      refine WH_step1 9 (by decide +kernel) (fun _ h => St.sub h sbA) (by rfl) ?_
                      ·
                        refine WS_newS hF (by rfl) (y_buildSliceL bs27_1_0 (by rfl)) (fun b22 => ?_)
                        refine WS_nil ?_
                        refine WH_step1 10 (by decide +kernel) (fun _ h => St.sub h sbA) (by rfl) ?_
                        ·
                          refine WS_appendN hF (H1 := (_ :: _ :: _ :: _ :: _ :: _ :: _ :: _ :: (JJ ++ (HX3)))) (Hn := Hc) (by rfl) (by rfl) (by rfl) Tryd.underlying27 infPo (by rfl) (by rfl) hrc (rowOf_len po_len _ _) (.inr ⟨_, _, rfl, (by first | exact Mem.own (us := [.int _ _, .int _ _]) 0 (by rfl) (by rfl) | exact Mem.own (us := [.int _ _, .int _ _]) 1 (by rfl) (by rfl) | exact Mem.own (us := [.int _ _, .int _ _]) 2 (by rfl) (by rfl))⟩) (by rfl) (by rfl) (by omega) (by omega) (by omega) ?_
                          intro a3 cap3' H3 hr3
                          have hrow3 : NewRow 26 2 (c.nx r.w r.x (⟨(a : Int), (b : Int)⟩ : Po)).l.length (rowOf Po.cells (fun z => (c.nx r.w r.x (⟨(a : Int), (b : Int)⟩ : Po)).l.getD z Po.z) (c.nx r.w r.x (⟨(a : Int), (b : Int)⟩ : Po)).l.length) (.slice a3 (c.nx r.w r.x (⟨(a : Int), (b : Int)⟩ : Po)).l.length cap3') H3 := by rw [c.nx_row, c.nx_len]; exact hr3
                          refine WS_nil ?_
                          refine WH_take 27 (by decide +kernel) (by rfl) (by decide +kernel) (by decide +kernel) (by rfl) (ye_buildL bd128_0_1_2 (by rfl)) ?_
                          refine WH_done (by decide +kernel) (fun _ h => St.sub h sbA) ?_
                          exact ⟨_, _, _, _, hrow3, (by repeat (first | exact trivial | refine ⟨by rfl, ?_⟩ | refine ⟨congrArg (Value.int _) (by first | omega | (simp only; omega) | (push_cast; omega)), ?_⟩)), HSub.sub sbA⟩
                  ·
                    refine WS_newS hF (by rfl) (y_buildSliceL bs27_1_0 (by rfl)) (fun b23 => ?_)
                    refine WS_nil ?_
                    refine WH_step2 7 28 (by decide +kernel) (fun _ h => St.sub h sbA) (by rfl) (by rfl) ?_ ?_
                    ·
                      refine WS_gen hF (by rfl) (fun w hw => y_append0 (by rfl) (by rfl) Tryd.underlying27 infPo (by rfl) (Src_pos (fun w hw => hrd3.p _ _ w sbA hw) hw) (rowOf_len po_len _ _) (by omega) (by omega) w hw) ?_
                      rintro _ Hc hrc0
                      obtain ⟨ca, ccap, rfl, hrc⟩ := NewRow.sl hrc0
                      refine WS_back ?_
                      refine WS_nil ?_
                      refine WH_step2 10 28 (by decide +kernel) (fun _ h => St.sub h sbA) (by rfl) (by rfl) ?_ ?_
                      ·
                        refine WS_appendN hF (H1 := (_ :: _ :: _ :: _ :: _ :: _ :: _ :: (JJ ++ (HX3)))) (Hn := Hc) (by rfl) (by rfl) (by rfl) Tryd.underlying27 infPo (by rfl) (by rfl) hrc (rowOf_len po_len _ _) (.inr ⟨_, _, rfl, (by first | exact Mem.own (us := [.int _ _, .int _ _]) 0 (by rfl) (by rfl) | exact Mem.own (us := [.int _ _, .int _ _]) 1 (by rfl) (by rfl) | exact Mem.own (us := [.int _ _, .int _ _]) 2 (by rfl) (by rfl))⟩) (by rfl) (by rfl) (by omega) (by omega) (by omega) ?_
                        intro a3 cap3' H3 hr3
                        have hrow3 : NewRow 26 2 (c.nx r.w r.x (⟨(a : Int), (b : Int)⟩ : Po)).l.length (rowOf Po.cells (fun z => (c.nx r.w r.x (⟨(a : Int), (b : Int)⟩ : Po)).l.getD z Po.z) (c.nx r.w r.x (⟨(a : Int), (b : Int)⟩ : Po)).l.length) (.slice a3 (c.nx r.w r.x (⟨(a : Int), (b : Int)⟩ : Po)).l.length cap3') H3 := by rw [c.nx_row, c.nx_len]; exact hr3
                        refine WS_nil ?_
                        refine WH_take 27 (by decide +kernel) (by rfl) (by decide +kernel) (by decide +kernel) (by rfl) (ye_buildL bd128_0_1_2 (by rfl)) ?_
                        refine WH_step1 28 (by decide +kernel) (fun _ h => St.sub h sbA) (by rfl) ?_
                        ·
                          refine WS_new hF (by rfl) (y_alloc Tryd.zeroValue128 (by rfl)) (fun b13 => ?_)
                          refine WS_nil ?_
                          refine WH_done (by decide +kernel) (fun _ h => St.sub h sbA) ?_
                          exact ⟨_, _, _, _, hrow3, (by repeat (first | exact trivial | refine ⟨by rfl, ?_⟩ | refine ⟨congrArg (Value.int _) (by first | omega | (simp only; omega) | (push_cast; omega)), ?_⟩)), HSub.sub sbA⟩
                      ·
                        refine WS_new hF (by rfl) (y_alloc Tryd.zeroValue128 (by rfl)) (fun b13 => ?_)
                        refine WS_nil ?_
                        refine WH_step1 10 (by decide +kernel) (fun _ h => St.sub h sbA) (by rfl) ?_
                        ·
                          refine WS_appendN hF (H1 := (_ :: _ :: _ :: _ :: _ :: _ :: _ :: _ :: (JJ ++ (HX3)))) (Hn := Hc) (by rfl) (by rfl) (by rfl) Tryd.underlying27 infPo (by rfl) (by rfl) hrc (rowOf_len po_len _ _) (.inr ⟨_, _, rfl, (by first | exact Mem.own (us := [.int _ _, .int _ _]) 0 (by rfl) (by rfl) | exact Mem.own (us := [.int _ _, .int _ _]) 1 (by rfl) (by rfl) | exact Mem.own (us := [.int _ _, .int _ _]) 2 (by rfl) (by rfl))⟩) (by rfl) (by rfl) (by omega) (by omega) (by omega) ?_
                          intro a3 cap3' H3 hr3
                          have hrow3 : NewRow 26 2 (c.nx r.w r.x (⟨(a : Int), (b : Int)⟩ : Po)).l.length (rowOf Po.cells (fun z => (c.nx r.w r.x (⟨(a : Int), (b : Int)⟩ : Po)).l.getD z Po.z) (c.nx r.w r.x (⟨(a : Int), (b : Int)⟩ : Po)).l.length) (.slice a3 (c.nx r.w r.x (⟨(a : Int), (b : Int)⟩ : Po)).l.length cap3') H3 := by rw [c.nx_row, c.nx_len]; exact hr3
                          refine WS_nil ?_
                          refine WH_take 27 (by decide +kernel) (by rfl) (by decide +kernel) (by decide +kernel) (by rfl) (ye_buildL bd128_0_1_2 (by rfl)) ?_
                          refine WH_done (by decide +kernel) (fun _ h => St.sub h sbA) ?_
                          exact ⟨_, _, _, _, hrow3, (by repeat (first | exact trivial | refine ⟨by rfl, ?_⟩ | refine ⟨congrArg (Value.int _) (by first | omega | (simp only; omega) | (push_cast; omega)), ?_⟩)), HSub.sub sbA⟩
                    ·
                      refine WS_new hF (by rfl) (y_alloc Tryd.zeroValue128 (by rfl)) (fun b13 => ?_)
                      refine WS_nil ?_
                      refine WH_step1 7 (by decide +kernel) (fun _ h => St.sub h sbA) (by rfl) ?_
                      ·
                        refine WS_gen hF (by rfl) (fun w hw => y_append0 (by rfl) (by rfl) Tryd.underlying27 infPo (by rfl) (Src_pos (fun w hw => hrd3.p _ _ w sbA hw) hw) (rowOf_len po_len _ _) (by omega) (by omega) w hw) ?_
                        rintro _ Hc hrc0
                        obtain ⟨ca, ccap, rfl, hrc⟩ := NewRow.sl hrc0
                        refine WS_back ?_
                        refine WS_nil ?_
                        refine WH_step1 10 (by decide +kernel) (fun _ h => St.sub h sbA) (by rfl) ?_
                        ·
                          refine WS_appendN hF (H1 := (_ :: _ :: _ :: _ :: _ :: _ :: _ :: _ :: (JJ ++ (HX3)))) (Hn := Hc) (by rfl) (by rfl) (by rfl) Tryd.underlying27 infPo (by rfl) (by rfl) hrc (rowOf_len po_len _ _) (.inr ⟨_, _, rfl, (by first | exact Mem.own (us := [.int _ _, .int _ _]) 0 (by rfl) (by rfl) | exact Mem.own (us := [.int _ _, .int _ _]) 1 (by rfl) (by rfl) | exact Mem.own (us := [.int _ _, .int _ _]) 2 (by rfl) (by rfl))⟩) (by rfl) (by rfl) (by omega) (by omega) (by omega) ?_
                          intro a3 cap3' H3 hr3
                          have hrow3 : NewRow 26 2 (c.nx r.w r.x (⟨(a : Int), (b : Int)⟩ : Po)).l.length (rowOf Po.cells (fun z => (c.nx r.w r.x (⟨(a : Int), (b : Int)⟩ : Po)).l.getD z Po.z) (c.nx r.w r.x (⟨(a : Int), (b : Int)⟩ : Po)).l.length) (.slice a3 (c.nx r.w r.x (⟨(a : Int), (b : Int)⟩ : Po)).l.length cap3') H3 := by rw [c.nx_row, c.nx_len]; exact hr3
                          refine WS_nil ?_
                          refine WH_take 27 (by decide +kernel) (by rfl) (by decide +kernel) (by decide +kernel) (by rfl) (ye_buildL bd128_0_1_2 (by rfl)) ?_
                          refine WH_done (by decide +kernel) (fun _ h => St.sub h sbA) ?_
                          exact ⟨_, _, _, _, hrow3, (by repeat (first | exact trivial | refine ⟨by rfl, ?_⟩ | refine ⟨congrArg (Value.int _) (by first | omega | (simp only; omega) | (push_cast; omega)), ?_⟩)), HSub.sub sbA⟩
                  ·
                    refine WS_new hF (by rfl) (y_alloc Tryd.zeroValue128 (by rfl)) (fun b13 => ?_)
                    refine WS_nil ?_
                    refine WH_step2 7 9 (by decide +kernel) (fun _ h => St.sub h sbA) (by rfl) (by rfl) ?_ ?_
                    ·
                      refine WS_gen hF (by rfl) (fun w hw => y_append0 (by rfl) (by rfl) Tryd.underlying27 infPo (by rfl) (Src_pos (fun w hw => hrd3.p _ _ w sbA hw) hw) (rowOf_len po_len _ _) (by omega) (by omega) w hw) ?_
                      rintro _ Hc hrc0
                      obtain ⟨ca, ccap, rfl, hrc⟩ := NewRow.sl hrc0
                      refine WS_back ?_
                      refine WS_nil ?_
                      refine WH_step1 9 (by decide +kernel) (fun _ h => St.sub h sbA) (by rfl) ?_
                      ·
                        refine WS_newS hF (by rfl) (y_buildSliceL bs27_1_0 (by rfl)) (fun b24 => ?_)
                        refine WS_nil ?_
                        refine WH_step1 10 (by decide +kernel) (fun _ h => St.sub h sbA) (by rfl) ?_
                        ·
                          refine WS_appendN hF (H1 := (_ :: _ :: _ :: _ :: _ :: _ :: _ :: _ :: (JJ ++ (HX3)))) (Hn := Hc) (by rfl) (by rfl) (by rfl) Tryd.underlying27 infPo (by rfl) (by rfl) hrc (rowOf_len po_len _ _) (.inr ⟨_, _, rfl, (by first | exact Mem.own (us := [.int _ _, .int _ _]) 0 (by rfl) (by rfl) | exact Mem.own (us := [.int _ _, .int _ _]) 1 (by rfl) (by rfl) | exact Mem.own (us := [.int _ _, .int _ _]) 2 (by rfl) (by rfl))⟩) (by rfl) (by rfl) (by omega) (by omega) (by omega) ?_
                          intro a3 cap3' H3 hr3
                          have hrow3 : NewRow 26 2 (c.nx r.w r.x (⟨(a : Int), (b : Int)⟩ : Po)).l.length (rowOf Po.cells (fun z => (c.nx r.w r.x (⟨(a : Int), (b : Int)⟩ : Po)).l.getD z Po.z) (c.nx r.w r.x (⟨(a : Int), (b : Int)⟩ : Po)).l.length) (.slice a3 (c.nx r.w r.x (⟨(a : Int), (b : Int)⟩ : Po)).l.length cap3') H3 := by rw [c.nx_row, c.nx_len]; exact hr3
                          refine WS_nil ?_
                          refine WH_take 27 (by decide +kernel) (by rfl) (by decide +kernel) (by decide +kernel) (by rfl) (ye_buildL bd128_0_1_2 (by rfl)) ?_
                          refine WH_done (by decide +kernel) (fun _ h => St.sub h sbA) ?_
                          exact ⟨_, _, _, _, hrow3, (by repeat (first | exact trivial | refine ⟨by rfl, ?_⟩ | refine ⟨congrArg (Value.int _) (by first | omega | (simp only; omega) | (push_cast; omega)), ?_⟩)), HSub.sub sbA⟩
                    ·
                      refine WS_newS hF (by rfl) (y_buildSliceL bs27_1_0 (by rfl)) (fun b25 => ?_)
                      refine WS_nil ?_
                      refine WH_step1 7 (by decide +kernel) (fun _ h => St.sub h sbA) (by rfl) ?_
                      ·
                        refine WS_gen hF (by rfl) (fun w hw => y_append0 (by rfl) (by rfl) Tryd.underlying27 infPo (by rfl) (Src_pos (fun w hw => hrd3.p _ _ w sbA hw) hw) (rowOf_len po_len _ _) (by omega) (by omega) w hw) ?_
                        rintro _ Hc hrc0
                        obtain ⟨ca, ccap, rfl, hrc⟩ := NewRow.sl hrc0
                        refine WS_back ?_
                        refine WS_nil ?_
                        refine WH_step1 10 (by decide +kernel) (fun _ h => St.sub h sbA) (by rfl) ?_
                        ·
                          refine WS_appendN hF (H1 := (_ :: _ :: _ :: _ :: _ :: _ :: _ :: _ :: (JJ ++ (HX3)))) (Hn := Hc) (by rfl) (by rfl) (by rfl) Tryd.underlying27 infPo (by rfl) (by rfl) hrc (rowOf_len po_len _ _) (.inr ⟨_, _, rfl, (by first | exact Mem.own (us := [.int _ _, .int _ _]) 0 (by rfl) (by rfl) | exact Mem.own (us := [.int _ _, .int _ _]) 1 (by rfl) (by rfl) | exact Mem.own (us := [.int _ _, .int _ _]) 2 (by rfl) (by rfl))⟩) (by rfl) (by rfl) (by omega) (by omega) (by omega) ?_
                          intro a3 cap3' H3 hr3
                          have hrow3 : NewRow 26 2 (c.nx r.w r.x (⟨(a : Int), (b : Int)⟩ : Po)).l.length (rowOf Po.cells (fun z => (c.nx r.w r.x (⟨(a : Int), (b : Int)⟩ : Po)).l.getD z Po.z) (c.nx r.w r.x (⟨(a : Int), (b : Int)⟩ : Po)).l.length) (.slice a3 (c.nx r.w r.x (⟨(a : Int), (b : Int)⟩ : Po)).l.length cap3') H3 := by rw [c.nx_row, c.nx_len]; exact hr3
                          refine WS_nil ?_
                          refine WH_take 27 (by decide +kernel) (by rfl) (by decide +kernel) (by decide +kernel) (by rfl) (ye_buildL bd128_0_1_2 (by rfl)) ?_
                          refine WH_done (by decide +kernel) (fun _ h => St.sub h sbA) ?_
                          exact ⟨_, _, _, _, hrow3, (by repeat (first | exact trivial | refine ⟨by rfl, ?_⟩ | refine ⟨congrArg (Value.int _) (by first | omega | (simp only; omega) | (push_cast; omega)), ?_⟩)), HSub.sub sbA⟩
                ·
                  refine WS_newS hF (by rfl) (y_buildSliceL bs27_1_0 (by rfl)) (fun b26 => ?_)
                  refine WS_nil ?_
                  refine WH_step2 1 28 (by decide +kernel) (fun _ h => St.sub h sbA) (by rfl) (by rfl) ?_ ?_
                  ·
                    refine WS_newS hF (by rfl) (y_buildSliceL bs27_0 (by rfl)) (fun b27 => ?_)
                    refine WS_nil ?_
                    refine WH_step2 7 28 (by decide +kernel) (fun _ h => St.sub h sbA) (by rfl) (by rfl) ?_ ?_
                    ·
                      refine WS_gen hF (by rfl) (fun w hw => y_append0 (by rfl) (by rfl) Tryd.underlying27 infPo (by rfl) (Src_pos (fun w hw => hrd3.p _ _ w sbA hw) hw) (rowOf_len po_len _ _) (by omega) (by omega) w hw) ?_
                      rintro _ Hc hrc0
                      obtain ⟨ca, ccap, rfl, hrc⟩ := NewRow.sl hrc0
                      refine WS_back ?_
                      refine WS_nil ?_
                      refine WH_step2 10 28 (by decide +kernel) (fun _ h => St.sub h sbA) (by rfl) (by rfl) ?_ ?_
                      ·
                        refine WS_appendN hF (H1 := (_ :: _ :: _ :: _ :: _ :: _ :: _ :: (JJ ++ (HX3)))) (Hn := Hc) (by rfl) (by rfl) (by rfl) Tryd.underlying27 infPo (by rfl) (by rfl) hrc (rowOf_len po_len _ _) (.inr ⟨_, _, rfl, (by first | exact Mem.own (us := [.int _ _, .int _ _]) 0 (by rfl) (by rfl) | exact Mem.own (us := [.int _ _, .int _ _]) 1 (by rfl) (by rfl) | exact Mem.own (us := [.int _ _, .int _ _]) 2 (by rfl) (by rfl))⟩) (by rfl) (by rfl) (by omega) (by omega) (by omega) ?_
                        intro a3 cap3' H3 hr3
                        have hrow3 : NewRow 26 2 (c.nx r.w r.x (⟨(a : Int), (b : Int)⟩ : Po)).l.length (rowOf Po.cells (fun z => (c.nx r.w r.x (⟨(a : Int), (b : Int)⟩ : Po)).l.getD z Po.z) (c.nx r.w r.x (⟨(a : Int), (b : Int)⟩ : Po)).l.length) (.slice a3 (c.nx r.w r.x (⟨(a : Int), (b : Int)⟩ : Po)).l.length cap3') H3 := by rw [c.nx_row, c.nx_len]; exact hr3
                        refine WS_nil ?_
                        refine WH_take 27 (by decide +kernel) (by rfl) (by decide +kernel) (by decide +kernel) (by rfl) (ye_buildL bd128_0_1_2 (by rfl)) ?_
                        refine WH_step1 28 (by decide +kernel) (fun _ h => St.sub h sbA) (by rfl) ?_
                        ·
                          refine WS_new hF (by rfl) (y_alloc Tryd.zeroValue128 (by rfl)) (fun b13 => ?_)
                          refine WS_nil ?_
                          refine WH_done (by decide +kernel) (fun _ h => St.sub h sbA) ?_
                          exact ⟨_, _, _, _, hrow3, (by repeat (first | exact trivial | refine ⟨by rfl, ?_⟩ | refine ⟨congrArg (Value.int _) (by first | omega | (simp only; omega) | (push_cast; omega)), ?_⟩)), HSub.sub sbA⟩
                      ·
                        refine WS_new hF (by rfl) (y_alloc Tryd.zeroValue128 (by rfl)) (fun b13 => ?_)
                        refine WS_nil ?_
                        refine WH_step1 10 (by decide +kernel) (fun _ h => St.sub h sbA) (by rfl) ?_
                        ·
                          refine WS_appendN hF (H1 := (_ :: _ :: _ :: _ :: _ :: _ :: _ :: _ :: (JJ ++ (HX3)))) (Hn := Hc) (by rfl) (by rfl) (by rfl) Tryd.underlying27 infPo (by rfl) (by rfl) hrc (rowOf_len po_len _ _) (.inr ⟨_, _, rfl, (by first | exact Mem.own (us := [.int _ _, .int _ _]) 0 (by rfl) (by rfl) | exact Mem.own (us := [.int _ _, .int _ _]) 1 (by rfl) (by rfl) | exact Mem.own (us := [.int _ _, .int _ _]) 2 (by rfl) (by rfl))⟩) (by rfl) (by rfl) (by omega) (by omega) (by omega) ?_
                          intro a3 cap3' H3 hr3
                          have hrow3 : NewRow 26 2 (c.nx r.w r.x (⟨(a : Int), (b : Int)⟩ : Po)).l.length (rowOf Po.cells (fun z => (c.nx r.w r.x (⟨(a : Int), (b : Int)⟩ : Po)).l.getD z Po.z) (c.nx r.w r.x (⟨(a : Int), (b : Int)⟩ : Po)).l.length) (.slice a3 (c.nx r.w r.x (⟨(a : Int), (b : Int)⟩ : Po)).l.length cap3') H3 := by rw [c.nx_row, c.nx_len]; exact hr3
                          refine WS_nil ?_
                          refine WH_take 27 (by decide +kernel) (by rfl) (by decide +kernel) (by decide +kernel) (by rfl) (ye_buildL bd128_0_1_2 (by rfl)) ?_
                          refine WH_done (by decide +kernel) (fun _ h => St.sub h sbA) ?_
                          exact ⟨_, _, _, _, hrow3, (by repeat (first | exact trivial | refine ⟨by rfl, ?_⟩ | refine ⟨congrArg (Value.int _) (by first | omega | (simp only; omega) | (push_cast; omega)), ?_⟩)), HSub.sub sbA⟩
                    ·
                      refine WS_new hF (by rfl) (y_alloc Tryd.zeroValue128 (by rfl)) (fun b13 => ?_)
                      refine WS_nil ?_
                      refine WH_step1 7 (by decide +kernel) (fun _ h => St.sub h sbA) (by rfl) ?_
                      ·
                        refine WS_gen hF (by rfl) (fun w hw => y_append0 (by rfl) (by rfl) Tryd.underlying27 infPo (by rfl) (Src_pos (fun w hw => hrd3.p _ _ w sbA hw) hw) (rowOf_len po_len _ _) (by omega) (by omega) w hw) ?_
                        rintro _ Hc hrc0
                        obtain ⟨ca, ccap, rfl, hrc⟩ := NewRow.sl hrc0
                        refine WS_back ?_
                        refine WS_nil ?_
                        refine WH_step1 10 (by decide +kernel) (fun _ h => St.sub h sbA) (by rfl) ?_
                        ·
                          refine WS_appendN hF (H1 := (_ :: _ :: _ :: _ :: _ :: _ :: _ :: _ :: (JJ ++ (HX3)))) (Hn := Hc) (by rfl) (by rfl) (by rfl) Tryd.underlying27 infPo (by rfl) (by rfl) hrc (rowOf_len po_len _ _) (.inr ⟨_, _, rfl, (by first | exact Mem.own (us := [.int _ _, .int _ _]) 0 (by rfl) (by rfl) | exact Mem.own (us := [.int _ _, .int _ _]) 1 (by rfl) (by rfl) | exact Mem.own (us := [.int _ _, .int _ _]) 2 (by rfl) (by rfl))⟩) (by rfl) (by rfl) (by omega) (by omega) (by omega) ?_
                          intro a3 cap3' H3 hr3
                          have hrow3 : NewRow 26 2 (c.nx r.w r.x (⟨(a : Int), (b : Int)⟩ : Po)).l.length (rowOf Po.cells (fun z => (c.nx r.w r.x (⟨(a : Int), (b : Int)⟩ : Po)).l.getD z Po.z) (c.nx r.w r.x (⟨(a : Int), (b : Int)⟩ : Po)).l.length) (.slice a3 (c.nx r.w r.x (⟨(a : Int), (b : Int)⟩ : Po)).l.length cap3') H3 := by rw [c.nx_row, c.nx_len]; exact hr3
                          refine WS_nil ?_
                          refine WH_take 27 (by decide +kernel) (by rfl) (by decide +kernel) (by decide +kernel) (by rfl) (ye_buildL bd128_0_1_2 (by rfl)) ?_
                          refine WH_done (by decide +kernel) (fun _ h => St.sub h sbA) ?_
                          exact ⟨_, _, _, _, hrow3, (by repeat (first | exact trivial | refine ⟨by rfl, ?_⟩ | refine ⟨congrArg (Value.int _) (by first | omega | (simp only; omega) | (push_cast; omega)), ?_⟩)), HSub.sub sbA⟩
                  ·
                    refine WS_new hF (by rfl) (y_alloc Tryd.zeroValue128 (by rfl)) (fun b13 => ?_)
                    refine WS_nil ?_
                    refine WH_step1 1 (by decide +kernel) (fun _ h => St.sub h sbA) (by rfl) ?_
                    ·
                      refine WS_newS hF (by rfl) (y_buildSliceL bs27_0 (by rfl)) (fun b28 => ?_)
                      refine WS_nil ?_
                      refine WH_step1 7 (by decide +kernel) (fun _ h => St.sub h sbA) (by rfl) ?_
                      ·
                        refine WS_gen hF (by rfl) (fun w hw => y_append0 (by rfl) (by rfl) Tryd.underlying27 infPo (by rfl) (Src_pos (fun w hw => hrd3.p _ _ w sbA hw) hw) (rowOf_len po_len _ _) (by omega) (by omega) w hw) ?_
                        rintro _ Hc hrc0
                        obtain ⟨ca, ccap, rfl, hrc⟩ := NewRow.sl hrc0
                        refine WS_back ?_
                        refine WS_nil ?_
                        refine WH_step1 10 (by decide +kernel) (fun _ h => St.sub h sbA) (by rfl) ?_
                        ·
                          refine WS_appendN hF (H1 := (_ :: _ :: _ :: _ :: _ :: _ :: _ :: _ :: (JJ ++ (HX3)))) (Hn := Hc) (by rfl) (by rfl) (by rfl) Tryd.underlying27 infPo (by rfl) (by rfl) hrc (rowOf_len po_len _ _) (.inr ⟨_, _, rfl, (by first | exact Mem.own (us := [.int _ _, .int _ _]) 0 (by rfl) (by rfl) | exact Mem.own (us := [.int _ _, .int _ _]) 1 (by rfl) (by rfl) | exact Mem.own (us := [.int _ _, .int _ _]) 2 (by rfl) (by rfl))⟩) (by rfl) (by rfl) (by omega) (by omega) (by omega) ?_
                          intro a3 cap3' H3 hr3
                          have hrow3 : NewRow 26 2 (c.nx r.w r.x (⟨(a : Int), (b : Int)⟩ : Po)).l.length (rowOf Po.cells (fun z => (c.nx r.w r.x (⟨(a : Int), (b : Int)⟩ : Po)).l.getD z Po.z) (c.nx r.w r.x (⟨(a : Int), (b : Int)⟩ : Po)).l.length) (.slice a3 (c.nx r.w r.x (⟨(a : Int), (b : Int)⟩ : Po)).l.length cap3') H3 := by rw [c.nx_row, c.nx_len]; exact hr3
                          refine WS_nil ?_
                          refine WH_take 27 (by decide +kernel) (by rfl) (by decide +kernel) (by decide +kernel) (by rfl) (ye_buildL bd128_0_1_2 (by rfl)) ?_
                          refine WH_done (by decide +kernel) (fun _ h => St.sub h sbA) ?_
                          exact ⟨_, _, _, _, hrow3, (by repeat (first | exact trivial | refine ⟨by rfl, ?_⟩ | refine ⟨congrArg (Value.int _) (by first | omega | (simp only; omega) | (push_cast; omega)), ?_⟩)), HSub.sub sbA⟩
                ·
                  refine WS_new hF (by rfl) (y_alloc Tryd.zeroValue128 (by rfl)) (fun b13 => ?_)
                  refine WS_nil ?_
                  refine WH_step2 1 9 (by decide +kernel) (fun _ h => St.sub h sbA) (by rfl) (by rfl) ?_ ?_
                  ·
                    refine WS_newS hF (by rfl) (y_buildSliceL bs27_0 (by rfl)) (fun b29 => ?_)
                    refine WS_nil ?_
                    refine WH_step2 7 9 (by decide +kernel) (fun _ h => St.sub h sbA) (by rfl) (by rfl) ?_ ?_
                    ·
                      refine WS_gen hF (by rfl) (fun w hw => y_append0 (by rfl) (by rfl) Tryd.underlying27 infPo (by rfl) (Src_pos (fun w hw => hrd3.p _ _ w sbA hw) hw) (rowOf_len po_len _ _) (by omega) (by omega) w hw) ?_
                      rintro _ Hc hrc0
                      obtain ⟨ca, ccap, rfl, hrc⟩ := NewRow.sl hrc0
                      refine WS_back ?_
                      refine WS_nil ?_
                      refine WH_step1 9 (by decide +kernel) (fun _ h => St.sub h sbA) (by rfl) ?_
                      ·
                        refine WS_newS hF (by rfl) (y_buildSliceL bs27_1_0 (by rfl)) (fun b30 => ?_)
                        refine WS_nil ?_
                        refine WH_step1 10 (by decide +kernel) (fun _ h => St.sub h sbA) (by rfl) ?_
                        ·
                          refine WS_appendN hF (H1 := (_ :: _ :: _ :: _ :: _ :: _ :: _ :: _ :: (JJ ++ (HX3)))) (Hn := Hc) (by rfl) (by rfl) (by rfl) Tryd.underlying27 infPo (by rfl) (by rfl) hrc (rowOf_len po_len _ _) (.inr ⟨_, _, rfl, (by first | exact Mem.own (us := [.int _ _, .int _ _]) 0 (by rfl) (by rfl) | exact Mem.own (us := [.int _ _, .int _ _]) 1 (by rfl) (by rfl) | exact Mem.own (us := [.int _ _, .int _ _]) 2 (by rfl) (by rfl))⟩) (by rfl) (by rfl) (by omega) (by omega) (by omega) ?_
                          intro a3 cap3' H3 hr3
                          have hrow3 : NewRow 26 2 (c.nx r.w r.x (⟨(a : Int), (b : Int)⟩ : Po)).l.length (rowOf Po.cells (fun z => (c.nx r.w r.x (⟨(a : Int), (b : Int)⟩ : Po)).l.getD z Po.z) (c.nx r.w r.x (⟨(a : Int), (b : Int)⟩ : Po)).l.length) (.slice a3 (c.nx r.w r.x (⟨(a : Int), (b : Int)⟩ : Po)).l.length cap3') H3 := by rw [c.nx_row, c.nx_len]; exact hr3
                          refine WS_nil ?_
                          refine WH_take 27 (by decide +kernel) (by rfl) (by decide +kernel) (by decide +kernel) (by rfl) (ye_buildL bd128_0_1_2 (by rfl)) ?_
                          refine WH_done (by decide +kernel) (fun _ h => St.sub h sbA) ?_
                          exact ⟨_, _, _, _, hrow3, (by repeat (first | exact trivial | refine ⟨by rfl, ?_⟩ | refine ⟨congrArg (Value.int _) (by first | omega | (simp only; omega) | (push_cast; omega)), ?_⟩)), HSub.sub sbA⟩
                    ·
                      refine WS_newS hF (by rfl) (y_buildSliceL bs27_1_0 (by rfl)) (fun b31 => ?_)
                      refine WS_nil ?_
                      refine WH_step1 7 (by decide +kernel) (fun _ h => St.sub h sbA) (by rfl) ?_
                      ·
                        refine WS_gen hF (by rfl) (fun w hw => y_append0 (by rfl) (by rfl) Tryd.underlying27 infPo (by rfl) (Src_pos (fun w hw => hrd3.p _ _ w sbA hw) hw) (rowOf_len po_len _ _) (by omega) (by omega) w hw) ?_
                        rintro _ Hc hrc0
                        obtain ⟨ca, ccap, rfl, hrc⟩ := NewRow.sl hrc0
                        refine WS_back ?_
                        refine WS_nil ?_
                        refine WH_step1 10 (by decide +kernel) (fun _ h => St.sub h sbA) (by rfl) ?_
                        ·
                          refine WS_appendN hF (H1 := (_ :: _ :: _ :: _ :: _ :: _ :: _ :: _ :: (JJ ++ (HX3)))) (Hn := Hc) (by rfl) (by rfl) (by rfl) Tryd.underlying27 infPo (by rfl) (by rfl) hrc (rowOf_len po_len _ _) (.inr ⟨_, _, rfl, (by first | exact Mem.own (us := [.int _ _, .int _ _]) 0 (by rfl) (by rfl) | exact Mem.own (us := [.int _ _, .int _ _]) 1 (by rfl) (by rfl) | exact Mem.own (us := [.int _ _, .int _ _]) 2 (by rfl) (by rfl))⟩) (by rfl) (by rfl) (by omega) (by omega) (by omega) ?_
                          intro a3 cap3' H3 hr3
                          have hrow3 : NewRow 26 2 (c.nx r.w r.x (⟨(a : Int), (b : Int)⟩ : Po)).l.length (rowOf Po.cells (fun z => (c.nx r.w r.x (⟨(a : Int), (b : Int)⟩ : Po)).l.getD z Po.z) (c.nx r.w r.x (⟨(a : Int), (b : Int)⟩ : Po)).l.length) (.slice a3 (c.nx r.w r.x (⟨(a : Int), (b : Int)⟩ : Po)).l.length cap3') H3 := by rw [c.nx_row, c.nx_len]; exact hr3
                          refine WS_nil ?_
                          refine WH_take 27 (by decide +kernel) (by rfl) (by decide +kernel) (by decide +kernel) (by rfl) (ye_buildL bd128_0_1_2 (by rfl)) ?_
                          refine WH_done (by decide +kernel) (fun _ h => St.sub h sbA) ?_
                          exact ⟨_, _, _, _, hrow3, (by repeat (first | exact trivial | refine ⟨by rfl, ?_⟩ | refine ⟨congrArg (Value.int _) (by first | omega | (simp only; omega) | (push_cast; omega)), ?_⟩)), HSub.sub sbA⟩
                  ·
                    refine WS_newS hF (by rfl) (y_buildSliceL bs27_1_0 (by rfl)) (fun b32 => ?_)
                    refine WS_nil ?_
                    refine WH_step1 1 (by decide +kernel) (fun _ h => St.sub h sbA) (by rfl) ?_
                    ·
                      refine WS_newS hF (by rfl) (y_buildSliceL bs27_0 (by rfl)) (fun b33 => ?_)
                      refine WS_nil ?_
                      refine WH_step1 7 (by decide +kernel) (fun _ h => St.sub h sbA) (by rfl) ?_
                      ·
                        refine WS_gen hF (by rfl) (fun w hw => y_append0 (by rfl) (by rfl) Tryd.underlying27 infPo (by rfl) (Src_pos (fun w hw => hrd3.p _ _ w sbA hw) hw) (rowOf_len po_len _ _) (by omega) (by omega) w hw) ?_
                        rintro _ Hc hrc0
                        obtain ⟨ca, ccap, rfl, hrc⟩ := NewRow.sl hrc0
                        refine WS_back ?_
                        refine WS_nil ?_
                        refine WH_step1 10 (by decide +kernel) (fun _ h => St.sub h sbA) (by rfl) ?_
                        ·
                          refine WS_appendN hF (H1 := (_ :: _ :: _ :: _ :: _ :: _ :: _ :: _ :: (JJ ++ (HX3)))) (Hn := Hc) (by rfl) (by rfl) (by rfl) Tryd.underlying27 infPo (by rfl) (by rfl) hrc (rowOf_len po_len _ _) (.inr ⟨_, _, rfl, (by first | exact Mem.own (us := [.int _ _, .int _ _]) 0 (by rfl) (by rfl) | exact Mem.own (us := [.int _ _, .int _ _]) 1 (by rfl) (by rfl) | exact Mem.own (us := [.int _ _, .int _ _]) 2 (by rfl) (by rfl))⟩) (by rfl) (by rfl) (by omega) (by omega) (by omega) ?_
                          intro a3 cap3' H3 hr3
                          have hrow3 : NewRow 26 2 (c.nx r.w r.x (⟨(a : Int), (b : Int)⟩ : Po)).l.length (rowOf Po.cells (fun z => (c.nx r.w r.x (⟨(a : Int), (b : Int)⟩ : Po)).l.getD z Po.z) (c.nx r.w r.x (⟨(a : Int), (b : Int)⟩ : Po)).l.length) (.slice a3 (c.nx r.w r.x (⟨(a : Int), (b : Int)⟩ : Po)).l.length cap3') H3 := by rw [c.nx_row, c.nx_len]; exact hr3
                          refine WS_nil ?_
                          refine WH_take 27 (by decide +kernel) (by rfl) (by decide +kernel) (by decide +kernel) (by rfl) (ye_buildL bd128_0_1_2 (by rfl)) ?_
                          refine WH_done (by decide +kernel) (fun _ h => St.sub h sbA) ?_
                          exact ⟨_, _, _, _, hrow3, (by repeat (first | exact trivial | refine ⟨by rfl, ?_⟩ | refine ⟨congrArg (Value.int _) (by first | omega | (simp only; omega) | (push_cast; omega)), ?_⟩)), HSub.sub sbA⟩
        ·
          try simp only [Bool.not_eq_true', Bool.not_eq_false', decide_eq_true_eq, decide_eq_false_iff_not, ne_eq, Classical.not_not, Int.not_lt, Int.not_le] at c14
          have hR4 : RcR c n fr rs.length i r ((a + 1) * (c.n + 1)) ⟨a + 1, P3, look3, rs3, ks3, bo3, cap3, junk3, HX3⟩ := by
            have : b = c.n + 1 := by omega
            rw [Nat.succ_mul]
            subst this
            exact hR3.rk (a + 1)
          refine W_exit ?_
          refine Then_exit ?_
          refine Loop_exit ?_
          refine InB_same ?_
          refine InB_normal ?_
          refine Then_normal ?_
          refine W_region_lit (fun ds => ?_)
          refine WS_det hF (by rfl) (y_move (c := .int .i64 _) (by rfl)) ?_
          refine WS_det hF (by rfl) (y_add (by rfl) (by rfl) (by unfold I64; omega)) ?_
          refine WS_det hF (by rfl) (y_assign (c := .int .i64 _) (by rfl)) ?_
          refine WS_nil ?_
          exact Loop_next (RcG.mk (a + 1) P3 look3 rs3 ks3 bo3 cap3 junk3 HX3) ⟨by simp only; omega, hR4⟩ (by repeat (first | exact trivial | refine ⟨by rfl, ?_⟩)) sbA (by simp only; omega)
      ·
        try simp only [Bool.not_eq_true', Bool.not_eq_false', decide_eq_true_eq, decide_eq_false_iff_not, ne_eq, Classical.not_not, Int.not_lt, Int.not_le] at c11
        have hS2 : RcS c n fr rs.length (i + 1) ⟨i + 1, P2, look2, rs2, ks2, bo2, cap2, junk2, HX2⟩ := by
          have : a = c.n + 1 := by omega
          subst this
          exact hR2.fin (i + 1)
        refine W_exit ?_
        refine Then_exit ?_
        refine Loop_exit ?_
        refine InB_same ?_
        refine InB_normal ?_
        refine Then_normal ?_
        refine W_region_lit (fun ds => ?_)
        refine WS_det hF (by rfl) (y_move (c := .int .i64 _) (by rfl)) ?_
        refine WS_det hF (by rfl) (y_add (by rfl) (by rfl) (by unfold I64; omega)) ?_
        refine WS_det hF (by rfl) (y_assign (c := .int .i64 _) (by rfl)) ?_
        refine WS_nil ?_
        exact Loop_next (RcG.mk (i + 1) P2 look2 rs2 ks2 bo2 cap2 junk2 HX2) ⟨by simp only; omega, by simp only; omega, hS2⟩ (by repeat (first | exact trivial | refine ⟨by rfl, ?_⟩)) sbA (by simp only; omega)
    ·
      try simp only [Bool.not_eq_true', Bool.not_eq_false', decide_eq_true_eq, decide_eq_false_iff_not, ne_eq, Classical.not_not, Int.not_lt, Int.not_le] at c8
      have hien : i = rs.length := by omega
      have hR5 := hS1.rc.done hok (by rw [← hien]; exact hS1.dn)
      refine W_exit ?_
      refine Then_exit ?_
      refine Loop_exit ?_
      refine InB_same ?_
      refine Then_normal ?_
      refine W_region_lit (fun ds => ?_)
      refine WS_det hF (by rfl) (y_move (c := .int .i64 _) (by rfl)) ?_
      refine WS_det hF (by rfl) (y_assign (c := .int .i64 _) (by rfl)) ?_
      refine WS_nil ?_
      refine InB_normal ?_
      exact Loop_next (n + 1, rs.length, RcG.mk 0 P1 look1 rs1 ks1 bo1 cap1 junk1 HX1) ⟨by simp only; omega, hR5, hS1.rd, hS1.len, hS1.cap⟩ (by repeat (first | exact trivial | refine ⟨by rfl, ?_⟩)) sbA (by simp only; omega)
  ·
    try simp only [Bool.not_eq_true', Bool.not_eq_false', decide_eq_true_eq, decide_eq_false_iff_not, ne_eq, Classical.not_not, Int.not_lt, Int.not_le] at c5
    refine W_exit ?_
    refine Then_exit ?_
    refine Loop_exit ?_
    refine InB_same ?_
    refine Then_normal ?_
    refine W_seq ?_
    refine W_region_lit (fun ds => ?_)
    refine WS_det hF (by rfl) (y_move (c := .slice _ _ _) (by rfl)) ?_
    refine WS_det hF (by rfl) (y_assign (c := .slice _ _ _) (by rfl)) ?_
    refine WS_nil ?_
    refine Then_normal ?_
    refine W_ret ?_
    refine Fin_ret [.slice _ _ _] ((bo, _) :: HX) Tryd.results67 ⟨by rfl, trivial⟩ (HSub.sub sbA) ?_
    exact ⟨rs, bo, cap, junk, HX, rfl, rfl, hR.end hok (by rw [List.length_map]; omega), hrd, hcap⟩
end Go.Proofs.YtjekjehgmljbgaaDoor.T

/- Aims, and the fewest pourings for them: the program's walks. -/
namespace Go.Proofs.YtjekjehgmljbgaaDoor.T
open Go.RowKit Go.Proofs Go.Eng
set_option maxRecDepth 100000
set_option maxHeartbeats 1000000
set_option linter.unusedVariables false
set_option linter.unusedSimpArgs false



/-- A function value that tells of contents, in some world and all later ones. -/
structure AimW (P : Program) (w : World) (fid : FuncId) (first caps : List Value) (Q : Co → Prop) (p : Co → Bool) : Prop where
  enter : ∀ args w, (callFunc fid args).run P w = .ok (.enter fid args) w
  call : ∀ x, Q x → ∀ w', Below w.heap.size w w' → Ct P fid (first ++ (Value.agg x.cells.toArray :: caps)).toArray w' fun v _ => v = .bool (p x)
theorem AimW.st {C : Ctx} {H : List Blk} {fid : FuncId} {first caps : List Value} {Q : Co → Prop} {p : Co → Bool} (h : AimW C.P C.w0 fid first caps Q p) (w : World) (hw : St C H w) : AimW C.P w fid first caps Q p :=
  ⟨h.enter, fun x hx w' hb => h.call x hx w' (hw.1.trans (hb.mono hw.1.size))⟩
def idxF (x : Int) : List Int → Nat → Int
  | [], _ => -1
  | y :: l, k => if x = y then (k : Int) else idxF x l (k + 1)
theorem idxF_step {x : Int} {xs : List Int} {k : Nat} (h : k < xs.length) : idxF x (xs.drop k) k = if x = xs.getD k 0 then (k : Int) else idxF x (xs.drop (k + 1)) (k + 1) := by
  rw [List.drop_eq_getElem_cons h]; simp [idxF, h, List.getD_eq_getElem?_getD]
theorem idxF_mem {x : Int} : ∀ {l : List Int} {k : Nat}, 0 ≤ idxF x l k ↔ x ∈ l
  | [], k => by simp [idxF]
  | y :: l, k => by
    unfold idxF
    by_cases h : x = y
    · simp [h]
    · rw [if_neg h, idxF_mem]; simp [h]
theorem indexI_any (a : Option Addr) (n cap : Nat) (xs : List Int) (x : Int) (w : World) (hn : n ≤ 1000000) (hx : Ints w a n cap xs) : Ct Tryd.prog 133 #[.slice a n cap, .int .i64 x] w fun v _ => v = .int .i64 (idxF x xs 0) := by
  have hl := hx.len
  have hF := wide_wide
  refine Ct_start (args := [_, _]) Tryd.func133 (by rfl) Tryd.ntmps133 (by rfl) ?_
  refine W_seq ?_
  refine W_region_lit (fun ds => ?_)
  refine WS_det hF (by rfl) (y_assign (c := .int .i64 _) (by rfl)) ?_
  refine WS_nil ?_
  refine Then_normal ?_
  refine W_seq ?_
  refine W_seq ?_
  refine W_region_lit (fun ds => ?_)
  refine WS_det hF (by rfl) (y_move (c := .slice _ _ _) (by rfl)) ?_
  refine WS_det hF (by rfl) (y_len (by rfl) Tryd.runUnderlying22) ?_
  refine WS_det hF (by rfl) (y_move (c := .int .i64 _) (by rfl)) ?_
  refine WS_nil ?_
  refine Then_normal ?_
  refine W_block ?_
  refine W_loop (γ := Nat) (fun k => k ≤ n ∧ idxF x (xs.drop k) k = idxF x xs 0) (fun k => [(0, .slice a n cap), (1, .int .i64 x), (6, .slice a n cap), (7, .int .i64 (n : Int)), (8, .int .i64 (k : Int))]) (fun _ => _) (fun k => n - k) (0) ⟨Nat.zero_le _, by simp⟩ (by repeat (first | exact trivial | refine ⟨by rfl, ?_⟩)) (List.Sublist.refl _) ?_
  intro k e hk
  refine W_seq ?_
  refine W_region_lit (fun ds => ?_)
  refine WS_det hF (by rfl) (y_lss (by rfl) (by rfl)) ?_
  refine WS_nil ?_
  refine Then_normal ?_
  refine W_seq ?_
  refine W_cond (by rfl) (fun c2 => ?_) (fun c2 => ?_)
  ·
    try simp only [Bool.not_eq_true', Bool.not_eq_false', decide_eq_true_eq, decide_eq_false_iff_not, ne_eq, Classical.not_not, Int.not_lt, Int.not_le] at c2
    obtain ⟨b, o, rfl, hc⟩ := hx.cell k (by omega)
    have hst := idxF_step (x := x) (xs := xs) (k := k) (by omega)
    refine W_skip ?_
    refine Then_normal ?_
    refine W_seq ?_
    refine W_block ?_
    refine W_seq ?_
    refine W_region_lit (fun ds => ?_)
    refine WS_det hF (by rfl) (y_move (c := .int .i64 _) (by rfl)) ?_
    refine WS_det hF (by rfl) (y_assign (c := .int .i64 _) (by rfl)) ?_
    refine WS_nil ?_
    refine Then_normal ?_
    refine W_seq ?_
    refine W_region_lit (fun ds => ?_)
    refine WS_det hF (by rfl) (y_move (c := .int .i64 _) (by rfl)) ?_
    refine WS_det hF (by rfl) (y_move (c := .slice _ _ _) (by rfl)) ?_
    refine WS_det hF (by rfl) (y_move (c := .int .i64 _) (by rfl)) ?_
    refine WS_det hF (by rfl) (y_index (k := k) (by rfl) (by rfl) (by first | rfl | omega) (by first | decide | omega) Tryd.runUnderlying22 Tryd.sizeOf3) ?_
    refine WS_det hF (by rfl) (y_load1 (by rfl) Tryd.isAgg3 (by first | exact Mem.old1 (by assumption) | exact Mem.oldAt1 (by assumption) (by rfl) | exact Mem.old (by assumption) | exact Mem.oldAtL1 (by assumption) (by rfl) (by rfl))) ?_
    refine WS_det hF (by rfl) (y_eql (by rfl) (by rfl)) ?_
    refine WS_nil ?_
    refine Then_normal ?_
    refine W_cond (by rfl) (fun c4 => ?_) (fun c4 => ?_)
    ·
      try simp only [Bool.not_eq_true', Bool.not_eq_false', decide_eq_true_eq, decide_eq_false_iff_not, ne_eq, Classical.not_not, Int.not_lt, Int.not_le] at c4
      refine W_seq ?_
      refine W_region_lit (fun ds => ?_)
      refine WS_det hF (by rfl) (y_move (c := .int .i64 _) (by rfl)) ?_
      refine WS_det hF (by rfl) (y_assign (c := .int .i64 _) (by rfl)) ?_
      refine WS_nil ?_
      refine Then_normal ?_
      refine W_ret ?_
      refine InB_ret ?_
      refine Then_ret ?_
      refine Loop_ret ?_
      refine InB_ret ?_
      refine Then_ret ?_
      refine Fin_ret [.int .i64 _] [] Tryd.results133 ⟨by rfl, trivial⟩ HSub.nil ?_
      rw [← hk.2, idxF_step (by omega), if_pos c4]; rfl
    ·
      try simp only [Bool.not_eq_true', Bool.not_eq_false', decide_eq_true_eq, decide_eq_false_iff_not, ne_eq, Classical.not_not, Int.not_lt, Int.not_le] at c4
      refine W_skip ?_
      refine InB_normal ?_
      refine Then_normal ?_
      refine W_region_lit (fun ds => ?_)
      refine WS_det hF (by rfl) (y_add (by rfl) (by rfl) (by unfold I64; omega)) ?_
      refine WS_det hF (by rfl) (y_move (c := .int .i64 _) (by rfl)) ?_
      refine WS_nil ?_
      exact Loop_next (k + 1) ⟨by omega, by rw [← hk.2, hst, if_neg c4]⟩ (by repeat (first | exact trivial | refine ⟨by rfl, ?_⟩)) (by repeat (first | exact List.Sublist.refl _ | exact List.nil_sublist _ | apply List.Sublist.cons_cons | apply List.Sublist.cons)) (by omega)
  ·
    try simp only [Bool.not_eq_true', Bool.not_eq_false', decide_eq_true_eq, decide_eq_false_iff_not, ne_eq, Classical.not_not, Int.not_lt, Int.not_le] at c2
    refine W_exit ?_
    refine Then_exit ?_
    refine Loop_exit ?_
    refine InB_same ?_
    refine Then_normal ?_
    refine W_seq ?_
    refine W_region_lit (fun ds => ?_)
    refine WS_det hF (by rfl) (y_assign (c := .int .i64 _) (by rfl)) ?_
    refine WS_nil ?_
    refine Then_normal ?_
    refine W_ret ?_
    refine Fin_ret [.int .i64 _] [] Tryd.results133 ⟨by rfl, trivial⟩ HSub.nil ?_
    rw [← hk.2, List.drop_eq_nil_of_le (by omega)]; rfl
theorem containsI_any (a : Option Addr) (n cap : Nat) (xs : List Int) (x : Int) (w : World) (hn : n ≤ 1000000) (hx : Ints w a n cap xs) : Ct Tryd.prog 103 #[.slice a n cap, .int .i64 x] w fun v _ => v = .bool (decide (x ∈ xs)) := by
  have hF := wide_wide
  refine Ct_start (args := [_, _]) Tryd.func103 (by rfl) Tryd.ntmps103 (by rfl) ?_
  refine W_seq ?_
  refine W_region_lit (fun ds => ?_)
  refine WS_det hF (by rfl) (y_assign (c := .bool _) (by rfl)) ?_
  refine WS_nil ?_
  refine Then_normal ?_
  refine W_seq ?_
  refine W_region_lit (fun ds => ?_)
  refine WS_det hF (by rfl) (y_move (c := .slice _ _ _) (by rfl)) ?_
  refine WS_det hF (by rfl) (y_move (c := .int .i64 _) (by rfl)) ?_
  refine WS_det hF (by rfl) (y_callL (by rfl) (by rfl) Tryd.call133 (fun w hw => indexI_any a n cap xs x w hn (hx.st w hw))) ?_
  refine WS_det hF (by rfl) (y_geq (by rfl) (by rfl)) ?_
  refine WS_det hF (by rfl) (y_assign (c := .bool _) (by rfl)) ?_
  refine WS_nil ?_
  refine Then_normal ?_
  refine W_ret ?_
  refine Fin_ret [.bool _] [] Tryd.results103 ⟨by rfl, trivial⟩ HSub.nil ?_
  show Value.bool _ = _
  congr 1
  rw [Bool.eq_iff_iff]
  simp only [decide_eq_true_eq]
  exact idxF_mem
theorem some1_any (c : Cn) (a1 : Option Addr) (p1 : Nat) (a2 : Option Addr) (p2 : Nat) (x : Co) (n : Int) (bb bp : Nat) (w : World) (hok : c.Ok) (hb : At w bb 0 [.slice a1 c.n p1, .slice a2 c.inn.length p2, .int .i64 c.st]) (hp : At w bp 0 [.int .i64 n]) :
    Ct Tryd.prog 102 #[.agg x.cells.toArray, .pointer (some ⟨bb, 0, none⟩), .pointer (some ⟨bp, 0, none⟩)] w fun v _ => v = .bool (c.someP n x) := by
  have hn3 := hok.n3
  have hF := wide_wide
  refine Ct_start (args := [_, _, _]) Tryd.func102 (by rfl) Tryd.ntmps102 (by rfl) ?_
  refine W_seq ?_
  refine W_region_lit (fun ds => ?_)
  refine WS_new hF (by rfl) (y_box (by rfl)) (fun b1 => ?_)
  refine WS_det hF (by rfl) (y_assign (c := .bool _) (by rfl)) ?_
  refine WS_nil ?_
  refine Then_normal ?_
  refine W_seq ?_
  refine W_draw0 hF Trydmixed [] (by decide +kernel) (fun ds => ?_)
  refine P_det (by rfl) (Over_nil (y_fieldAddr (by rfl) fa96_0)) ?_
  refine P_det (by rfl) (Over_nil (y_fieldAddr (by rfl) fa24_0)) ?_
  refine P_det (by rfl) (Over_nil (y_load1 (by rfl) Tryd.isAgg22 (by first | exact Mem.old1 (by assumption) | exact Mem.oldAt1 (by assumption) (by rfl) | exact Mem.old (by assumption) | exact Mem.oldAtL1 (by assumption) (by rfl) (by rfl)))) ?_
  refine P_det (by rfl) (Over_nil (y_len (by rfl) Tryd.runUnderlying22)) ?_
  refine P_det (by rfl) (Over_nil (y_add (by rfl) (by rfl) (by unfold I64; omega))) ?_
  refine P_det (by rfl) (Over_nil (YD_eq (y_sliceA_lohi (l := 1) (h := c.n + 1) (m := 4) (by rfl) (by rfl) (by rfl) (by rfl) (by omega) (by decide) (by omega) (by omega) Tryd.runUnderlying99 Tryd.sizeOf3) (show Value.slice (some ⟨b1, 1, none⟩) (c.n + 1 - 1) 3 = .slice (some ⟨b1, 1, none⟩) c.n 3 by rw [Nat.add_sub_cancel]))) ?_
  refine P_det (by rfl) (Over_nil (y_load1 (by rfl) Tryd.isAgg3 (by first | exact Mem.old1 (by assumption) | exact Mem.oldAt1 (by assumption) (by rfl) | exact Mem.old (by assumption) | exact Mem.oldAtL1 (by assumption) (by rfl) (by rfl)))) ?_
  refine P_det (by rfl) (Over_nil (y_callL (by rfl) (by rfl) Tryd.call103 (fun w hw => containsI_any (some ⟨b1, 1, none⟩) c.n 3 (c.of x).inn n w (by omega) (ints_of c x hn3 0 (by rfl) w hw)))) ?_
  refine P_det (by rfl) (Over_nil (y_assign (c := .bool _) (by rfl))) ?_
  refine PW_end (by rfl) ?_
  refine OverAll_nil ?_
  rintro -
  refine Then_normal ?_
  refine W_ret ?_
  refine Fin_ret [.bool _] [] Tryd.results102 ⟨by rfl, trivial⟩ HSub.nil ?_
  rfl
theorem some_any (c : Cn) (a1 : Option Addr) (p1 : Nat) (a2 : Option Addr) (p2 : Nat) (n : Int) (w : World) : Ct Tryd.prog 60 #[.agg #[.slice a1 c.n p1, .slice a2 c.inn.length p2, .int .i64 c.st], .int .i64 n] w fun v Hn => ∃ bb bp, v = .func (.func 102) #[] #[.pointer (some ⟨bb, 0, none⟩), .pointer (some ⟨bp, 0, none⟩)] ∧ Hn = [(bp, CB [.int .i64 n] 3), (bb, CB [.slice a1 c.n p1, .slice a2 c.inn.length p2, .int .i64 c.st] 96)] := by
  have hF := wide_wide
  refine Ct_start (args := [_, _]) Tryd.func60 (by rfl) Tryd.ntmps60 (by rfl) ?_
  refine W_seq ?_
  refine W_region_lit (fun ds => ?_)
  refine WS_new hF (by rfl) (y_box (by rfl)) (fun b1 => ?_)
  refine WS_new hF (by rfl) (y_box (by rfl)) (fun b2 => ?_)
  refine WS_det hF (by rfl) (y_assign (c := _) (by rfl)) ?_
  refine WS_nil ?_
  refine Then_normal ?_
  refine W_seq ?_
  refine W_region_lit (fun ds => ?_)
  refine WS_det hF (by rfl) (y_makeFuncL (by rfl) (by rfl)) ?_
  refine WS_det hF (by rfl) (y_assign (c := _) (by rfl)) ?_
  refine WS_nil ?_
  refine Then_normal ?_
  refine W_ret ?_
  refine Fin_ret [_] [(b2, _), (b1, _)] Tryd.results60 ⟨by rfl, trivial⟩ (HSub.sub (by repeat (first | exact List.nil_sublist _ | apply List.Sublist.cons_cons | apply List.Sublist.cons))) ?_
  exact ⟨_, _, rfl, rfl⟩
/-- What is answered, by the error of what is asked. -/
def AskA (e : Int) (o : Option Wy) (v : Value) (Hn : List Blk) : Prop := ∃ v0, v = .tuple #[v0, .int .i64 (if e = 0 then fewB o else 0), .int .i64 (if e = 0 then fewE o else e)] ∧ TwinP (if e = 0 then fewL o else []) v0 Hn
theorem AskA.err {e e' : Int} {o : Option Wy} {Hn : List Blk} (h : e = e') (h0 : e' ≠ 0) : AskA e o (.tuple #[.slice none 0 0, .int .i64 0, .int .i64 e']) Hn := by
  subst h
  refine ⟨_, by rw [if_neg h0, if_neg h0], ?_⟩
  rw [if_neg h0]
  exact TwinP.nil _
theorem AskA.ok {e : Int} {o : Option Wy} {v0 : Value} {Hn : List Blk} (h : e = 0) (hT : TwinP (fewL o) v0 Hn) : AskA e o (.tuple #[v0, .int .i64 (fewB o), .int .i64 (fewE o)]) Hn := by
  subst h
  exact ⟨_, rfl, hT⟩
def Cn.lsE (c : Cn) (n : Int) : Int := if c.okB then if inB 0 20 [n] then 0 else 2 else 80
def Cn.ttE (c : Cn) (n : Int) : Int := if c.okB then if inB 0 (sumL c.sz) [n] then 0 else 2 else 80
def Cn.wantB (c : Cn) (want : List Int) : Bool := decide (want.length = c.n) && (List.range want.length).all fun k => inB (-1) (c.s k) [want.getD k 0]
def Cn.boE (c : Cn) (want : List Int) : Int := if c.okB then if c.wantB want then 0 else 2 else 80
end Go.Proofs.YtjekjehgmljbgaaDoor.T

/- The fewest pourings for all cans together, and for each one: the program's walks. -/
namespace Go.Proofs.YtjekjehgmljbgaaDoor.T
open Go.RowKit Go.Proofs Go.Eng
set_option maxRecDepth 100000
set_option maxHeartbeats 1000000
set_option linter.unusedVariables false
set_option linter.unusedSimpArgs false



theorem sumTo_bd {xs : List Int} (h : ∀ k, k < xs.length → 0 ≤ xs.getD k 0 ∧ xs.getD k 0 ≤ 600) : ∀ k, k ≤ xs.length → 0 ≤ sumTo xs k ∧ sumTo xs k ≤ 600 * (k : Int)
  | 0, _ => by unfold sumTo; simp [sumL]
  | k + 1, hk => by
    have ih := sumTo_bd h k (by omega)
    have hx := h k (by omega)
    rw [sumTo_succ (by omega)]
    omega
theorem sumTo_all (xs : List Int) : sumTo xs xs.length = sumL xs := by unfold sumTo; rw [List.take_length]
end Go.Proofs.YtjekjehgmljbgaaDoor.T

/- What is wanted, and the fewest pourings for it: the reference's walks. -/
namespace Go.Proofs.YtjekjehgmljbgaaDoor.T
open Go.RowKit Go.Proofs Go.Eng
set_option maxRecDepth 100000
set_option maxHeartbeats 1000000
set_option linter.unusedVariables false
set_option linter.unusedSimpArgs false

theorem fa134_0 : ∀ b o w, (Instr.fieldAt 134 (.pointer (some ⟨b, o, none⟩)) 0).run Tryd.prog w = .ok (.pointer (some ⟨b, o + 0, none⟩)) w := fun b o w => by kernel_rfl
theorem fa134_1 : ∀ b o w, (Instr.fieldAt 134 (.pointer (some ⟨b, o, none⟩)) 1).run Tryd.prog w = .ok (.pointer (some ⟨b, o + 1, none⟩)) w := fun b o w => by kernel_rfl
theorem fa134_2 : ∀ b o w, (Instr.fieldAt 134 (.pointer (some ⟨b, o, none⟩)) 2).run Tryd.prog w = .ok (.pointer (some ⟨b, o + 2, none⟩)) w := fun b o w => by kernel_rfl

structure Am where
  some : Int
  total : Int
  each : List Int
def Am.p (c : Cn) (a : Am) (x : Co) : Bool := if 0 ≤ a.total then totP a.total x else if 0 ≤ a.some then c.someP a.some x else c.bothP a.each x
def sumA (s : Int) (xs : List Int) : Nat → Int
  | 0 => s
  | k + 1 => sumA s xs k + xs.getD k 0
theorem sumA_eq (s : Int) (xs : List Int) : ∀ k, k ≤ xs.length → sumA s xs k = s + sumTo xs k
  | 0, _ => by show s = s + sumTo xs 0; rw [show sumTo xs 0 = 0 from rfl, Int.add_zero]
  | k + 1, h => by
    rw [sumTo_succ (by omega)]
    unfold sumA
    rw [sumA_eq s xs k (by omega)]
    omega
theorem rcsum_any (c : Cn) (a1 : Option Addr) (p1 : Nat) (a2 : Option Addr) (p2 : Nat) (w : World) (hl : c.inn.length ≤ 1000) (hs : 0 ≤ c.st ∧ c.st ≤ 600) (hbd : ∀ k, k < c.inn.length → 0 ≤ c.inn.getD k 0 ∧ c.inn.getD k 0 ≤ 600) (h2 : Ints w a2 c.inn.length p2 c.inn) : Ct Tryd.prog 90 #[.agg #[.slice a1 c.n p1, .slice a2 c.inn.length p2, .int .i64 c.st]] w fun v _ => v = .int .i64 (c.st + sumL c.inn) := by
  have hF := wide_wide
  refine Ct_start (args := [_]) Tryd.func90 (by rfl) Tryd.ntmps90 (by rfl) ?_
  refine W_seq ?_
  refine W_region_lit (fun ds => ?_)
  refine WS_new hF (by rfl) (y_box (by rfl)) (fun b1 => ?_)
  refine WS_det hF (by rfl) (y_assign (c := .int .i64 _) (by rfl)) ?_
  refine WS_nil ?_
  refine Then_normal ?_
  refine W_seq ?_
  refine W_region_lit (fun ds => ?_)
  refine WS_det hF (by rfl) (y_fieldAddr (by rfl) fa24_2) ?_
  refine WS_det hF (by rfl) (y_load1 (by rfl) Tryd.isAgg3 (Mem.own1 0 (by rfl) (by rfl))) ?_
  refine WS_det hF (by rfl) (y_assign (c := .int .i64 _) (by rfl)) ?_
  refine WS_nil ?_
  refine Then_normal ?_
  refine W_seq ?_
  refine W_seq ?_
  refine W_region_lit (fun ds => ?_)
  refine WS_det hF (by rfl) (y_fieldAddr (by rfl) fa24_1) ?_
  refine WS_det hF (by rfl) (y_load1 (by rfl) Tryd.isAgg22 (Mem.own1 0 (by rfl) (by rfl))) ?_
  refine WS_det hF (by rfl) (y_len (by rfl) Tryd.runUnderlying22) ?_
  refine WS_det hF (by rfl) (y_move (c := .int .i64 _) (by rfl)) ?_
  refine WS_nil ?_
  refine Then_normal ?_
  refine W_block ?_
  refine W_loop (γ := Nat) (fun k => k ≤ c.inn.length) (fun k => [(3, .int .i64 (sumA c.st c.inn k)), (9, .slice a2 c.inn.length p2), (10, .int .i64 (c.inn.length : Int)), (11, .int .i64 (k : Int))]) (fun _ => _) (fun k => c.inn.length - k) (0) (Nat.zero_le _) (by repeat (first | exact trivial | refine ⟨by rfl, ?_⟩)) (List.Sublist.refl _) ?_
  intro k e hk
  refine W_seq ?_
  refine W_region_lit (fun ds => ?_)
  refine WS_det hF (by rfl) (y_lss (by rfl) (by rfl)) ?_
  refine WS_nil ?_
  refine Then_normal ?_
  refine W_seq ?_
  refine W_cond (by rfl) (fun c3 => ?_) (fun c3 => ?_)
  ·
    try simp only [Bool.not_eq_true', Bool.not_eq_false', decide_eq_true_eq, decide_eq_false_iff_not, ne_eq, Classical.not_not, Int.not_lt, Int.not_le] at c3
    obtain ⟨b, o, rfl, hc⟩ := h2.cell k (by omega)
    have hb := sumTo_bd hbd k hk
    have hx' := hbd k (by omega)
    have hse := sumA_eq c.st c.inn k hk
    refine W_skip ?_
    refine Then_normal ?_
    refine W_seq ?_
    refine W_block ?_
    refine W_seq ?_
    refine W_region_lit (fun ds => ?_)
    refine WS_det hF (by rfl) (y_index (k := k) (by rfl) (by rfl) (by first | rfl | omega) (by first | decide | omega) Tryd.runUnderlying22 Tryd.sizeOf3) ?_
    refine WS_det hF (by rfl) (y_load1 (by rfl) Tryd.isAgg3 (by first | exact Mem.old1 (by assumption) | exact Mem.oldAt1 (by assumption) (by rfl) | exact Mem.old (by assumption) | exact Mem.oldAtL1 (by assumption) (by rfl) (by rfl))) ?_
    refine WS_det hF (by rfl) (y_assign (c := .int .i64 _) (by rfl)) ?_
    refine WS_nil ?_
    refine Then_normal ?_
    refine W_region_lit (fun ds => ?_)
    refine WS_det hF (by rfl) (y_move (c := .int .i64 _) (by rfl)) ?_
    refine WS_det hF (by rfl) (y_move (c := .int .i64 _) (by rfl)) ?_
    refine WS_det hF (by rfl) (y_add (by rfl) (by rfl) (by unfold I64; omega)) ?_
    refine WS_det hF (by rfl) (y_assign (c := .int .i64 _) (by rfl)) ?_
    refine WS_nil ?_
    refine InB_normal ?_
    refine Then_normal ?_
    refine W_region_lit (fun ds => ?_)
    refine WS_det hF (by rfl) (y_add (by rfl) (by rfl) (by unfold I64; omega)) ?_
    refine WS_det hF (by rfl) (y_move (c := .int .i64 _) (by rfl)) ?_
    refine WS_nil ?_
    exact Loop_next (k + 1) (by omega) (by repeat (first | exact trivial | refine ⟨by rfl, ?_⟩)) (by repeat (first | exact List.Sublist.refl _ | exact List.nil_sublist _ | apply List.Sublist.cons_cons | apply List.Sublist.cons)) (by omega)
  ·
    try simp only [Bool.not_eq_true', Bool.not_eq_false', decide_eq_true_eq, decide_eq_false_iff_not, ne_eq, Classical.not_not, Int.not_lt, Int.not_le] at c3
    refine W_exit ?_
    refine Then_exit ?_
    refine Loop_exit ?_
    refine InB_same ?_
    refine Then_normal ?_
    refine W_seq ?_
    refine W_region_lit (fun ds => ?_)
    refine WS_det hF (by rfl) (y_move (c := .int .i64 _) (by rfl)) ?_
    refine WS_det hF (by rfl) (y_assign (c := .int .i64 _) (by rfl)) ?_
    refine WS_nil ?_
    refine Then_normal ?_
    refine W_ret ?_
    refine Fin_ret [.int .i64 _] [] Tryd.results90 ⟨by rfl, trivial⟩ HSub.nil ?_
    have : k = c.inn.length := by omega
    subst this
    rw [← sumTo_all, ← sumA_eq c.st c.inn _ (Nat.le_refl _)]
    rfl
theorem Cn.Ok.inn_bd {c : Cn} (h : c.Ok) : c.inn.length ≤ 1000 ∧ ∀ k, k < c.inn.length → 0 ≤ c.inn.getD k 0 ∧ c.inn.getD k 0 ≤ 600 := by
  have h3 := h.n3
  have hl := h.len
  refine ⟨by omega, fun k hk => ?_⟩
  have h1 := h.i k (by omega)
  have h2 := h.s k (by omega)
  unfold Cn.i at h1
  omega
theorem ris_any (c : Cn) (x : Co) (s : Option Addr) (ks : Nat) (i : Option Addr) (ki : Nat) (am : Am) (ea : Option Addr) (ecap : Nat) (w : World) (hok : c.Ok) (hin : c.In x) (hI : Ints w i (c.of x).inn.length ki (c.of x).inn) (hE : Ints w ea am.each.length ecap am.each) (hen : am.each.length ≤ 1000000) (hel : am.total < 0 → am.some < 0 → am.each.length = c.n) :
    Ct Tryd.prog 106 #[.agg #[.slice s c.n ks, .slice i (c.of x).inn.length ki, .int .i64 x.a], .agg #[.int .i64 am.some, .int .i64 am.total, .slice ea am.each.length ecap]] w fun v _ => v = .bool (am.p c x) := by
  have hokx := hok.of hin
  have hn3 := hok.n3
  have hlx : (c.of x).inn.length = c.n := hokx.len
  have hbx := hokx.inn_bd
  have hst : 0 ≤ x.a ∧ x.a ≤ 600 := ⟨hin.lo 0 (by decide), hin.hi 0 (Nat.zero_le _)⟩
  have hsb : 0 ≤ sumL (c.of x).inn ∧ sumL (c.of x).inn ≤ 600 * ((c.of x).inn.length : Int) := by rw [← sumTo_all]; exact sumTo_bd hbx.2 _ (Nat.le_refl _)
  have hF := wide_wide
  refine Ct_start (args := [_, _]) Tryd.func106 (by rfl) Tryd.ntmps106 (by rfl) ?_
  refine W_seq ?_
  refine W_region_lit (fun ds => ?_)
  refine WS_new hF (by rfl) (y_box (by rfl)) (fun b1 => ?_)
  refine WS_new hF (by rfl) (y_box (by rfl)) (fun b2 => ?_)
  refine WS_det hF (by rfl) (y_assign (c := .bool _) (by rfl)) ?_
  refine WS_nil ?_
  refine Then_normal ?_
  refine W_seq ?_
  refine W_seq ?_
  refine W_region_lit (fun ds => ?_)
  refine WS_det hF (by rfl) (y_fieldAddr (by rfl) fa134_1) ?_
  refine WS_det hF (by rfl) (y_load1 (by rfl) Tryd.isAgg3 (Mem.own1 0 (by rfl) (by rfl))) ?_
  refine WS_det hF (by rfl) (y_geq (by rfl) (by rfl)) ?_
  refine WS_nil ?_
  refine Then_normal ?_
  refine W_cond (by rfl) (fun c1 => ?_) (fun c1 => ?_)
  ·
    try simp only [Bool.not_eq_true', Bool.not_eq_false', decide_eq_true_eq, decide_eq_false_iff_not, ne_eq, Classical.not_not, Int.not_lt, Int.not_le] at c1
    refine W_seq ?_
    refine W_draw0 hF Trydmixed [] (by decide +kernel) (fun ds => ?_)
    refine P_det (by rfl) (Over_nil (y_loadN (by rfl) Tryd.isAgg24 Tryd.sizeOf24 (Mem.own (us := [.slice _ _ _, .slice _ _ _, .int .i64 _]) 1 (by rfl) (by rfl)) (by rfl))) ?_
    refine P_det (by rfl) (Over_nil (y_callL (by rfl) (by rfl) Tryd.call90 (fun w hw => rcsum_any (c.of x) s ks i ki w hbx.1 hst hbx.2 (hI.st w hw)))) ?_
    refine P_det (by rfl) (Over_nil (y_fieldAddr (by rfl) fa24_2)) ?_
    refine P_det (by rfl) (Over_nil (y_load1 (by rfl) Tryd.isAgg3 (Mem.own1 1 (by rfl) (by rfl)))) ?_
    refine P_det (by rfl) (Over_nil (y_sub (by rfl) (by rfl) (by show I64 (x.a + sumL (c.of x).inn - x.a); unfold I64; omega))) ?_
    refine P_det (by rfl) (Over_nil (y_fieldAddr (by rfl) fa134_1)) ?_
    refine P_det (by rfl) (Over_nil (y_load1 (by rfl) Tryd.isAgg3 (Mem.own1 0 (by rfl) (by rfl)))) ?_
    refine P_det (by rfl) (Over_nil (y_eql (by rfl) (by rfl))) ?_
    refine P_det (by rfl) (Over_nil (y_assign (c := .bool _) (by rfl))) ?_
    refine PW_end (by rfl) ?_
    refine OverAll_nil ?_
    rintro -
    refine Then_normal ?_
    refine W_ret ?_
    refine Then_ret ?_
    refine Fin_ret [.bool _] [] Tryd.results106 ⟨by rfl, trivial⟩ HSub.nil ?_
    show Value.bool _ = .bool (am.p c x)
    congr 1
    unfold Am.p totP
    rw [if_pos (show 0 ≤ am.total by omega), ← Cn.sum_of hok hin]
    rw [Bool.eq_iff_iff]
    constructor
    · intro h
      have : x.a + sumL (c.of x).inn - x.a = am.total := of_decide_eq_true h
      exact decide_eq_true (by omega)
    · intro h
      have := of_decide_eq_true h
      exact decide_eq_true (show x.a + sumL (c.of x).inn - x.a = am.total by omega)
  ·
    try simp only [Bool.not_eq_true', Bool.not_eq_false', decide_eq_true_eq, decide_eq_false_iff_not, ne_eq, Classical.not_not, Int.not_lt, Int.not_le] at c1
    have hp1 : am.p c x = if 0 ≤ am.some then c.someP am.some x else c.bothP am.each x := if_neg (by omega)
    refine W_skip ?_
    refine Then_normal ?_
    refine W_seq ?_
    refine W_seq ?_
    refine W_region_lit (fun ds => ?_)
    refine WS_det hF (by rfl) (y_fieldAddr (by rfl) fa134_0) ?_
    refine WS_det hF (by rfl) (y_load1 (by rfl) Tryd.isAgg3 (Mem.own1 0 (by rfl) (by rfl))) ?_
    refine WS_det hF (by rfl) (y_geq (by rfl) (by rfl)) ?_
    refine WS_nil ?_
    refine Then_normal ?_
    refine W_cond (by rfl) (fun c3 => ?_) (fun c3 => ?_)
    ·
      try simp only [Bool.not_eq_true', Bool.not_eq_false', decide_eq_true_eq, decide_eq_false_iff_not, ne_eq, Classical.not_not, Int.not_lt, Int.not_le] at c3
      have hp2 : am.p c x = c.someP am.some x := hp1.trans (if_pos (by omega))
      refine W_seq ?_
      refine W_seq ?_
      refine W_region_lit (fun ds => ?_)
      refine WS_det hF (by rfl) (y_fieldAddr (by rfl) fa24_1) ?_
      refine WS_det hF (by rfl) (y_load1 (by rfl) Tryd.isAgg22 (Mem.own1 1 (by rfl) (by rfl))) ?_
      refine WS_det hF (by rfl) (y_len (by rfl) Tryd.runUnderlying22) ?_
      refine WS_det hF (by rfl) (y_move (c := .int .i64 _) (by rfl)) ?_
      refine WS_nil ?_
      refine Then_normal ?_
      refine W_block ?_
      refine W_loop (γ := Nat) (fun k => k ≤ (c.of x).inn.length ∧ ∀ j, j < k → (c.of x).inn.getD j 0 ≠ am.some) (fun k => [(3, .pointer (some ⟨b2, 0, none⟩)), (23, .slice i (c.of x).inn.length ki), (24, .int .i64 ((c.of x).inn.length : Int)), (25, .int .i64 (k : Int))]) (fun _ => _) (fun k => (c.of x).inn.length - k) (0) ⟨Nat.zero_le _, fun j h => absurd h (Nat.not_lt_zero _)⟩ (by repeat (first | exact trivial | refine ⟨by rfl, ?_⟩)) (List.Sublist.refl _) ?_
      rintro k e ⟨hk, hj⟩
      refine W_seq ?_
      refine W_region_lit (fun ds => ?_)
      refine WS_det hF (by rfl) (y_lss (by rfl) (by rfl)) ?_
      refine WS_nil ?_
      refine Then_normal ?_
      refine W_seq ?_
      refine W_cond (by rfl) (fun c5 => ?_) (fun c5 => ?_)
      ·
        try simp only [Bool.not_eq_true', Bool.not_eq_false', decide_eq_true_eq, decide_eq_false_iff_not, ne_eq, Classical.not_not, Int.not_lt, Int.not_le] at c5
        obtain ⟨b, o, rfl, hc⟩ := hI.cell k (by omega)
        refine W_skip ?_
        refine Then_normal ?_
        refine W_seq ?_
        refine W_block ?_
        refine W_seq ?_
        refine W_region_lit (fun ds => ?_)
        refine WS_det hF (by rfl) (y_index (k := k) (by rfl) (by rfl) (by first | rfl | omega) (by first | decide | omega) Tryd.runUnderlying22 Tryd.sizeOf3) ?_
        refine WS_det hF (by rfl) (y_load1 (by rfl) Tryd.isAgg3 (by first | exact Mem.old1 (by assumption) | exact Mem.oldAt1 (by assumption) (by rfl) | exact Mem.old (by assumption) | exact Mem.oldAtL1 (by assumption) (by rfl) (by rfl))) ?_
        refine WS_det hF (by rfl) (y_assign (c := .int .i64 _) (by rfl)) ?_
        refine WS_nil ?_
        refine Then_normal ?_
        refine W_seq ?_
        refine W_region_lit (fun ds => ?_)
        refine WS_det hF (by rfl) (y_move (c := .int .i64 _) (by rfl)) ?_
        refine WS_det hF (by rfl) (y_fieldAddr (by rfl) fa134_0) ?_
        refine WS_det hF (by rfl) (y_load1 (by rfl) Tryd.isAgg3 (Mem.own1 0 (by rfl) (by rfl))) ?_
        refine WS_det hF (by rfl) (y_eql (by rfl) (by rfl)) ?_
        refine WS_nil ?_
        refine Then_normal ?_
        refine W_cond (by rfl) (fun c7 => ?_) (fun c7 => ?_)
        ·
          try simp only [Bool.not_eq_true', Bool.not_eq_false', decide_eq_true_eq, decide_eq_false_iff_not, ne_eq, Classical.not_not, Int.not_lt, Int.not_le] at c7
          refine W_seq ?_
          refine W_region_lit (fun ds => ?_)
          refine WS_det hF (by rfl) (y_assign (c := .bool _) (by rfl)) ?_
          refine WS_nil ?_
          refine Then_normal ?_
          refine W_ret ?_
          refine InB_ret ?_
          refine Then_ret ?_
          refine Loop_ret ?_
          refine InB_ret ?_
          refine Then_ret ?_
          refine Then_ret ?_
          refine Fin_ret [.bool _] [] Tryd.results106 ⟨by rfl, trivial⟩ HSub.nil ?_
          rw [hp2]
          show Value.bool _ = _
          congr 1
          symm
          refine decide_eq_true ?_
          rw [← c7, List.getD_eq_getElem?_getD, List.getElem?_eq_getElem (show k < (c.of x).inn.length by omega)]
          exact List.getElem_mem _
        ·
          try simp only [Bool.not_eq_true', Bool.not_eq_false', decide_eq_true_eq, decide_eq_false_iff_not, ne_eq, Classical.not_not, Int.not_lt, Int.not_le] at c7
          refine W_skip ?_
          refine InB_normal ?_
          refine Then_normal ?_
          refine W_region_lit (fun ds => ?_)
          refine WS_det hF (by rfl) (y_add (by rfl) (by rfl) (by unfold I64; omega)) ?_
          refine WS_det hF (by rfl) (y_move (c := .int .i64 _) (by rfl)) ?_
          refine WS_nil ?_
          exact Loop_next (k + 1) ⟨by omega, fun j h => by by_cases hjk : j = k; (subst hjk; exact c7); exact hj j (by omega)⟩ (by repeat (first | exact trivial | refine ⟨by rfl, ?_⟩)) (by repeat (first | exact List.Sublist.refl _ | exact List.nil_sublist _ | apply List.Sublist.cons_cons | apply List.Sublist.cons)) (by omega)
      ·
        try simp only [Bool.not_eq_true', Bool.not_eq_false', decide_eq_true_eq, decide_eq_false_iff_not, ne_eq, Classical.not_not, Int.not_lt, Int.not_le] at c5
        refine W_exit ?_
        refine Then_exit ?_
        refine Loop_exit ?_
        refine InB_same ?_
        refine Then_normal ?_
        refine W_seq ?_
        refine W_region_lit (fun ds => ?_)
        refine WS_det hF (by rfl) (y_assign (c := .bool _) (by rfl)) ?_
        refine WS_nil ?_
        refine Then_normal ?_
        refine W_ret ?_
        refine Then_ret ?_
        refine Fin_ret [.bool _] [] Tryd.results106 ⟨by rfl, trivial⟩ HSub.nil ?_
        rw [hp2]
        show Value.bool _ = _
        congr 1
        symm
        refine decide_eq_false fun hm => ?_
        obtain ⟨j, hjl, hje⟩ := List.getElem_of_mem hm
        exact hj j (by omega) (by rw [List.getD_eq_getElem?_getD, List.getElem?_eq_getElem hjl]; exact hje)
    ·
      try simp only [Bool.not_eq_true', Bool.not_eq_false', decide_eq_true_eq, decide_eq_false_iff_not, ne_eq, Classical.not_not, Int.not_lt, Int.not_le] at c3
      have hp2 : am.p c x = c.bothP am.each x := hp1.trans (if_neg (by omega))
      have hle := hel (by omega) (by omega)
      refine W_skip ?_
      refine Then_normal ?_
      refine W_seq ?_
      refine W_seq ?_
      refine W_region_lit (fun ds => ?_)
      refine WS_det hF (by rfl) (y_assign (c := .int .i64 _) (by rfl)) ?_
      refine WS_nil ?_
      refine Then_normal ?_
      refine W_block ?_
      refine W_loop (γ := Nat) (fun k => k ≤ am.each.length ∧ ∀ j, j < k → am.each.getD j 0 < 0 ∨ (c.of x).i j = am.each.getD j 0) (fun k => [(2, .pointer (some ⟨b1, 0, none⟩)), (3, .pointer (some ⟨b2, 0, none⟩)), (7, .int .i64 (k : Int))]) (fun _ => _) (fun k => am.each.length - k) (0) ⟨Nat.zero_le _, fun j h => absurd h (Nat.not_lt_zero _)⟩ (by repeat (first | exact trivial | refine ⟨by rfl, ?_⟩)) (List.Sublist.refl _) ?_
      rintro k e ⟨hk, hj⟩
      refine W_seq ?_
      refine W_seq ?_
      refine W_region_lit (fun ds => ?_)
      refine WS_det hF (by rfl) (y_move (c := .int .i64 _) (by rfl)) ?_
      refine WS_det hF (by rfl) (y_fieldAddr (by rfl) fa134_2) ?_
      refine WS_det hF (by rfl) (y_load1 (by rfl) Tryd.isAgg22 (Mem.own1 0 (by rfl) (by rfl))) ?_
      refine WS_det hF (by rfl) (y_len (by rfl) Tryd.runUnderlying22) ?_
      refine WS_det hF (by rfl) (y_lss (by rfl) (by rfl)) ?_
      refine WS_nil ?_
      refine Then_normal ?_
      refine W_cond (by rfl) (fun c12 => ?_) (fun c12 => ?_)
      ·
        try simp only [Bool.not_eq_true', Bool.not_eq_false', decide_eq_true_eq, decide_eq_false_iff_not, ne_eq, Classical.not_not, Int.not_lt, Int.not_le] at c12
        obtain ⟨b, o, rfl, hc⟩ := hE.cell k (by omega)
        obtain ⟨b', o', rfl, hc'⟩ := hI.cell k (by omega)
        change At w b' _ [.int .i64 ((c.of x).i k)] at hc'
        refine W_skip ?_
        refine Then_normal ?_
        refine W_seq ?_
        refine W_block ?_
        refine W_seq ?_
        refine W_draw0 hF Trydmixed [] (by decide +kernel) (fun ds => ?_)
        refine P_det (by rfl) (Over_nil (y_fieldAddr (by rfl) fa134_2)) ?_
        refine P_det (by rfl) (Over_nil (y_load1 (by rfl) Tryd.isAgg22 (Mem.own1 0 (by rfl) (by rfl)))) ?_
        refine P_det (by rfl) (Over_nil (y_move (c := .int .i64 _) (by rfl))) ?_
        refine P_det (by rfl) (Over_nil (y_index (k := k) (by rfl) (by rfl) (by first | rfl | omega) (by first | decide | omega) Tryd.runUnderlying22 Tryd.sizeOf3)) ?_
        refine P_det (by rfl) (Over_nil (y_load1 (by rfl) Tryd.isAgg3 (by first | exact Mem.old1 (by assumption) | exact Mem.oldAt1 (by assumption) (by rfl) | exact Mem.old (by assumption) | exact Mem.oldAtL1 (by assumption) (by rfl) (by rfl)))) ?_
        refine P_det (by rfl) (Over_nil (y_geq (by rfl) (by rfl))) ?_
        refine P_det (by rfl) (Over_nil (y_move (c := .bool _) (by rfl))) ?_
        refine P_split 47 (by rfl) (fun g14_6 => ?_) (fun g14_6 => ?_)
        ·
          try simp only [Bool.not_eq_true', Bool.not_eq_false', decide_eq_true_eq, decide_eq_false_iff_not, ne_eq, Classical.not_not, Int.not_lt, Int.not_le] at g14_6
          refine P_det (by rfl) (Over_nil (y_fieldAddr (by rfl) fa24_1)) ?_
          refine P_det (by rfl) (Over_nil (y_load1 (by rfl) Tryd.isAgg22 (Mem.own1 1 (by rfl) (by rfl)))) ?_
          refine P_det (by rfl) (Over_nil (y_move (c := .int .i64 _) (by rfl))) ?_
          refine P_det (by rfl) (Over_nil (y_index (k := k) (by rfl) (by rfl) (by first | rfl | omega) (by first | decide | omega) Tryd.runUnderlying22 Tryd.sizeOf3)) ?_
          refine P_det (by rfl) (Over_nil (y_load1 (by rfl) Tryd.isAgg3 (by first | exact Mem.old1 (by assumption) | exact Mem.oldAt1 (by assumption) (by rfl) | exact Mem.old (by assumption) | exact Mem.oldAtL1 (by assumption) (by rfl) (by rfl)))) ?_
          refine P_det (by rfl) (Over_nil (y_fieldAddr (by rfl) fa134_2)) ?_
          refine P_det (by rfl) (Over_nil (y_load1 (by rfl) Tryd.isAgg22 (Mem.own1 0 (by rfl) (by rfl)))) ?_
          refine P_det (by rfl) (Over_nil (y_move (c := .int .i64 _) (by rfl))) ?_
          refine P_det (by rfl) (Over_nil (y_index (k := k) (by rfl) (by rfl) (by first | rfl | omega) (by first | decide | omega) Tryd.runUnderlying22 Tryd.sizeOf3)) ?_
          refine P_det (by rfl) (Over_nil (y_load1 (by rfl) Tryd.isAgg3 (by first | exact Mem.old1 (by assumption) | exact Mem.oldAt1 (by assumption) (by rfl) | exact Mem.old (by assumption) | exact Mem.oldAtL1 (by assumption) (by rfl) (by rfl)))) ?_
          refine P_det (by rfl) (Over_nil (y_neq (by rfl) (by rfl))) ?_
          refine P_det (by rfl) (Over_nil (by first | exact y_pick_t (c := .bool _) (by rfl) (by rfl) | exact y_pick_f (c := .bool _) (by rfl) (by rfl))) ?_
          refine PW_end (by rfl) ?_
          refine OverAll_nil ?_
          rintro -
          refine Then_normal ?_
          refine W_cond (by rfl) (fun c14 => ?_) (fun c14 => ?_)
          ·
            try simp only [Bool.not_eq_true', Bool.not_eq_false', decide_eq_true_eq, decide_eq_false_iff_not, ne_eq, Classical.not_not, Int.not_lt, Int.not_le] at c14
            refine W_seq ?_
            refine W_region_lit (fun ds => ?_)
            refine WS_det hF (by rfl) (y_assign (c := .bool _) (by rfl)) ?_
            refine WS_nil ?_
            refine Then_normal ?_
            refine W_ret ?_
            refine InB_ret ?_
            refine Then_ret ?_
            refine Loop_ret ?_
            refine InB_ret ?_
            refine Then_ret ?_
            refine Fin_ret [.bool _] [] Tryd.results106 ⟨by rfl, trivial⟩ HSub.nil ?_
            rw [hp2]
            show Value.bool _ = _
            congr 1
            symm
            unfold Cn.bothP
            exact List.all_eq_false.2 ⟨k, List.mem_range.2 (by omega), by simp only [decide_eq_true_eq]; omega⟩
          ·
            try simp only [Bool.not_eq_true', Bool.not_eq_false', decide_eq_true_eq, decide_eq_false_iff_not, ne_eq, Classical.not_not, Int.not_lt, Int.not_le] at c14
            have hjn : am.each.getD k 0 < 0 ∨ (c.of x).i k = am.each.getD k 0 := by omega
            refine W_skip ?_
            refine InB_normal ?_
            refine Then_normal ?_
            refine W_region_lit (fun ds => ?_)
            refine WS_det hF (by rfl) (y_move (c := .int .i64 _) (by rfl)) ?_
            refine WS_det hF (by rfl) (y_add (by rfl) (by rfl) (by unfold I64; omega)) ?_
            refine WS_det hF (by rfl) (y_assign (c := .int .i64 _) (by rfl)) ?_
            refine WS_nil ?_
            exact Loop_next (k + 1) ⟨by omega, fun j h => by by_cases hjk : j = k; (subst hjk; exact hjn); exact hj j (by omega)⟩ (by repeat (first | exact trivial | refine ⟨by rfl, ?_⟩)) (by repeat (first | exact List.Sublist.refl _ | exact List.nil_sublist _ | apply List.Sublist.cons_cons | apply List.Sublist.cons)) (by omega)
        ·
          try simp only [Bool.not_eq_true', Bool.not_eq_false', decide_eq_true_eq, decide_eq_false_iff_not, ne_eq, Classical.not_not, Int.not_lt, Int.not_le] at g14_6
          refine P_no (by rfl) ?_
          refine P_no (by rfl) ?_
          refine P_no (by rfl) ?_
          refine P_no (by rfl) ?_
          refine P_no (by rfl) ?_
          refine P_no (by rfl) ?_
          refine P_no (by rfl) ?_
          refine P_no (by rfl) ?_
          refine P_no (by rfl) ?_
          refine P_no (by rfl) ?_
          refine P_no (by rfl) ?_
          refine P_det (by rfl) (Over_nil (by first | exact y_pick_t (c := .bool _) (by rfl) (by rfl) | exact y_pick_f (c := .bool _) (by rfl) (by rfl))) ?_
          refine PW_end (by rfl) ?_
          refine OverAll_nil ?_
          rintro -
          refine Then_normal ?_
          refine W_cond (by rfl) (fun c14 => ?_) (fun c14 => ?_)
          · cases c14
          ·
            try simp only [Bool.not_eq_true', Bool.not_eq_false', decide_eq_true_eq, decide_eq_false_iff_not, ne_eq, Classical.not_not, Int.not_lt, Int.not_le] at c14
            have hjn : am.each.getD k 0 < 0 ∨ (c.of x).i k = am.each.getD k 0 := by omega
            refine W_skip ?_
            refine InB_normal ?_
            refine Then_normal ?_
            refine W_region_lit (fun ds => ?_)
            refine WS_det hF (by rfl) (y_move (c := .int .i64 _) (by rfl)) ?_
            refine WS_det hF (by rfl) (y_add (by rfl) (by rfl) (by unfold I64; omega)) ?_
            refine WS_det hF (by rfl) (y_assign (c := .int .i64 _) (by rfl)) ?_
            refine WS_nil ?_
            exact Loop_next (k + 1) ⟨by omega, fun j h => by by_cases hjk : j = k; (subst hjk; exact hjn); exact hj j (by omega)⟩ (by repeat (first | exact trivial | refine ⟨by rfl, ?_⟩)) (by repeat (first | exact List.Sublist.refl _ | exact List.nil_sublist _ | apply List.Sublist.cons_cons | apply List.Sublist.cons)) (by omega)
      ·
        try simp only [Bool.not_eq_true', Bool.not_eq_false', decide_eq_true_eq, decide_eq_false_iff_not, ne_eq, Classical.not_not, Int.not_lt, Int.not_le] at c12
        refine W_exit ?_
        refine Then_exit ?_
        refine Loop_exit ?_
        refine InB_same ?_
        refine Then_normal ?_
        refine W_seq ?_
        refine W_region_lit (fun ds => ?_)
        refine WS_det hF (by rfl) (y_assign (c := .bool _) (by rfl)) ?_
        refine WS_nil ?_
        refine Then_normal ?_
        refine W_ret ?_
        refine Fin_ret [.bool _] [] Tryd.results106 ⟨by rfl, trivial⟩ HSub.nil ?_
        rw [hp2]
        show Value.bool _ = _
        congr 1
        symm
        unfold Cn.bothP
        rw [List.all_eq_true]
        intro j h
        rw [decide_eq_true_eq]
        exact hj j (by have := List.mem_range.1 h; omega)
end Go.Proofs.YtjekjehgmljbgaaDoor.T

/- The fewest pourings, as the reference finds them: its walks. -/
namespace Go.Proofs.YtjekjehgmljbgaaDoor.T
open Go.RowKit Go.Proofs Go.Eng
set_option maxRecDepth 100000
set_option maxHeartbeats 1000000
set_option linter.unusedVariables false
set_option linter.unusedSimpArgs false

theorem bd134_0_1 {x0 : Int} {x1 : Int} : ∀ w, (Instr.build 134 #[(0, .int .i64 x0), (1, .int .i64 x1)]).run Tryd.prog w = .ok (.agg #[.int .i64 x0, .int .i64 x1, .slice none 0 0]) w := fun w => by kernel_rfl
theorem ye_extract {C : Ctx} {e : Env} {H : List Blk} {d : Option Tmp} {ty : TypeId} {pos : String} {af : Array Edge} {x : Operand} {i : Nat} {vs : Array Value} {c : Value} (hx : ev e x = .tuple vs) (hi : vs[i]? = some c) : YE C ⟨d, .extract x i, ty, pos, af, none⟩ e H c :=
  ⟨fun w _ => by simp [execOp, hx, Instr.extract, hi], fun w => rfl⟩
/-- A way of the reference, part by part. -/
structure Rv where
  s : Option Addr
  sn : Nat
  sk : Nat
  i : Option Addr
  im : Nat
  ik : Nat
  st : Int
  l : Option Addr
  ln : Nat
  lk : Nat
  back : Int
def Rv.cells (v : Rv) : List Value := [.slice v.s v.sn v.sk, .slice v.i v.im v.ik, .int .i64 v.st, .slice v.l v.ln v.lk, .int .i64 v.back]
def Rv.z : Rv := ⟨none, 0, 0, none, 0, 0, 0, none, 0, 0, 0⟩
def Rl.rv (c : Cn) (r : Rl) : Rv := ⟨r.s, c.n, r.ks, r.i, (c.of r.x).inn.length, r.ki, r.x.a, r.l, r.w.l.length, r.kl, r.w.back⟩
structure Rl.Rd (c : Cn) (w : World) (r : Rl) : Prop where
  i : Ints w r.i (c.of r.x).inn.length r.ki (c.of r.x).inn
  p : Pos w r.l r.w.l.length r.kl r.w.l
theorem Rl.Rd.st {c : Cn} {C : Ctx} {H : List Blk} {r : Rl} (h : r.Rd c C.w0) (w : World) (hw : St C H w) : r.Rd c w := ⟨h.i.st w hw, h.p.st w hw⟩
theorem rRow_rws {c : Cn} {C : Ctx} {H : List Blk} {b T cap : Nat} {rs : List Rl} {junk : List Value} (i : Nat) (hi : H[i]? = some (b, CB (rRow c rs ++ junk) T)) (hc : rs.length ≤ cap) (w : World) (hw : St C H w) : Rws (Rl.cells c) 5 Rl.z w (some ⟨b, 0, none⟩) rs.length cap rs :=
  ⟨rfl, hc, fun k hk => ⟨b, 0, rfl, by
    rw [Nat.zero_add]
    exact Mem.rl 0 i hi (List.getElem?_eq_getElem hk) (us := (rs.getD k Rl.z).cells c) (rest := []) (by rw [List.getD_eq_getElem?_getD, List.getElem?_eq_getElem hk, List.append_nil]; rfl) (by omega) rfl w hw⟩⟩
/-- What the reference's search returns. -/
def FewR (c : Cn) (p : Co → Bool) (rs : List Rl) (v : Value) : Prop := ∃ (b : Bool) (q : Rv), v = .tuple #[.agg q.cells.toArray, .bool b] ∧ (b = true → ∃ r ∈ rs, q = r.rv c ∧ c.few p = some r.w) ∧ (b = false → c.few p = none)
theorem rfewest_any (c : Cn) (rs : List Rl) (a : Option Addr) (cap : Nat) (am : Am) (ea : Option Addr) (ecap : Nat) (w : World) (hok : c.Ok) (hR : c.Rcd (rs.map Rl.zz)) (hrs : Rws (Rl.cells c) 5 Rl.z w a rs.length cap rs) (hrd : ∀ r ∈ rs, r.Rd c w)
    (hE : Ints w ea am.each.length ecap am.each) (hen : am.each.length ≤ 1000000) (hel : am.total < 0 → am.some < 0 → am.each.length = c.n) :
    Ct Tryd.prog 66 #[.slice a rs.length cap, .agg #[.int .i64 am.some, .int .i64 am.total, .slice ea am.each.length ecap]] w fun v _ => FewR c (am.p c) rs v := by
  have hlen := hR.len
  rw [List.length_map] at hlen
  have hF := wide_wide
  refine Ct_start (args := [_, _]) Tryd.func66 (by rfl) Tryd.ntmps66 (by rfl) ?_
  refine W_seq ?_
  refine W_region_lit (fun ds => ?_)
  refine WS_new hF (by rfl) (y_box (by rfl)) (fun b1 => ?_)
  refine WS_new hF (by rfl) (y_alloc Tryd.zeroValue128 (by rfl)) (fun b4 => ?_)
  refine WS_det hF (by rfl) (y_assign (c := .bool _) (by rfl)) ?_
  refine WS_nil ?_
  refine Then_normal ?_
  refine W_seq ?_
  refine W_region_lit (fun ds => ?_)
  refine WS_new hF (by rfl) (y_alloc Tryd.zeroValue128 (by rfl)) (fun b6 => ?_)
  refine WS_nil ?_
  refine Then_normal ?_
  refine W_seq ?_
  refine W_region_lit (fun ds => ?_)
  refine WS_det hF (by rfl) (y_assign (c := .bool _) (by rfl)) ?_
  refine WS_nil ?_
  refine Then_normal ?_
  refine W_seq ?_
  refine W_seq ?_
  refine W_region_lit (fun ds => ?_)
  refine WS_det hF (by rfl) (y_move (c := .slice _ _ _) (by rfl)) ?_
  refine WS_det hF (by rfl) (y_len (by rfl) Tryd.runUnderlying131) ?_
  refine WS_det hF (by rfl) (y_move (c := .int .i64 _) (by rfl)) ?_
  refine WS_nil ?_
  refine Then_normal ?_
  refine W_block ?_
  refine W_loop (γ := Nat × Bool × Nat × Rv) (fun q => q.1 ≤ rs.length ∧ FewK (am.p c) (rs.map Rl.zz) q.1 q.2.1 q.2.2.1 ∧ (q.2.1 = true → ∃ r, rs[q.2.2.1]? = some r ∧ q.2.2.2 = r.rv c)) (fun q => [(3, .pointer (some ⟨b1, 0, none⟩)), (4, .pointer (some ⟨b4, 0, none⟩)), (6, .pointer (some ⟨b6, 0, none⟩)), (7, .bool q.2.1), (10, .slice a rs.length cap), (11, .int .i64 (rs.length : Int)), (12, .int .i64 (q.1 : Int))]) (fun q => (b6, CB q.2.2.2.cells 128) :: (b4, CB Rv.z.cells 128) :: (b1, CB [.int .i64 am.some, .int .i64 am.total, .slice ea am.each.length ecap] 134) :: []) (fun q => rs.length - q.1) ((0, false, 0, Rv.z)) ⟨Nat.zero_le _, FewK.zero _ _, fun h => by cases h⟩ (by repeat (first | exact trivial | refine ⟨by rfl, ?_⟩)) (sbA) ?_
  rintro ⟨k, b, i, q⟩ e ⟨(hk : k ≤ rs.length), (hK : FewK (am.p c) (rs.map Rl.zz) k b i), (hq : b = true → ∃ r, rs[i]? = some r ∧ q = r.rv c)⟩
  refine W_seq ?_
  refine W_region_lit (fun ds => ?_)
  refine WS_det hF (by rfl) (y_lss (by rfl) (by rfl)) ?_
  refine WS_nil ?_
  refine Then_normal ?_
  refine W_seq ?_
  refine W_cond (by rfl) (fun c4 => ?_) (fun c4 => ?_)
  ·
    try simp only [Bool.not_eq_true', Bool.not_eq_false', decide_eq_true_eq, decide_eq_false_iff_not, ne_eq, Classical.not_not, Int.not_lt, Int.not_le] at c4
    have hkl : k < rs.length := by omega
    obtain ⟨r, hrk⟩ : ∃ r, rs[k]? = some r := ⟨_, List.getElem?_eq_getElem hkl⟩
    have hz : (rs.map Rl.zz)[k]? = some (r.x, r.w) := zz_at hrk
    obtain ⟨bb, oo, rfl, hc⟩ := hrs.cell k hkl
    rw [show rs.getD k Rl.z = r by rw [List.getD_eq_getElem?_getD, hrk]; rfl] at hc
    change At w bb _ [.slice r.s c.n r.ks, .slice r.i (c.of r.x).inn.length r.ki, .int .i64 r.x.a, .slice r.l r.w.l.length r.kl, .int .i64 r.w.back] at hc
    have hbr := hR.best _ (List.mem_of_getElem? hz)
    have hin := (hbr.way.in hok).1
    have hbl := hbr.len hok
    have hrd' := hrd r (List.mem_of_getElem? hrk)
    refine W_skip ?_
    refine Then_normal ?_
    refine W_seq ?_
    refine W_block ?_
    refine W_seq ?_
    refine W_region_lit (fun ds => ?_)
    refine WS_det hF (by rfl) (y_index (k := k) (by rfl) (by rfl) (by first | rfl | omega) (by first | decide | omega) Tryd.runUnderlying131 Tryd.sizeOf128) ?_
    refine WS_det hF (by rfl) (y_loadN (by rfl) Tryd.isAgg128 Tryd.sizeOf128 (by first | exact Mem.old (by assumption) | exact Mem.oldAt (us := [.slice _ _ _, .slice _ _ _, .int .i64 _, .slice _ _ _, .int .i64 _]) (by assumption) (by rfl) | exact Mem.oldAtL (us := [.slice _ _ _, .slice _ _ _, .int .i64 _, .slice _ _ _, .int .i64 _]) (by assumption) (by rfl) (by rfl)) (by rfl)) ?_
    refine WS_new hF (by rfl) (y_alloc Tryd.zeroValue128 (by rfl)) (fun b9 => ?_)
    refine WS_store hF (i := 0) (by rfl) (by rfl) Tryd.sizeOf128 (by rfl) (by rfl) (by rfl) (by first | decide | exact Nat.le_of_ble_eq_true rfl | simp) ?_
    refine WS_nil ?_
    refine Then_normal ?_
    refine W_seq ?_
    refine W_region_lit (fun ds => ?_)
    refine WS_det hF (by rfl) (y_fieldAddr (by rfl) fa128_0) ?_
    refine WS_det hF (by rfl) (y_loadN (by rfl) Tryd.isAgg24 Tryd.sizeOf24 (Mem.own (us := [.slice _ _ _, .slice _ _ _, .int .i64 _]) 0 (by rfl) (by rfl)) (by rfl)) ?_
    refine WS_det hF (by rfl) (y_loadN (by rfl) Tryd.isAgg134 Tryd.sizeOf134 (Mem.own (us := [.int .i64 _, .int .i64 _, .slice _ _ _]) 3 (by rfl) (by rfl)) (by rfl)) ?_
    refine WS_det hF (by rfl) (y_callL (by rfl) (by rfl) Tryd.call106 (fun w hw => ris_any c r.x r.s r.ks r.i r.ki am ea ecap w hok hin (hrd'.i.st w hw) (hE.st w hw) hen hel)) ?_
    refine WS_det hF (by rfl) (y_move (c := .bool _) (by rfl)) ?_
    refine WS_split 20 (by rfl) (fun g6_4 => ?_) (fun g6_4 => ?_)
    ·
      try simp only [Bool.not_eq_true', Bool.not_eq_false', decide_eq_true_eq, decide_eq_false_iff_not, ne_eq, Classical.not_not, Int.not_lt, Int.not_le] at g6_4
      have hp : am.p c r.x = true := g6_4
      refine WS_det hF (by rfl) (y_move (c := .bool _) (by rfl)) ?_
      refine WS_det hF (by rfl) (y_not (by rfl)) ?_
      refine WS_det hF (by rfl) (y_move (c := .bool _) (by rfl)) ?_
      refine WS_split 23 (by rfl) (fun g6_7 => ?_) (fun g6_7 => ?_)
      ·
        try simp only [Bool.not_eq_true', Bool.not_eq_false', decide_eq_true_eq, decide_eq_false_iff_not, ne_eq, Classical.not_not, Int.not_lt, Int.not_le] at g6_7
        subst g6_7
        refine WS_no hF (by rfl) ?_
        refine WS_no hF (by rfl) ?_
        refine WS_no hF (by rfl) ?_
        refine WS_no hF (by rfl) ?_
        refine WS_no hF (by rfl) ?_
        refine WS_no hF (by rfl) ?_
        refine WS_no hF (by rfl) ?_
        refine WS_no hF (by rfl) ?_
        refine WS_no hF (by rfl) ?_
        refine WS_no hF (by rfl) ?_
        refine WS_no hF (by rfl) ?_
        refine WS_no hF (by rfl) ?_
        refine WS_det hF (by rfl) (by first | exact y_pick_t (c := .bool _) (by rfl) (by rfl) | exact y_pick_f (c := .bool _) (by rfl) (by rfl)) ?_
        refine WS_det hF (by rfl) (by first | exact y_pick_t (c := .bool _) (by rfl) (by rfl) | exact y_pick_f (c := .bool _) (by rfl) (by rfl)) ?_
        refine WS_nil ?_
        refine Then_normal ?_
        refine W_cond (by rfl) (fun c6 => ?_) (fun c6 => ?_)
        ·
          try simp only [Bool.not_eq_true', Bool.not_eq_false', decide_eq_true_eq, decide_eq_false_iff_not, ne_eq, Classical.not_not, Int.not_lt, Int.not_le] at c6
          refine W_region_lit (fun ds => ?_)
          refine WS_det hF (by rfl) (y_loadN (by rfl) Tryd.isAgg128 Tryd.sizeOf128 (Mem.own (us := [.slice _ _ _, .slice _ _ _, .int .i64 _, .slice _ _ _, .int .i64 _]) 0 (by rfl) (by rfl)) (by rfl)) ?_
          refine WS_store hF (i := 1) (by rfl) (by rfl) Tryd.sizeOf128 (by rfl) (by rfl) (by rfl) (by first | decide | exact Nat.le_of_ble_eq_true rfl | simp) ?_
          refine WS_det hF (by rfl) (y_assign (c := .bool _) (by rfl)) ?_
          refine WS_nil ?_
          refine InB_normal ?_
          refine Then_normal ?_
          refine W_region_lit (fun ds => ?_)
          refine WS_det hF (by rfl) (y_add (by rfl) (by rfl) (by unfold I64; omega)) ?_
          refine WS_det hF (by rfl) (y_move (c := .int .i64 _) (by rfl)) ?_
          refine WS_nil ?_
          exact Loop_next (k + 1, true, k, r.rv c) ⟨by omega, hK.fst hz hp, fun _ => ⟨r, hrk, rfl⟩⟩ (by repeat (first | exact trivial | refine ⟨by rfl, ?_⟩)) sbA (by simp only; omega)
        · cases c6
      ·
        try simp only [Bool.not_eq_true', Bool.not_eq_false', decide_eq_true_eq, decide_eq_false_iff_not, ne_eq, Classical.not_not, Int.not_lt, Int.not_le] at g6_7
        subst g6_7
        obtain ⟨r', hri, rfl⟩ := hq rfl
        have hiz : (rs.map Rl.zz)[i]? = some (r'.x, r'.w) := zz_at hri
        have hik : i < k := hK.1
        have hmon := hR.mono hik hiz hz
        have hbr2 := hR.best _ (List.mem_of_getElem? hiz)
        have hbl2 := hbr2.len hok
        have hrd2 := hrd r' (List.mem_of_getElem? hri)
        refine WS_det hF (by rfl) (y_fieldAddr (by rfl) fa128_1) ?_
        refine WS_det hF (by rfl) (y_load1 (by rfl) Tryd.isAgg27 (Mem.own1 0 (by rfl) (by rfl))) ?_
        refine WS_det hF (by rfl) (y_len (by rfl) Tryd.runUnderlying27) ?_
        refine WS_det hF (by rfl) (y_fieldAddr (by rfl) fa128_1) ?_
        refine WS_det hF (by rfl) (y_load1 (by rfl) Tryd.isAgg27 (Mem.own1 1 (by rfl) (by rfl))) ?_
        refine WS_det hF (by rfl) (y_len (by rfl) Tryd.runUnderlying27) ?_
        refine WS_det hF (by rfl) (y_eql (by rfl) (by rfl)) ?_
        refine WS_det hF (by rfl) (y_move (c := .bool _) (by rfl)) ?_
        refine WS_split 31 (by rfl) (fun g6_15 => ?_) (fun g6_15 => ?_)
        ·
          try simp only [Bool.not_eq_true', Bool.not_eq_false', decide_eq_true_eq, decide_eq_false_iff_not, ne_eq, Classical.not_not, Int.not_lt, Int.not_le] at g6_15
          have hll : r.w.l.length = r'.w.l.length := by have h : ((r.w.l.length : Nat) : Int) = r'.w.l.length := g6_15; omega
          refine WS_det hF (by rfl) (y_loadN (by rfl) Tryd.isAgg128 Tryd.sizeOf128 (Mem.own (us := [.slice _ _ _, .slice _ _ _, .int .i64 _, .slice _ _ _, .int .i64 _]) 0 (by rfl) (by rfl)) (by rfl)) ?_
          refine WS_det hF (by rfl) (y_loadN (by rfl) Tryd.isAgg128 Tryd.sizeOf128 (Mem.own (us := [.slice _ _ _, .slice _ _ _, .int .i64 _, .slice _ _ _, .int .i64 _]) 1 (by rfl) (by rfl)) (by rfl)) ?_
          refine WS_det hF (by rfl) (y_callL (by rfl) (by rfl) Tryd.call107 (fun w hw => rbetter_any r.w r'.w r.l r.kl r'.l r'.kl w (by have h : ((r.w.l.length : Nat) : Int) = r'.w.l.length := g6_15; omega) (by simp only at hbl; omega) _ _ _ _ _ _ _ _ _ _ _ _ _ _ (hrd'.p.st w hw) (hrd2.p.st w hw))) ?_
          refine WS_det hF (by rfl) (by first | exact y_pick_t (c := .bool _) (by rfl) (by rfl) | exact y_pick_f (c := .bool _) (by rfl) (by rfl)) ?_
          refine WS_det hF (by rfl) (by first | exact y_pick_t (c := .bool _) (by rfl) (by rfl) | exact y_pick_f (c := .bool _) (by rfl) (by rfl)) ?_
          refine WS_det hF (by rfl) (by first | exact y_pick_t (c := .bool _) (by rfl) (by rfl) | exact y_pick_f (c := .bool _) (by rfl) (by rfl)) ?_
          refine WS_nil ?_
          refine Then_normal ?_
          refine W_cond (by rfl) (fun c6 => ?_) (fun c6 => ?_)
          ·
            try simp only [Bool.not_eq_true', Bool.not_eq_false', decide_eq_true_eq, decide_eq_false_iff_not, ne_eq, Classical.not_not, Int.not_lt, Int.not_le] at c6
            have hlt : r.w.lt r'.w = true := by rw [← wbetB_lt hll]; exact c6
            refine W_region_lit (fun ds => ?_)
            refine WS_det hF (by rfl) (y_loadN (by rfl) Tryd.isAgg128 Tryd.sizeOf128 (Mem.own (us := [.slice _ _ _, .slice _ _ _, .int .i64 _, .slice _ _ _, .int .i64 _]) 0 (by rfl) (by rfl)) (by rfl)) ?_
            refine WS_store hF (i := 1) (by rfl) (by rfl) Tryd.sizeOf128 (by rfl) (by rfl) (by rfl) (by first | decide | exact Nat.le_of_ble_eq_true rfl | simp) ?_
            refine WS_det hF (by rfl) (y_assign (c := .bool _) (by rfl)) ?_
            refine WS_nil ?_
            refine InB_normal ?_
            refine Then_normal ?_
            refine W_region_lit (fun ds => ?_)
            refine WS_det hF (by rfl) (y_add (by rfl) (by rfl) (by unfold I64; omega)) ?_
            refine WS_det hF (by rfl) (y_move (c := .int .i64 _) (by rfl)) ?_
            refine WS_nil ?_
            exact Loop_next (k + 1, true, k, r.rv c) ⟨by omega, hK.take hiz hz hp hlt, fun _ => ⟨r, hrk, rfl⟩⟩ (by repeat (first | exact trivial | refine ⟨by rfl, ?_⟩)) sbA (by simp only; omega)
          ·
            try simp only [Bool.not_eq_true', Bool.not_eq_false', decide_eq_true_eq, decide_eq_false_iff_not, ne_eq, Classical.not_not, Int.not_lt, Int.not_le] at c6
            have hlt : r.w.lt r'.w = false := by rw [← wbetB_lt hll]; exact c6
            refine W_skip ?_
            refine InB_normal ?_
            refine Then_normal ?_
            refine W_region_lit (fun ds => ?_)
            refine WS_det hF (by rfl) (y_add (by rfl) (by rfl) (by unfold I64; omega)) ?_
            refine WS_det hF (by rfl) (y_move (c := .int .i64 _) (by rfl)) ?_
            refine WS_nil ?_
            exact Loop_next (k + 1, true, i, r'.rv c) ⟨by omega, hK.keep hiz hz hlt, fun _ => ⟨r', hri, rfl⟩⟩ (by repeat (first | exact trivial | refine ⟨by rfl, ?_⟩)) sbA (by simp only; omega)
        ·
          try simp only [Bool.not_eq_true', Bool.not_eq_false', decide_eq_true_eq, decide_eq_false_iff_not, ne_eq, Classical.not_not, Int.not_lt, Int.not_le] at g6_15
          have hlt : r.w.lt r'.w = false := Wy.ge_lt hmon (fun h => by have h1 := h.1; have : ((r.w.l.length : Nat) : Int) = r'.w.l.length := (by omega); exact absurd this g6_15)
          refine WS_no hF (by rfl) ?_
          refine WS_no hF (by rfl) ?_
          refine WS_no hF (by rfl) ?_
          refine WS_det hF (by rfl) (by first | exact y_pick_t (c := .bool _) (by rfl) (by rfl) | exact y_pick_f (c := .bool _) (by rfl) (by rfl)) ?_
          refine WS_det hF (by rfl) (by first | exact y_pick_t (c := .bool _) (by rfl) (by rfl) | exact y_pick_f (c := .bool _) (by rfl) (by rfl)) ?_
          refine WS_det hF (by rfl) (by first | exact y_pick_t (c := .bool _) (by rfl) (by rfl) | exact y_pick_f (c := .bool _) (by rfl) (by rfl)) ?_
          refine WS_nil ?_
          refine Then_normal ?_
          refine W_cond (by rfl) (fun c6 => ?_) (fun c6 => ?_)
          · cases c6
          ·
            try simp only [Bool.not_eq_true', Bool.not_eq_false', decide_eq_true_eq, decide_eq_false_iff_not, ne_eq, Classical.not_not, Int.not_lt, Int.not_le] at c6
            refine W_skip ?_
            refine InB_normal ?_
            refine Then_normal ?_
            refine W_region_lit (fun ds => ?_)
            refine WS_det hF (by rfl) (y_add (by rfl) (by rfl) (by unfold I64; omega)) ?_
            refine WS_det hF (by rfl) (y_move (c := .int .i64 _) (by rfl)) ?_
            refine WS_nil ?_
            exact Loop_next (k + 1, true, i, r'.rv c) ⟨by omega, hK.keep hiz hz hlt, fun _ => ⟨r', hri, rfl⟩⟩ (by repeat (first | exact trivial | refine ⟨by rfl, ?_⟩)) sbA (by simp only; omega)
    ·
      try simp only [Bool.not_eq_true', Bool.not_eq_false', decide_eq_true_eq, decide_eq_false_iff_not, ne_eq, Classical.not_not, Int.not_lt, Int.not_le] at g6_4
      have hp : am.p c r.x = false := g6_4
      refine WS_no hF (by rfl) ?_
      refine WS_no hF (by rfl) ?_
      refine WS_no hF (by rfl) ?_
      refine WS_no hF (by rfl) ?_
      refine WS_no hF (by rfl) ?_
      refine WS_no hF (by rfl) ?_
      refine WS_no hF (by rfl) ?_
      refine WS_no hF (by rfl) ?_
      refine WS_no hF (by rfl) ?_
      refine WS_no hF (by rfl) ?_
      refine WS_no hF (by rfl) ?_
      refine WS_no hF (by rfl) ?_
      refine WS_no hF (by rfl) ?_
      refine WS_no hF (by rfl) ?_
      refine WS_no hF (by rfl) ?_
      refine WS_no hF (by rfl) ?_
      refine WS_det hF (by rfl) (by first | exact y_pick_t (c := .bool _) (by rfl) (by rfl) | exact y_pick_f (c := .bool _) (by rfl) (by rfl)) ?_
      refine WS_nil ?_
      refine Then_normal ?_
      refine W_cond (by rfl) (fun c6 => ?_) (fun c6 => ?_)
      · cases c6
      ·
        try simp only [Bool.not_eq_true', Bool.not_eq_false', decide_eq_true_eq, decide_eq_false_iff_not, ne_eq, Classical.not_not, Int.not_lt, Int.not_le] at c6
        refine W_skip ?_
        refine InB_normal ?_
        refine Then_normal ?_
        refine W_region_lit (fun ds => ?_)
        refine WS_det hF (by rfl) (y_add (by rfl) (by rfl) (by unfold I64; omega)) ?_
        refine WS_det hF (by rfl) (y_move (c := .int .i64 _) (by rfl)) ?_
        refine WS_nil ?_
        exact Loop_next (k + 1, b, i, q) ⟨by omega, hK.skip hz hp, hq⟩ (by repeat (first | exact trivial | refine ⟨by rfl, ?_⟩)) sbA (by simp only; omega)
  ·
    try simp only [Bool.not_eq_true', Bool.not_eq_false', decide_eq_true_eq, decide_eq_false_iff_not, ne_eq, Classical.not_not, Int.not_lt, Int.not_le] at c4
    refine W_exit ?_
    refine Then_exit ?_
    refine Loop_exit ?_
    refine InB_same ?_
    refine Then_normal ?_
    refine W_seq ?_
    refine W_region_lit (fun ds => ?_)
    refine WS_det hF (by rfl) (y_loadN (by rfl) Tryd.isAgg128 Tryd.sizeOf128 (Mem.own (us := [.slice _ _ _, .slice _ _ _, .int .i64 _, .slice _ _ _, .int .i64 _]) 0 (by rfl) (by rfl)) (by rfl)) ?_
    refine WS_det hF (by rfl) (y_move (c := .bool _) (by rfl)) ?_
    refine WS_store hF (i := 1) (by rfl) (by rfl) Tryd.sizeOf128 (by rfl) (by rfl) (by rfl) (by first | decide | exact Nat.le_of_ble_eq_true rfl | simp) ?_
    refine WS_det hF (by rfl) (y_assign (c := .bool _) (by rfl)) ?_
    refine WS_nil ?_
    refine Then_normal ?_
    refine W_ret ?_
    refine Fin_ret [_, .bool _] [] Tryd.results66 ⟨lvN (by rfl) Tryd.isAgg128 Tryd.sizeOf128 (Mem.own (us := [.slice _ _ _, .slice _ _ _, .int .i64 _, .slice _ _ _, .int .i64 _]) 1 (by rfl) (by rfl)) (by rfl), by rfl, trivial⟩ HSub.nil ?_
    have hkn : k = rs.length := by omega
    subst hkn
    rw [show rs.length = (rs.map Rl.zz).length by rw [List.length_map]] at hK
    refine ⟨b, q, rfl, fun hb => ?_, fun hb => ?_⟩
    · subst hb
      obtain ⟨r, hri, rfl⟩ := hq rfl
      exact ⟨r, List.mem_of_getElem? hri, rfl, hK.end_yes hR (zz_at hri)⟩
    · subst hb
      exact hK.end_no hR
theorem few_congr {c : Cn} {p p' : Co → Bool} (h : ∀ x, p x = p' x) : c.few p = c.few p' := by rw [show p = p' from funext h]
end Go.Proofs.YtjekjehgmljbgaaDoor.T

namespace Go.Eng
open Go.RowKit
section
variable {C : Ctx} {F : Fence} {n : Nat} {ds : List Deferred} {ops : Array Oper} {fuel : Nat} {listed : Array Bool} {e : Env} {H H' H0 M' L : List Blk} {M : Env → List Blk → Prop} {x : Blk}
theorem St.hsub {w : World} (hs : HSub H H') (hw : St C H w) : St C H' w := ⟨hw.1, hs _ _ hw.2, hw.3⟩
theorem WH_sub (hs : HSub H H') (h0 : HSub H' H0) (h : WH C F n ds ops M H0 fuel listed e H') : WH C F n ds ops M H0 fuel listed e H :=
  ⟨fun _ hw => St.hsub h0 (St.hsub hs hw), fun w hw => h.2 w (St.hsub hs hw)⟩
theorem WH_pull (x : Blk) (hp : H.Perm (x :: M')) (h : WH C F n ds ops M H0 fuel listed e (x :: M')) : WH C F n ds ops M H0 fuel listed e H :=
  ⟨fun w hw => h.1 w ⟨hw.1, hw.2.perm hp.symm, hw.3⟩, fun w hw => h.2 w ⟨hw.1, hw.2.perm hp.symm, hw.3⟩⟩
theorem WH_pullL (L : List Blk) (hp : H.Perm (L ++ M')) (h : WH C F n ds ops M H0 fuel listed e (L ++ M')) : WH C F n ds ops M H0 fuel listed e H :=
  ⟨fun w hw => h.1 w ⟨hw.1, hw.2.perm hp.symm, hw.3⟩, fun w hw => h.2 w ⟨hw.1, hw.2.perm hp.symm, hw.3⟩⟩
theorem WH_as (h : ∀ X : Nat → Array Bool → Env → List Blk → Prop, X = WH C F n ds ops M H0 → X fuel listed e H) : WH C F n ds ops M H0 fuel listed e H := h _ rfl
theorem WH_of {X : Nat → Array Bool → Env → List Blk → Prop} {fuel' : Nat} {listed' : Array Bool} (hX : X = WH C F n ds ops M H0) (hf : fuel = fuel') (hl : listed = listed') (h : X fuel' listed' e H) : WH C F n ds ops M H0 fuel listed e H := by subst hX hf hl; exact h
theorem PulL.base : (L ++ M').Perm (L ++ M') := List.Perm.refl _
theorem PulL.base1 : L.Perm (L ++ []) := by rw [List.append_nil]
theorem PulL.cons {y : Blk} (h : H.Perm (L ++ M')) : (y :: H).Perm (L ++ (y :: M')) := (h.cons y).trans List.perm_middle.symm
theorem PulL.app {X : List Blk} (h : H.Perm (L ++ M')) : (X ++ H).Perm (L ++ (X ++ M')) := (h.append_left X).trans (by rw [← List.append_assoc, ← List.append_assoc]; exact List.perm_append_comm.append_right M')
theorem W_tailH0 {Q : Exit → Env → List Blk → Prop} {id : Nat} {l : List Oper} (H0 : List Blk) (m : Nat) (hm : C.P.follows .mixedOrders = true) (M : Env → List Blk → Prop)
    (hph : (tailB l.toArray m && Nat.ble m l.length) = true)
    (hrest : ∀ ds e H, M e H → WS (C.at ds) F n ds l.toArray Q (l.drop m) e H) (hp : ∀ ds, WH (C.at ds) F n ds (l.take m).toArray M H0 m (Array.replicate m false) e H) :
    W C F n ds (.region id l.toArray true) Q e H := W_tailA m hm M hph hrest fun ds => WH_in (hp ds)
theorem PulE.one : L.Perm ([] ++ L) := List.Perm.refl _
theorem PulE.hd {M : List Blk} : (L ++ M).Perm (M ++ L) := List.perm_append_comm
theorem PulE.snd {X : List Blk} : (X ++ L).Perm (X ++ L) := List.Perm.refl _
theorem PulE.cons {y : Blk} (h : H.Perm (M' ++ L)) : (y :: H).Perm ((y :: M') ++ L) := h.cons y
theorem PulE.app {X : List Blk} (h : H.Perm (M' ++ L)) : (X ++ H).Perm ((X ++ M') ++ L) := by rw [List.append_assoc]; exact h.append_left X
theorem WS_pullE {all : Array Oper} {Q : Exit → Env → List Blk → Prop} {rest : List Oper} (L : List Blk) (hp : H.Perm (M' ++ L)) (h : WS C F n ds all Q rest e (M' ++ L)) : WS C F n ds all Q rest e H := fun w hw a ha => h w ⟨hw.1, hw.2.perm hp.symm, hw.3⟩ a ha
end
end Go.Eng
