/- A region whose order is open: the rule. No project text. -/
import Derived.Test.YthkimgfgpphgnaaEng3
namespace Go.Eng
open Go.RowKit

structure PairSpec (ops : Array Oper) (us : List Nat) : Prop where
  us0 : ∀ (j : Nat) (oj : Oper) (d : Nat), ops[j]? = some oj → oj.dst = some d → d ∉ us
  self : ∀ (i : Nat) (o : Oper) (d : Nat), ops[i]? = some o → o.dst = some d → d ∉ o.looksAt ops
  uniq : ∀ (i j : Nat) (oi oj : Oper) (d : Nat), ops[i]? = some oi → ops[j]? = some oj → oi.dst = some d → oj.dst = some d → i = j
  before : ∀ (i j : Nat) (oi oj : Oper) (d : Nat), ops[i]? = some oi → ops[j]? = some oj → oj.dst = some d → d ∈ oi.looksAt ops → j < i → edge ops i j = true
  behind : ∀ (i j : Nat) (oi oj : Oper) (d : Nat), ops[i]? = some oi → ops[j]? = some oj → oj.dst = some d → d ∈ oi.looksAt ops → i < j → edge ops j i = true
  down : ∀ (i k : Nat), edge ops i k = true → k < i
  look : ∀ (i : Nat) (o : Oper), ops[i]? = some o → ∀ d ∈ us, d ∉ o.looksAt ops
  sel : ∀ (i : Nat) (o : Oper), ops[i]? = some o → ∀ cs b, o.op ≠ .select cs b
  ndef : ∀ (i : Nat) (o : Oper), ops[i]? = some o → noDefer o = true

theorem phased_spec {ops : Array Oper} {us : List Nat} (h : phased ops us = true) : PairSpec ops us := by
  unfold phased at h
  simp only [Bool.and_eq_true] at h
  obtain ⟨⟨h1, h2⟩, h3⟩ := h
  have lt : ∀ {i : Nat} {o : Oper}, ops[i]? = some o → i < ops.size := fun h => (Array.getElem?_eq_some_iff.1 h).1
  have pr : ∀ (i j : Nat), i < ops.size → j < ops.size → pairOk ops us i j = true := fun i j hi hj =>
    List.all_eq_true.1 (List.all_eq_true.1 h1 i (List.mem_range.2 hi)) j (List.mem_range.2 hj)
  have pr' : ∀ (i j : Nat) (oi oj : Oper) (d : Nat), ops[i]? = some oi → ops[j]? = some oj → oj.dst = some d →
      d ∉ us ∧ (if i = j then !(oi.looksAt ops).contains d else (oi.dst != some d && (!(oi.looksAt ops).contains d || (if j < i then edge ops i j else edge ops j i)))) = true := fun i j oi oj d hi hj hd => by
    have := pr i j (lt hi) (lt hj)
    unfold pairOk at this
    rw [hi, hj] at this
    simp only [hd, Bool.and_eq_true] at this
    exact ⟨by simpa using this.1, this.2⟩
  have h3' : ∀ (i : Nat) (o : Oper), ops[i]? = some o → (us.all (fun d => !(o.looksAt ops).contains d) && (match o.op with | .select .. => false | .defer _ => false | _ => true)) = true := fun i o ho => by
    rw [Array.all_eq_true] at h3
    have := h3 i (lt ho)
    rwa [(Array.getElem?_eq_some_iff.1 ho).2] at this
  refine ⟨?_, ?_, ?_, ?_, ?_, ?_, ?_, ?_, ?_⟩
  · exact fun j oj d hj hd => (pr' j j oj oj d hj hj hd).1
  · intro i o d ho hd
    have := (pr' i i o o d ho ho hd).2
    simpa using this
  · intro i j oi oj d hi hj hdi hdj
    by_cases hij : i = j
    · exact hij
    · have := (pr' i j oi oj d hi hj hdj).2
      rw [if_neg hij] at this
      simp [hdi] at this
  · intro i j oi oj d hi hj hdj hl hlt
    have := (pr' i j oi oj d hi hj hdj).2
    rw [if_neg (by omega)] at this
    have hc : (oi.looksAt ops).contains d = true := by simpa using hl
    simp only [Bool.and_eq_true, hc, Bool.not_true, Bool.false_or, hlt, if_true] at this
    exact this.2
  · intro i j oi oj d hi hj hdj hl hlt
    have := (pr' i j oi oj d hi hj hdj).2
    rw [if_neg (by omega)] at this
    have hc : (oi.looksAt ops).contains d = true := by simpa using hl
    simp only [Bool.and_eq_true, hc, Bool.not_true, Bool.false_or, show ¬ j < i by omega, if_false] at this
    exact this.2
  · intro i k hk
    have hi : i < ops.size := by
      unfold edge at hk
      cases ho : ops[i]? with
      | none => rw [ho] at hk; cases hk
      | some o => exact lt ho
    have := List.all_eq_true.1 h2 i (List.mem_range.2 hi)
    unfold edge at hk
    cases ho : ops[i]? with
    | none => rw [ho] at hk; cases hk
    | some o =>
      rw [ho] at hk this
      simp only [Option.map_some, Option.getD_some, Array.any_eq_true, Array.all_eq_true] at hk this
      obtain ⟨x, hx, he⟩ := hk
      have := this x hx
      simp only [Bool.and_eq_true, beq_iff_eq] at he
      rw [he.2, he.1] at this
      simpa using this
  · intro i o ho d hd hl
    have := h3' i o ho
    simp only [Bool.and_eq_true, List.all_eq_true] at this
    have := this.1 d hd
    simp only [Bool.not_eq_true', List.contains_eq_mem, decide_eq_false_iff_not] at this
    exact this hl
  · intro i o ho cs b hs
    have := h3' i o ho
    rw [hs] at this
    simp at this
  · intro i o ho
    have := h3' i o ho
    unfold noDefer
    cases hop : o.op <;> first | rfl | (rw [hop] at this; simp at this)

section
variable {C : Ctx} {F : Fence} {n : Nat} {ds : List Deferred} {ops : Array Oper} {sps : List Sp} {e0 : Env} {us0 : List Un} {S : List Nat} {H0 : List Blk}

def Lst (listed : Array Bool) (i : Nat) : Prop := listed.getD i false = true
def Pres (ops : Array Oper) (us0 : List Un) (listed : Array Bool) (d : Nat) : Prop := (∃ u ∈ us0, u.slot = d) ∨ ∃ (i : Nat) (o : Oper), Lst listed i ∧ ops[i]? = some o ∧ o.dst = some d
def Stored (sps : List Sp) (listed : Array Bool) (d : Nat) : Prop := ∃ i : Nat, Lst listed i ∧ sps[i]? = some (Sp.st d)

structure Inv (C : Ctx) (n : Nat) (ds : List Deferred) (ops : Array Oper) (sps : List Sp) (e0 : Env) (us0 : List Un) (H0 : List Blk) (listed : Array Bool) (a : Act) (w : World) (ea : Env) (Bs : Nat → List Blk) : Prop where
  rep : Rep n ds a ea
  sz : listed.size = ops.size
  down : ∀ j k, Lst listed j → edge ops j k = true → Lst listed k
  det : ∀ (i : Nat) (o : Oper) (c : Value) (d : Nat), Lst listed i → ops[i]? = some o → sps[i]? = some (Sp.det c) → o.dst = some d → ea d = c
  skp : ∀ (i : Nat) (o : Oper) (d : Nat), Lst listed i → ops[i]? = some o → sps[i]? = some Sp.skip → o.dst = some d → ea d = undef
  opn : ∀ u ∈ UAt ops.toList sps us0 ops.size, Pres ops us0 listed u.slot → (Stored sps listed u.slot → u.R' ea (ea u.slot) (Bs u.slot)) ∧ (¬ Stored sps listed u.slot → u.R ea (ea u.slot) (Bs u.slot))
  absn : ∀ u ∈ UAt ops.toList sps us0 ops.size, ¬ Pres ops us0 listed u.slot → Bs u.slot = []
  unt : ∀ t, (∀ (i : Nat) (o : Oper), Lst listed i → ops[i]? = some o → o.dst ≠ some t) → ea t = e0 t
  mem : HOk C.w0.heap.size w ((UAt ops.toList sps us0 ops.size).flatMap (fun u => Bs u.slot) ++ H0)
  below : Below C.w0.heap.size C.w0 w
  marks : Mk (C.ds ++ C.out) C.w0.heap.size w

structure Hyp (C : Ctx) (n : Nat) (ops : Array Oper) (sps : List Sp) (e0 : Env) (us0 : List Un) (S : List Nat) (H0 : List Blk) : Prop where
  ps : PairSpec ops (us0.map (·.slot))
  dok : ∀ (i : Nat) (o : Oper), ops[i]? = some o → dOk n o.dst = true ∧ gOk n ops o = true
  len : sps.length = ops.size
  ob : ∀ (i : Nat) (o : Oper) (sp : Sp), ops[i]? = some o → sps[i]? = some sp → Ob C ops S o sp (UAt ops.toList sps us0 i) (EAt ops.toList sps e0 i) H0
  st1 : ∀ (i j d : Nat), sps[i]? = some (Sp.st d) → sps[j]? = some (Sp.st d) → i = j
  stS : ∀ d ∈ S, ∃ i : Nat, sps[i]? = some (Sp.st d)
  nd : (us0.map (·.slot)).Nodup
  dep0 : ∀ u ∈ us0, u.deps = [] ∧ Cong [] u.R ∧ Cong u.deps' u.R'

theorem lst_set {listed : Array Bool} {i j : Nat} (hi : i < listed.size) : Lst (listed.setIfInBounds i true) j ↔ j = i ∨ Lst listed j := by
  unfold Lst
  rw [Array.getD_eq_getD_getElem?, Array.getD_eq_getD_getElem?, Array.getElem?_setIfInBounds]
  by_cases h : i = j
  · subst h; simp [hi]
  · rw [if_neg h]; constructor
    · exact .inr
    · rintro (rfl | h')
      · exact absurd rfl h
      · exact h'

theorem Hyp.listGet (_h : Hyp C n ops sps e0 us0 S H0) {i : Nat} : ops.toList[i]? = ops[i]? := Array.getElem?_toList

theorem Hyp.slots_nodup (h : Hyp C n ops sps e0 us0 S H0) : ∀ i, i ≤ ops.size → ((UAt ops.toList sps us0 i).map (·.slot)).Nodup := by
  intro i
  induction i with
  | zero => intro _; exact h.nd
  | succ i ih =>
    intro hi
    have ih := ih (by omega)
    have hs : i < sps.length := by rw [h.len]; omega
    have ho : ops[i]? = some ops[i] := Array.getElem?_eq_getElem (by omega)
    have hsp : sps[i]? = some sps[i] := List.getElem?_eq_getElem hs
    simp only [UAt, h.listGet, ho, hsp]
    unfold nextU
    split
    · rename_i deps R deps' R' d hspe hd
      simp only [List.map_cons, List.nodup_cons]
      refine ⟨fun hm => ?_, ih⟩
      obtain ⟨u, hu, hue⟩ := List.mem_map.1 hm
      rcases UAt_mem hu with hu0 | ⟨j, o, hj, ho', _, hd'⟩
      · exact h.ps.us0 i _ d ho hd (List.mem_map.2 ⟨u, hu0, hue⟩)
      · rw [h.listGet] at ho'
        have := h.ps.uniq i j _ o d ho ho' hd (by rw [hd', hue])
        omega
    · exact ih

theorem slots_inj : ∀ {T : List Un}, (T.map (·.slot)).Nodup → ∀ {u u' : Un}, u ∈ T → u' ∈ T → u.slot = u'.slot → u = u'
  | [], _, _, _, hu, _, _ => by cases hu
  | x :: T, hn, u, u', hu, hu', he => by
    simp only [List.map_cons, List.nodup_cons] at hn
    rcases List.mem_cons.1 hu with h1 | h1
    · rcases List.mem_cons.1 hu' with h2 | h2
      · rw [h1, h2]
      · exact absurd (List.mem_map.2 ⟨u', h2, by rw [← he, h1]⟩) hn.1
    · rcases List.mem_cons.1 hu' with h2 | h2
      · exact absurd (List.mem_map.2 ⟨u, h1, by rw [he, h2]⟩) hn.1
      · exact slots_inj hn.2 h1 h2 he
theorem Hyp.slot_inj (h : Hyp C n ops sps e0 us0 S H0) {u u' : Un} (hu : u ∈ UAt ops.toList sps us0 ops.size) (hu' : u' ∈ UAt ops.toList sps us0 ops.size) (he : u.slot = u'.slot) : u = u' :=
  slots_inj (h.slots_nodup ops.size (Nat.le_refl _)) hu hu' he

theorem Hyp.spec_new (h : Hyp C n ops sps e0 us0 S H0) {i : Nat} {o : Oper} {deps deps' : List Nat} {R R' : Env → Value → List Blk → Prop} (ho : ops[i]? = some o) (hs : sps[i]? = some (Sp.new deps R deps' R')) : ∃ d, o.dst = some d ∧ (d ∉ S → R' = R ∧ deps' = deps) := (h.ob i o _ ho hs).2.2.2.1

/-- Where an operation may be carried out, it sees what it saw in the text's order. -/
theorem Hyp.agree (h : Hyp C n ops sps e0 us0 S H0) {listed : Array Bool} {a : Act} {w : World} {ea : Env} {Bs : Nat → List Blk} (I : Inv C n ds ops sps e0 us0 H0 listed a w ea Bs)
    {i : Nat} {o : Oper} (ho : ops[i]? = some o) (hni : ¬ Lst listed i) (hpre : ∀ k, edge ops i k = true → Lst listed k) {t : Nat} (ht : t ∈ o.looksAt ops)
    (hno : ∀ u ∈ UAt ops.toList sps us0 i, u.slot ≠ t) : ea t = EAt ops.toList sps e0 i t := by
  by_cases hex : ∃ (j : Nat) (oj : Oper), ops[j]? = some oj ∧ oj.dst = some t
  · obtain ⟨j, oj, hj, hd⟩ := hex
    have hji : j ≠ i := fun e => by subst e; rw [ho] at hj; cases hj; exact h.ps.self j o t ho hd ht
    rcases Nat.lt_or_ge j i with hlt | hge
    · have hL := hpre j (h.ps.before i j o oj t ho hj hd ht hlt)
      have hsj : sps[j]? = some (sps[j]'(by rw [h.len]; exact (Array.getElem?_eq_some_iff.1 hj).1)) := List.getElem?_eq_getElem _
      have hE := EAt_at (ops := ops.toList) (sps := sps) (e0 := e0) (t := t) (by rw [h.listGet]; exact hj) hsj
        (fun k o' hk ho' hd' => by rw [h.listGet] at ho'; have := h.ps.uniq k j o' oj t ho' hj hd' hd; omega) (i - (j + 1))
      rw [show j + 1 + (i - (j + 1)) = i by omega] at hE
      rw [hE]
      generalize sps[j]'_ = sp at hsj
      cases sp with
      | det c => rw [I.det j oj c t hL hj hsj hd]; simp only [nextE, hd, updo, upd_same]
      | skip => rw [I.skp j oj t hL hj hsj hd]; simp only [nextE, hd, updo, upd_same]
      | new deps R deps' R' => exact absurd rfl (hno ⟨t, deps, R, deps', R'⟩ (mem_UAt (by rw [h.listGet]; exact hj) hsj hd i hlt))
      | st d => have := (h.ob j oj _ hj hsj).1; rw [hd] at this; cases this
    · have hlt : i < j := by omega
      have hL : ¬ Lst listed j := fun hl => hni (I.down j i hl (h.ps.behind i j o oj t ho hj hd ht hlt))
      rw [I.unt t fun k ok hk hok hdk => hL (by rw [h.ps.uniq j k oj ok t hj hok hd hdk]; exact hk)]
      rw [EAt_out fun k ok hk hok hdk => by rw [h.listGet] at hok; have := h.ps.uniq k j ok oj t hok hj hdk hd; omega]
  · rw [I.unt t fun k ok _ hok hdk => hex ⟨k, ok, hok, hdk⟩]
    rw [EAt_out fun k ok _ hok hdk => hex ⟨k, ok, by rw [h.listGet] at hok; exact hok, hdk⟩]

theorem Hyp.up (_h : Hyp C n ops sps e0 us0 S H0) {i : Nat} (hi : i ≤ ops.size) {u : Un} (hu : u ∈ UAt ops.toList sps us0 i) : u ∈ UAt ops.toList sps us0 ops.size := by
  obtain ⟨pre, hp⟩ := UAt_suffix (ops := ops.toList) (sps := sps) (us0 := us0) i (ops.size - i)
  rw [show i + (ops.size - i) = ops.size by omega] at hp
  rw [hp]; exact List.mem_append_right _ hu
/-- The slot's value is there, and is not stored into. -/
def Good (ops : Array Oper) (S : List Nat) (listed : Array Bool) (t : Nat) : Prop := (∃ (k : Nat) (ok : Oper), Lst listed k ∧ ops[k]? = some ok ∧ ok.dst = some t) ∧ t ∉ S
theorem Hyp.good_deps (h : Hyp C n ops sps e0 us0 S H0) {listed : Array Bool} {a : Act} {w : World} {ea : Env} {Bs : Nat → List Blk} (I : Inv C n ds ops sps e0 us0 H0 listed a w ea Bs)
    {u : Un} {j : Nat} {oj : Oper} (hj : Lst listed j) (hoj : ops[j]? = some oj) (hsj : sps[j]? = some (Sp.new u.deps u.R u.deps' u.R')) : ∀ t ∈ u.deps, Good ops S listed t := by
  intro t ht
  obtain ⟨_, _, hS, _, _, hdep, _⟩ := h.ob j oj _ hoj hsj
  obtain ⟨hl, u', hu', rfl⟩ := hdep t ht
  refine ⟨?_, hS u' hu' hl⟩
  rcases UAt_mem hu' with hu0 | ⟨k, ok, hk, hok, _, hd⟩
  · exact absurd hl (h.ps.look j oj hoj u'.slot (List.mem_map.2 ⟨u', hu0, rfl⟩))
  · rw [h.listGet] at hok
    exact ⟨k, ok, I.down j k hj (h.ps.before j k oj ok u'.slot hoj hok hd hl hk), hok, hd⟩
theorem Hyp.sel_good (h : Hyp C n ops sps e0 us0 S H0) {listed : Array Bool} {a : Act} {w : World} {ea : Env} {Bs : Nat → List Blk} (I : Inv C n ds ops sps e0 us0 H0 listed a w ea Bs) :
    ∀ {us : List Un} {ts : List Nat}, (∀ u ∈ us, u ∈ UAt ops.toList sps us0 ops.size) → (∀ t ∈ ts, (∃ u ∈ us, u.slot = t) → Good ops S listed t) → ∀ u ∈ selL ts us, Good ops S listed u.slot
  | [], _, _, _, u, hu => by cases hu
  | x :: us, ts, hT, hts, u, hu => by
    unfold selL at hu
    have hT' : ∀ u ∈ us, u ∈ UAt ops.toList sps us0 ops.size := fun u hu => hT u (List.mem_cons_of_mem _ hu)
    split at hu
    · rename_i hx
      have hg := hts x.slot hx ⟨x, List.mem_cons_self .., rfl⟩
      rcases List.mem_cons.1 hu with rfl | hu
      · exact hg
      · refine h.sel_good I hT' (fun t ht hex => ?_) u hu
        rcases List.mem_append.1 ht with ht | ht
        · exact hts t ht (by obtain ⟨y, hy, he⟩ := hex; exact ⟨y, List.mem_cons_of_mem _ hy, he⟩)
        · obtain ⟨⟨k, ok, hk, hok, hd⟩, _⟩ := hg
          rcases UAt_mem (hT x (List.mem_cons_self ..)) with hx0 | ⟨j, oj, _, hoj, hsj, hdj⟩
          · exact absurd (List.mem_map.2 ⟨x, hx0, rfl⟩) (h.ps.us0 k ok x.slot hok hd)
          · rw [h.listGet] at hoj
            have := h.ps.uniq j k oj ok x.slot hoj hok hdj hd
            subst this
            exact h.good_deps I hk hoj hsj t ht
    · exact h.sel_good I hT' (fun t ht hex => hts t ht (by obtain ⟨y, hy, he⟩ := hex; exact ⟨y, List.mem_cons_of_mem _ hy, he⟩)) u hu
theorem Hyp.opened (h : Hyp C n ops sps e0 us0 S H0) {listed : Array Bool} {a : Act} {w : World} {ea : Env} {Bs : Nat → List Blk} (I : Inv C n ds ops sps e0 us0 H0 listed a w ea Bs)
    {i : Nat} {o : Oper} (ho : ops[i]? = some o) (hpre : ∀ k, edge ops i k = true → Lst listed k) (hS : ∀ u ∈ UAt ops.toList sps us0 i, u.slot ∈ o.looksAt ops → u.slot ∉ S) :
    ∀ u ∈ selL (o.looksAt ops) (UAt ops.toList sps us0 i), u.R ea (ea u.slot) (Bs u.slot) := by
  intro u hu
  have hi : i ≤ ops.size := Nat.le_of_lt (Array.getElem?_eq_some_iff.1 ho).1
  have hg : Good ops S listed u.slot := by
    refine h.sel_good I (fun u hu => h.up hi hu) (fun t ht hex => ?_) u hu
    obtain ⟨u', hu', rfl⟩ := hex
    refine ⟨?_, hS u' hu' ht⟩
    rcases UAt_mem hu' with hu0 | ⟨k, ok, hk, hok, _, hd⟩
    · exact absurd ht (h.ps.look i o ho u'.slot (List.mem_map.2 ⟨u', hu0, rfl⟩))
    · rw [h.listGet] at hok
      exact ⟨k, ok, hpre k (h.ps.before i k o ok u'.slot ho hok hd ht hk), hok, hd⟩
  obtain ⟨⟨k, ok, hk, hok, hd⟩, hnS⟩ := hg
  refine (I.opn u (h.up hi ((selL_sub _ _).mem hu)) (.inr ⟨k, ok, hk, hok, hd⟩)).2 ?_
  rintro ⟨k, _, hk⟩
  have hk' : k < ops.size := by rw [← h.len]; exact (List.getElem?_eq_some_iff.1 hk).1
  exact hnS (h.ob k ops[k] _ (Array.getElem?_eq_getElem hk') hk).2.2.1.1
theorem Hyp.depsOk (h : Hyp C n ops sps e0 us0 S H0) : ∀ i, i ≤ ops.size → DepsOk (UAt ops.toList sps us0 i) := by
  have h0 : ∀ l : List Un, (∀ u ∈ l, u.deps = [] ∧ Cong [] u.R ∧ Cong u.deps' u.R') → DepsOk l := by
    intro l
    induction l with
    | nil => intro _; trivial
    | cons u l ih =>
      intro hl
      obtain ⟨h1, h2, h3⟩ := hl u (List.mem_cons_self ..)
      exact ⟨⟨fun t ht => (by rw [h1] at ht; cases ht), by rw [h1]; exact h2⟩, ih fun u' hu' => hl u' (List.mem_cons_of_mem _ hu')⟩
  intro i
  induction i with
  | zero => intro _; exact h0 us0 h.dep0
  | succ i ih =>
    intro hi
    have ih := ih (by omega)
    have hs : i < sps.length := by rw [h.len]; omega
    have ho : ops[i]? = some ops[i] := Array.getElem?_eq_getElem (by omega)
    have hsp : sps[i]? = some sps[i] := List.getElem?_eq_getElem hs
    simp only [UAt, h.listGet, ho, hsp]
    unfold nextU
    split
    · rename_i deps R deps' R' d hspe hd
      rw [hspe] at hsp
      obtain ⟨_, _, _, _, _, hdep, hc, hc'⟩ := h.ob i _ _ ho hsp
      exact ⟨⟨fun t ht => (hdep t ht).2, hc⟩, ih⟩
    · exact ih
theorem Hyp.dep_cong (h : Hyp C n ops sps e0 us0 S H0) {u : Un} (hu : u ∈ UAt ops.toList sps us0 ops.size) : Cong u.deps u.R ∧ Cong u.deps' u.R' := by
  rcases UAt_mem hu with hu0 | ⟨j, o, _, ho, hs, _⟩
  · obtain ⟨h1, h2, h3⟩ := h.dep0 u hu0
    rw [h1]; exact ⟨h2, h3⟩
  · rw [h.listGet] at ho
    obtain ⟨_, _, _, _, _, _, hc, hc'⟩ := h.ob j o _ ho hs
    exact ⟨hc, hc'⟩
/-- What a stored block's content leans on was there before the store. -/
theorem Hyp.st_deps (h : Hyp C n ops sps e0 us0 S H0) {listed : Array Bool} {a : Act} {w : World} {ea : Env} {Bs : Nat → List Blk} (I : Inv C n ds ops sps e0 us0 H0 listed a w ea Bs)
    {u : Un} (hu : u ∈ UAt ops.toList sps us0 ops.size) (hs : Stored sps listed u.slot) : ∀ t ∈ u.deps', ∃ (k : Nat) (ok : Oper), Lst listed k ∧ ops[k]? = some ok ∧ ok.dst = some t := by
  intro t ht
  obtain ⟨j, hj, hsj⟩ := hs
  have hjs : j < ops.size := by rw [← h.len]; exact (List.getElem?_eq_some_iff.1 hsj).1
  have hoj := Array.getElem?_eq_getElem hjs
  obtain ⟨_, _, _, ⟨u', hu', hus, _, hdp, _⟩, _⟩ := h.ob j ops[j] _ hoj hsj
  have huu := h.slot_inj hu (h.up (Nat.le_of_lt hjs) hu') hus.symm
  subst huu
  obtain ⟨hl, _, x, hx, rfl⟩ := hdp t ht
  rcases UAt_mem hx with hx0 | ⟨k, ok, hk, hok, _, hd⟩
  · exact absurd hl (h.ps.look j _ hoj x.slot (List.mem_map.2 ⟨x, hx0, rfl⟩))
  · rw [h.listGet] at hok
    exact ⟨k, ok, I.down j k hj (h.ps.before j k _ ok x.slot hoj hok hd hl hk), hok, hd⟩

theorem below_mem {listed : Array Bool} {a : Act} {w : World} {ea : Env} {Bs : Nat → List Blk} (I : Inv C n ds ops sps e0 us0 H0 listed a w ea Bs)
    {i : Nat} (hi : i ≤ ops.size) (ts : List Nat) : St C (selH Bs (selL ts (UAt ops.toList sps us0 i)) H0) w := by
  refine ⟨I.below, selH_ok ?_, I.marks⟩
  obtain ⟨pre, hp⟩ := UAt_suffix (ops := ops.toList) (sps := sps) (us0 := us0) i (ops.size - i)
  rw [show i + (ops.size - i) = ops.size by omega] at hp
  have := I.mem
  rw [hp, List.flatMap_append, List.append_assoc] at this
  exact this.sub (List.sublist_append_right _ _)

theorem flatMap_set {Bs Bs' : Nat → List Blk} {d : Nat} {Hn : List Blk} (hd : Bs d = []) (hd' : Bs' d = Hn) (ho : ∀ t, t ≠ d → Bs' t = Bs t) :
    ∀ {T : List Un}, (T.map (·.slot)).Nodup → (∃ u ∈ T, u.slot = d) → (T.flatMap fun u => Bs' u.slot).Perm (Hn ++ T.flatMap fun u => Bs u.slot)
  | [], _, h => by obtain ⟨u, hu, _⟩ := h; cases hu
  | u :: T, hn, h => by
    simp only [List.map_cons, List.nodup_cons] at hn
    rw [List.flatMap_cons, List.flatMap_cons]
    by_cases hu : u.slot = d
    · have hT : (T.flatMap fun u => Bs' u.slot) = T.flatMap fun u => Bs u.slot := by
        have : ∀ l : List Un, (∀ x ∈ l, x.slot ≠ d) → (l.flatMap fun u => Bs' u.slot) = l.flatMap fun u => Bs u.slot := by
          intro l
          induction l with
          | nil => intro _; rfl
          | cons x l ih => intro hl; rw [List.flatMap_cons, List.flatMap_cons, ho _ (hl x (List.mem_cons_self ..)), ih fun y hy => hl y (List.mem_cons_of_mem _ hy)]
        exact this T fun x hx he => hn.1 (List.mem_map.2 ⟨x, hx, by rw [he, hu]⟩)
      rw [hT, hu, hd, hd', List.nil_append]
    · have hT := flatMap_set hd hd' ho hn.2 (by
        obtain ⟨x, hx, hxe⟩ := h
        rcases List.mem_cons.1 hx with rfl | hx
        · exact absurd hxe hu
        · exact ⟨x, hx, hxe⟩)
      rw [ho _ hu]
      exact (hT.append_left _).trans (List.perm_append_comm_assoc ..)

theorem looks_of {o : Oper} {d : Nat} (h : ((o.looksAt ops).contains d || ops.all fun o' => o'.dst != some d) = true) {j : Nat} {oj : Oper} (hj : ops[j]? = some oj) (hd : oj.dst = some d) : d ∈ o.looksAt ops := by
  simp only [Bool.or_eq_true] at h
  rcases h with h | h
  · simpa using h
  · rw [Array.all_eq_true] at h
    have hlt := (Array.getElem?_eq_some_iff.1 hj).1
    have := h j hlt
    rw [(Array.getElem?_eq_some_iff.1 hj).2, hd] at this
    simp at this

/-- One operation more. -/
theorem Hyp.more (h : Hyp C n ops sps e0 us0 S H0) {listed : Array Bool} {a : Act} {w w' : World} {ea : Env} {Bs Bs' : Nat → List Blk} (I : Inv C n ds ops sps e0 us0 H0 listed a w ea Bs)
    {i : Nat} {o : Oper} {sp : Sp} (ho : ops[i]? = some o) (hs : sps[i]? = some sp) (hni : ¬ Lst listed i) (hpre : ∀ k, edge ops i k = true → Lst listed k) (v : Value)
    (hdet : ∀ c, sp = .det c → v = c) (hskip : sp = .skip → v = undef)
    (hmem : HOk C.w0.heap.size w' ((UAt ops.toList sps us0 ops.size).flatMap (fun u => Bs' u.slot) ++ H0)) (hbel : Below C.w0.heap.size C.w0 w') (hmk : Mk (C.ds ++ C.out) C.w0.heap.size w')
    (hnew : ∀ deps R deps' R' d, sp = .new deps R deps' R' → o.dst = some d → R (updo ea o.dst v) v (Bs' d)) (hst : ∀ d, sp = .st d → ∀ u ∈ UAt ops.toList sps us0 ops.size, u.slot = d → u.R' (updo ea o.dst v) (ea d) (Bs' d))
    (hB : ∀ t, (∀ deps R deps' R', sp = .new deps R deps' R' → o.dst ≠ some t) → sp ≠ .st t → Bs' t = Bs t) :
    Inv C n ds ops sps e0 us0 H0 (listed.setIfInBounds i true) (a.put o.dst v) w' (updo ea o.dst v) Bs' := by
  have hi : i < ops.size := (Array.getElem?_eq_some_iff.1 ho).1
  have hil : i < listed.size := by rw [I.sz]; exact hi
  have hv : ∀ t, o.dst ≠ some t → updo ea o.dst v t = ea t := fun t ht => by
    cases hd : o.dst with
    | none => rfl
    | some d => exact upd_ne ea v (fun e => ht (by rw [hd, e]))
  have hvd : ∀ t, o.dst = some t → updo ea o.dst v t = v := fun t ht => by rw [ht]; exact upd_same ea t v
  have hsl : ∀ (j : Nat) (oj : Oper) (d : Nat), Lst listed j → ops[j]? = some oj → oj.dst = some d → o.dst ≠ some d := fun j oj d hj hoj hd hd' => by
    have := h.ps.uniq i j o oj d ho hoj hd' hd
    subst this; exact hni hj
  refine ⟨I.rep.put o.dst (h.dok i o ho).1, by simp [I.sz], ?_, ?_, ?_, ?_, ?_, ?_, hmem, hbel, hmk⟩
  · intro j k hj he
    rw [lst_set hil] at hj ⊢
    rcases hj with rfl | hj
    · exact .inr (hpre k he)
    · exact .inr (I.down j k hj he)
  · intro j oj c d hj hoj hsj hd
    rw [lst_set hil] at hj
    rcases hj with rfl | hj
    · rw [ho] at hoj; cases hoj
      rw [hs] at hsj; cases hsj
      rw [hvd d hd]; exact hdet c rfl
    · rw [hv d (hsl j oj d hj hoj hd)]; exact I.det j oj c d hj hoj hsj hd
  · intro j oj d hj hoj hsj hd
    rw [lst_set hil] at hj
    rcases hj with rfl | hj
    · rw [ho] at hoj; cases hoj
      rw [hs] at hsj; cases hsj
      rw [hvd d hd]; exact hskip rfl
    · rw [hv d (hsl j oj d hj hoj hd)]; exact I.skp j oj d hj hoj hsj hd
  · intro u hu hp
    by_cases hnewi : ∃ deps R deps' R', sp = .new deps R deps' R' ∧ o.dst = some u.slot
    · obtain ⟨deps, R, deps', R', hsp, hd⟩ := hnewi
      subst hsp
      have hue : u = ⟨u.slot, deps, R, deps', R'⟩ := h.slot_inj hu (mem_UAt (by rw [h.listGet]; exact ho) hs hd ops.size hi) rfl
      have hR : u.R (updo ea o.dst v) v (Bs' u.slot) := by rw [hue]; exact hnew deps R deps' R' u.slot rfl hd
      rw [hvd _ hd]
      obtain ⟨d', hd', hS⟩ := h.spec_new ho hs
      have hdd : d' = u.slot := by rw [hd] at hd'; cases hd'; rfl
      refine ⟨fun ⟨k, hk, hsk⟩ => ?_, fun _ => hR⟩
      rw [lst_set hil] at hk
      rcases hk with rfl | hk
      · rw [hs] at hsk; cases hsk
      · -- a store before its slot is made: its operation looks at no such slot unless it is there
        have hkk : k < ops.size := by rw [← h.len]; exact (List.getElem?_eq_some_iff.1 hsk).1
        have hok := Array.getElem?_eq_getElem hkk
        obtain ⟨_, _, ⟨_, hlk⟩, ⟨u', hu', hus, _⟩, _⟩ := h.ob k ops[k] _ hok hsk
        rcases UAt_mem hu' with hu0 | ⟨j, oj, hj, hoj, _, hdj⟩
        · exact absurd (List.mem_map.2 ⟨u', hu0, hus⟩) (h.ps.us0 i o u.slot ho hd)
        · rw [h.listGet] at hoj
          have hij := h.ps.uniq i j o oj u.slot ho hoj hd (by rw [hdj, hus])
          subst hij
          exact absurd (I.down k i hk (h.ps.before k i _ o u.slot hok ho hd (looks_of hlk ho hd) hj)) hni
    · have hd : o.dst ≠ some u.slot := fun hd => by
        rcases UAt_mem hu with hu0 | ⟨j, oj, hj, hoj, hsj, hdj⟩
        · exact h.ps.us0 i o u.slot ho hd (List.mem_map.2 ⟨u, hu0, rfl⟩)
        · rw [h.listGet] at hoj
          have hij := h.ps.uniq i j o oj u.slot ho hoj hd hdj
          subst hij
          rw [hs] at hsj; cases hsj
          exact hnewi ⟨_, _, _, _, rfl, hd⟩
      have hp' : Pres ops us0 listed u.slot := by
        rcases hp with hp | ⟨j, oj, hj, hoj, hdj⟩
        · exact .inl hp
        · rw [lst_set hil] at hj
          rcases hj with rfl | hj
          · rw [ho] at hoj; cases hoj; exact absurd hdj hd
          · exact .inr ⟨j, oj, hj, hoj, hdj⟩
      have hag : ∀ t ∈ u.deps, ea t = updo ea o.dst v t := fun t ht => by
        refine (hv t fun hdt => ?_).symm
        rcases UAt_mem hu with hu0 | ⟨j, oj, _, hoj, hsj, hdj⟩
        · rw [(h.dep0 u hu0).1] at ht; cases ht
        · rw [h.listGet] at hoj
          have hLj : Lst listed j := by
            rcases hp' with ⟨u', hu', he⟩ | ⟨k, ok, hk, hok, hdk⟩
            · exact absurd (List.mem_map.2 ⟨u', hu', he⟩) (h.ps.us0 j oj u.slot hoj hdj)
            · rw [h.ps.uniq j k oj ok u.slot hoj hok hdj hdk]; exact hk
          obtain ⟨⟨k, ok, hk, hok, hdk⟩, _⟩ := h.good_deps I hLj hoj hsj t ht
          have := h.ps.uniq i k o ok t ho hok hdt hdk
          subst this; exact hni hk
      obtain ⟨hcR, hcR'⟩ := h.dep_cong hu
      rw [hv _ hd]
      by_cases hsti : sp = .st u.slot
      · subst hsti
        refine ⟨fun _ => hst u.slot rfl u hu rfl, fun hn => absurd ⟨i, (lst_set hil).2 (.inl rfl), hs⟩ hn⟩
      · rw [hB u.slot (fun deps R deps' R' e he => hd he) hsti]
        have hiff : Stored sps (listed.setIfInBounds i true) u.slot ↔ Stored sps listed u.slot := by
          constructor
          · rintro ⟨k, hk, hsk⟩
            rw [lst_set hil] at hk
            rcases hk with rfl | hk
            · rw [hs] at hsk; cases hsk; exact absurd rfl hsti
            · exact ⟨k, hk, hsk⟩
          · rintro ⟨k, hk, hsk⟩; exact ⟨k, (lst_set hil).2 (.inr hk), hsk⟩
        rw [hiff]
        exact ⟨fun hs => hcR' ea _ (fun t ht => (hv t fun hdt => by
          obtain ⟨k, ok, hk, hok, hdk⟩ := h.st_deps I hu hs t ht
          have := h.ps.uniq i k o ok t ho hok hdt hdk
          subst this; exact hni hk).symm) _ _ ((I.opn u hu hp').1 hs), fun hs => hcR ea _ hag _ _ ((I.opn u hu hp').2 hs)⟩
  · intro u hu hp
    have hp' : ¬ Pres ops us0 listed u.slot := fun hp' => hp (by
      rcases hp' with hp' | ⟨j, oj, hj, r⟩
      · exact .inl hp'
      · exact .inr ⟨j, oj, (lst_set hil).2 (.inr hj), r⟩)
    rw [hB u.slot (fun deps R deps' R' _ he => hp (.inr ⟨i, o, (lst_set hil).2 (.inl rfl), ho, he⟩)) (fun hsti => by
      subst hsti
      obtain ⟨_, _, ⟨_, hlk⟩, ⟨u', hu', hus, _⟩, _⟩ := h.ob i o _ ho hs
      rcases UAt_mem hu' with hu0 | ⟨j, oj, hj, hoj, _, hdj⟩
      · exact hp (.inl ⟨u', hu0, hus⟩)
      · rw [h.listGet] at hoj
        exact hp (.inr ⟨j, oj, (lst_set hil).2 (.inr (hpre j (h.ps.before i j o oj u.slot ho hoj (by rw [hdj, hus]) (looks_of hlk hoj (by rw [hdj, hus])) hj))), hoj, by rw [hdj, hus]⟩))]
    exact I.absn u hu hp'
  · intro t ht
    have hd : o.dst ≠ some t := ht i o ((lst_set hil).2 (.inl rfl)) ho
    rw [hv t hd]
    exact I.unt t fun j oj hj hoj => ht j oj ((lst_set hil).2 (.inr hj)) hoj
end
end Go.Eng
