/- Why a region whose order is open may be walked so. No project text. -/
import Derived.Test.YthkimgfgpphgnaaEng2
namespace Go.Eng
open Go.RowKit

theorem HOk.perm {N : Nat} {w : World} {H H' : List Blk} (h : HOk N w H) (p : H'.Perm H) : HOk N w H' :=
  ⟨fun x hx => h.mem x (p.mem_iff.1 hx), (p.map Prod.fst).nodup_iff.2 h.nodup, fun x hx => h.kind x (p.mem_iff.1 hx)⟩
theorem St.perm {C : Ctx} {w : World} {H H' : List Blk} (h : St C H w) (p : H'.Perm H) : St C H' w := ⟨h.1, h.2.perm p, h.3⟩
theorem St.sub {C : Ctx} {w : World} {H H' : List Blk} (h : St C H w) (p : H'.Sublist H) : St C H' w := ⟨h.1, h.2.sub p, h.3⟩

/-- The entries that are met. -/
def selL (ts : List Nat) : List Un → List Un
  | [] => []
  | u :: us => if u.slot ∈ ts then u :: selL (ts ++ u.deps) us else selL ts us
def selE (ea : Env) : List Un → Env → Env
  | [], e => e
  | u :: us, e => upd (selE ea us e) u.slot (ea u.slot)
def selH (Bs : Nat → List Blk) (us : List Un) (H : List Blk) : List Blk := us.flatMap (fun u => Bs u.slot) ++ H
def DepsOk : List Un → Prop
  | [] => True
  | u :: us => ((∀ t ∈ u.deps, ∃ u' ∈ us, u'.slot = t) ∧ Cong u.deps u.R) ∧ DepsOk us

theorem selL_sub (ts : List Nat) : ∀ us, (selL ts us).Sublist us
  | [] => List.Sublist.refl _
  | u :: us => by
    unfold selL
    split
    · exact (selL_sub _ us).cons_cons u
    · exact (selL_sub _ us).cons u
theorem selL_mem {t : Nat} : ∀ {ts : List Nat} {us : List Un}, t ∈ ts → (∃ u ∈ us, u.slot = t) → ∃ u ∈ selL ts us, u.slot = t
  | _, [], _, h => by obtain ⟨u, hu, _⟩ := h; cases hu
  | ts, u :: us, ht, h => by
    unfold selL
    by_cases hu : u.slot = t
    · rw [if_pos (by rw [hu]; exact ht)]; exact ⟨u, List.mem_cons_self .., hu⟩
    · have h' : ∃ u ∈ us, u.slot = t := by
        obtain ⟨u', hu', e'⟩ := h
        rcases List.mem_cons.1 hu' with rfl | hm
        · exact absurd e' hu
        · exact ⟨u', hm, e'⟩
      split
      · obtain ⟨x, hx, he⟩ := selL_mem (ts := ts ++ u.deps) (List.mem_append_left _ ht) h'
        exact ⟨x, List.mem_cons_of_mem _ hx, he⟩
      · exact selL_mem ht h'
theorem selE_same {ea : Env} : ∀ {us : List Un} {e : Env} {t : Nat}, e t = ea t → selE ea us e t = ea t
  | [], _, _, h => h
  | u :: us, e, t, h => by
    unfold selE
    by_cases ht : t = u.slot
    · subst ht; rw [upd_same]
    · rw [upd_ne _ _ ht]; exact selE_same h
theorem selE_in {ea : Env} : ∀ {us : List Un} {e : Env} {t : Nat}, (∃ u ∈ us, u.slot = t) → selE ea us e t = ea t
  | [], _, _, h => by obtain ⟨u, hu, _⟩ := h; cases hu
  | u :: us, e, t, h => by
    unfold selE
    by_cases ht : t = u.slot
    · subst ht; rw [upd_same]
    · rw [upd_ne _ _ ht]
      refine selE_in ?_
      obtain ⟨u', hu', e'⟩ := h
      rcases List.mem_cons.1 hu' with rfl | hm
      · exact absurd e'.symm ht
      · exact ⟨u', hm, e'⟩
theorem selE_out {ea : Env} : ∀ {us : List Un} {e : Env} {t : Nat}, (∀ u ∈ us, u.slot ≠ t) → selE ea us e t = e t
  | [], _, _, _ => rfl
  | u :: us, e, t, h => by
    unfold selE
    rw [upd_ne _ _ (Ne.symm (h u (List.mem_cons_self ..)))]
    exact selE_out fun u' hu' => h u' (List.mem_cons_of_mem _ hu')
theorem selH_ok {ts : List Nat} {Bs : Nat → List Blk} {N : Nat} {w : World} {us : List Un} {H : List Blk} (h : HOk N w (us.flatMap (fun u => Bs u.slot) ++ H)) : HOk N w (selH Bs (selL ts us) H) :=
  h.sub (List.Sublist.append_right (flatMap_sub _ (selL_sub ts us)) _)
where flatMap_sub {α β : Type} (f : α → List β) : ∀ {l l' : List α}, l.Sublist l' → (l.flatMap f).Sublist (l'.flatMap f)
  | _, _, .slnil => List.Sublist.refl _
  | _, _, .cons a h => by rw [List.flatMap_cons]; exact (flatMap_sub f h).trans (List.sublist_append_right _ _)
  | _, _, .cons_cons a h => by rw [List.flatMap_cons, List.flatMap_cons]; exact (List.Sublist.append_left (flatMap_sub f h) _)

def allH (Bs : Nat → List Blk) : List Un → List Blk → List Blk
  | [], H => H
  | u :: us, H => allH Bs us (Bs u.slot ++ H)
def allE (ea : Env) : List Un → Env → Env
  | [], e => e
  | u :: us, e => allE ea us (upd e u.slot (ea u.slot))
theorem allH_ok {Bs : Nat → List Blk} {N : Nat} {w : World} : ∀ {us : List Un} {H : List Blk}, HOk N w (us.flatMap (fun u => Bs u.slot) ++ H) → HOk N w (allH Bs us H)
  | [], _, h => h
  | u :: us, H, h => allH_ok (us := us) (h.perm (by
      rw [List.flatMap_cons, List.append_assoc]
      exact (List.perm_append_comm_assoc ..)))
theorem allE_same {ea : Env} : ∀ {us : List Un} {e : Env} {t : Nat}, e t = ea t → allE ea us e t = ea t
  | [], _, _, h => h
  | u :: us, e, t, h => by
    refine allE_same (us := us) ?_
    by_cases ht : t = u.slot
    · subst ht; rw [upd_same]
    · rw [upd_ne _ _ ht]; exact h
theorem allE_in {ea : Env} : ∀ {us : List Un} {e : Env} {t : Nat}, (∃ u ∈ us, u.slot = t) → allE ea us e t = ea t
  | [], _, _, h => by obtain ⟨u, hu, _⟩ := h; cases hu
  | u :: us, e, t, h => by
    by_cases hu : u.slot = t
    · exact allE_same (us := us) (by rw [← hu, upd_same])
    · refine allE_in (us := us) ?_
      obtain ⟨u', hu', e'⟩ := h
      rcases List.mem_cons.1 hu' with rfl | hm
      · exact absurd e' hu
      · exact ⟨u', hm, e'⟩
theorem Over_use {ea : Env} {Bs : Nat → List Blk} : ∀ {us : List Un} {ts : List Nat} {K : Env → List Blk → Prop} {e : Env} {H : List Blk}, Over ts K us e H → DepsOk us →
    (∀ u ∈ selL ts us, u.R ea (ea u.slot) (Bs u.slot)) → K (selE ea (selL ts us) e) (selH Bs (selL ts us) H)
  | [], _, _, _, _, h, _, _ => h
  | u :: us, ts, K, e, H, h, hd, hR => by
    unfold selL at hR ⊢
    by_cases hu : u.slot ∈ ts
    · rw [if_pos hu] at hR ⊢
      have ih := Over_use (h.1 hu) hd.2 fun u' hu' => hR u' (List.mem_cons_of_mem _ hu')
      have := ih (ea u.slot) (Bs u.slot) (hd.1.2 ea _ (fun t ht => (selE_in (selL_mem (List.mem_append_right _ ht) (hd.1.1 t ht))).symm) _ _ (hR u (List.mem_cons_self ..)))
      simpa [selE, selH] using this
    · rw [if_neg hu] at hR ⊢
      exact Over_use (h.2 hu) hd.2 hR
theorem OverAll_use {ea : Env} {Bs : Nat → List Blk} {K : Env → List Blk → Prop} : ∀ {us : List Un} {G : Env → Prop} {e : Env} {H : List Blk}, OverAll K G us e H → G ea →
    (∀ u ∈ us, u.R' ea (ea u.slot) (Bs u.slot)) → (allE ea us e = ea) → K ea (allH Bs us H)
  | [], _, _, _, h, hG, _, he => by
    have he' := he
    simp only [allE] at he'
    subst he'
    exact h hG
  | u :: us, G, e, H, h, hG, hR, he => OverAll_use (us := us) (h (ea u.slot) (Bs u.slot)) ⟨hG, hR u (List.mem_cons_self ..)⟩ (fun u' hu' => hR u' (List.mem_cons_of_mem _ hu')) he

theorem countP_lt {p p' : Nat → Bool} : ∀ {l : List Nat} {x : Nat}, x ∈ l → p x = true → p' x = false → (∀ y, p' y = true → p y = true) → l.countP p' < l.countP p
  | [], _, h, _, _, _ => by cases h
  | y :: l, x, h, h1, h2, h3 => by
    have hle : l.countP p' ≤ l.countP p := List.countP_mono_left fun z _ hz => h3 z hz
    rw [List.countP_cons, List.countP_cons]
    rcases List.mem_cons.1 h with rfl | hm
    · simp only [h1, h2, if_true, Bool.false_eq_true, if_false]; omega
    · have ih := countP_lt hm h1 h2 h3
      cases hy : p' y with
      | true => simp only [h3 y hy, if_true]; omega
      | false => simp only [Bool.false_eq_true, if_false]; omega

section
variable {ops : List Oper} {sps : List Sp} {e0 : Env} {us0 : List Un}

theorem UAt_suffix (i : Nat) : ∀ k, ∃ pre, UAt ops sps us0 (i + k) = pre ++ UAt ops sps us0 i
  | 0 => ⟨[], rfl⟩
  | k + 1 => by
    obtain ⟨pre, h⟩ := UAt_suffix i k
    show ∃ pre', (match ops[i + k]?, sps[i + k]? with | some o, some sp => nextU o sp (UAt ops sps us0 (i + k)) | _, _ => UAt ops sps us0 (i + k)) = pre' ++ _
    split
    · unfold nextU
      split
      · rename_i deps R deps' R' d _ _
        exact ⟨⟨d, deps, R, deps', R'⟩ :: pre, by rw [h]; rfl⟩
      · exact ⟨pre, h⟩
    · exact ⟨pre, h⟩
theorem UAt_mem {u : Un} : ∀ {i : Nat}, u ∈ UAt ops sps us0 i → u ∈ us0 ∨ ∃ (j : Nat) (o : Oper), j < i ∧ ops[j]? = some o ∧ sps[j]? = some (Sp.new u.deps u.R u.deps' u.R') ∧ o.dst = some u.slot
  | 0, h => .inl h
  | i + 1, h => by
    have h' : u ∈ (match ops[i]?, sps[i]? with | some o, some sp => nextU o sp (UAt ops sps us0 i) | _, _ => UAt ops sps us0 i) := h
    have up : u ∈ UAt ops sps us0 i → u ∈ us0 ∨ ∃ (j : Nat) (o : Oper), j < i + 1 ∧ ops[j]? = some o ∧ sps[j]? = some (Sp.new u.deps u.R u.deps' u.R') ∧ o.dst = some u.slot := fun hm => by
      rcases UAt_mem hm with h | ⟨j, o, hj, r⟩
      · exact .inl h
      · exact .inr ⟨j, o, by omega, r⟩
    split at h'
    · rename_i o sp ho hs
      unfold nextU at h'
      split at h'
      · rename_i deps R deps' R' d hd
        rcases List.mem_cons.1 h' with rfl | hm
        · exact .inr ⟨i, o, by omega, ho, hs, hd⟩
        · exact up hm
      · exact up h'
    · exact up h'
theorem mem_UAt {j : Nat} {o : Oper} {deps deps' : List Nat} {R R' : Env → Value → List Blk → Prop} {d : Nat} (ho : ops[j]? = some o) (hs : sps[j]? = some (Sp.new deps R deps' R')) (hd : o.dst = some d) :
    ∀ i, j < i → (⟨d, deps, R, deps', R'⟩ : Un) ∈ UAt ops sps us0 i := fun i hi => by
  obtain ⟨pre, h⟩ := UAt_suffix (ops := ops) (sps := sps) (us0 := us0) (j + 1) (i - (j + 1))
  rw [show j + 1 + (i - (j + 1)) = i by omega] at h
  rw [h]
  refine List.mem_append_right _ ?_
  show _ ∈ (match ops[j]?, sps[j]? with | some o, some sp => nextU o sp (UAt ops sps us0 j) | _, _ => UAt ops sps us0 j)
  rw [ho, hs]
  simp only [nextU, hd]
  exact List.mem_cons_self ..
theorem mem_UAt0 {u : Un} (h : u ∈ us0) (i : Nat) : u ∈ UAt ops sps us0 i := by
  obtain ⟨pre, h'⟩ := UAt_suffix (ops := ops) (sps := sps) (us0 := us0) 0 i
  rw [Nat.zero_add] at h'
  rw [h']
  exact List.mem_append_right _ h

theorem nextE_ne {o : Oper} {sp : Sp} {e : Env} {t : Nat} (h : o.dst ≠ some t) : nextE o sp e t = e t := by
  unfold nextE
  have key : ∀ v, updo e o.dst v t = e t := fun v => by
    cases hd : o.dst with
    | none => rfl
    | some d => exact upd_ne e v (fun ht => h (by rw [hd, ht]))
  split <;> first | exact key _ | rfl
theorem EAt_succ (i : Nat) : (∃ o sp, ops[i]? = some o ∧ sps[i]? = some sp ∧ EAt ops sps e0 (i + 1) = nextE o sp (EAt ops sps e0 i)) ∨ EAt ops sps e0 (i + 1) = EAt ops sps e0 i := by
  cases ho : ops[i]? with
  | none => exact .inr (by simp only [EAt, ho])
  | some o =>
    cases hs : sps[i]? with
    | none => exact .inr (by simp only [EAt, ho, hs])
    | some sp => exact .inl ⟨o, sp, rfl, rfl, by simp only [EAt, ho, hs]⟩
theorem EAt_out {t : Nat} : ∀ {i : Nat}, (∀ (j : Nat) (o : Oper), j < i → ops[j]? = some o → o.dst ≠ some t) → EAt ops sps e0 i t = e0 t
  | 0, _ => rfl
  | i + 1, h => by
    have ih := EAt_out (i := i) (t := t) fun j o hj => h j o (by omega)
    rcases EAt_succ (ops := ops) (sps := sps) (e0 := e0) i with ⟨o, sp, ho, _, he⟩ | he
    · rw [he, nextE_ne (h i o (by omega) ho)]; exact ih
    · rw [he]; exact ih
theorem EAt_at {t j : Nat} {o : Oper} {sp : Sp} (ho : ops[j]? = some o) (hs : sps[j]? = some sp)
    (hx : ∀ (k : Nat) (o' : Oper), j < k → ops[k]? = some o' → o'.dst ≠ some t) : ∀ k, EAt ops sps e0 (j + 1 + k) t = nextE o sp (EAt ops sps e0 j) t
  | 0 => by simp only [EAt, ho, hs]
  | k + 1 => by
    have ih := EAt_at ho hs hx k
    rcases EAt_succ (ops := ops) (sps := sps) (e0 := e0) (j + 1 + k) with ⟨o', sp', ho', _, he⟩ | he
    · rw [← Nat.add_assoc, he, nextE_ne (hx _ o' (by omega) ho')]; exact ih
    · rw [← Nat.add_assoc, he]; exact ih
end
end Go.Eng
