/- A region whose order is open: soundness, and the rule itself. No project text. -/
import Derived.Test.YthkimgfgpphgnaaEng4
namespace Go.Eng
open Go.RowKit
section
variable {C : Ctx} {F : Fence} {n : Nat} {ds : List Deferred} {ops : Array Oper} {sps : List Sp} {e0 : Env} {us0 : List Un} {S : List Nat} {H0 : List Blk} {Q : Exit → Env → List Blk → Prop}

theorem ready_mem {listed : Array Bool} {i : Nat} : i ∈ Region.ready .any ops listed ↔ i < ops.size ∧ listed.getD i true = false ∧ ∃ o, ops[i]? = some o ∧ ∀ e ∈ o.after, Region.binds .any e = true → listed.getD e.on false = true := by
  unfold Region.ready
  simp only [List.mem_filter, List.mem_range, Bool.and_eq_true, Bool.not_eq_true']
  constructor
  · rintro ⟨h1, h2, h3⟩
    refine ⟨h1, h2, ops[i], Array.getElem?_eq_getElem h1, ?_⟩
    rw [Array.getElem?_eq_getElem h1] at h3
    simp only [Option.map_some, Option.getD_some, Array.all_eq_true] at h3
    intro e he hb
    obtain ⟨k, hk, rfl⟩ := Array.mem_iff_getElem.1 he
    have := h3 k hk
    simpa [hb] using this
  · rintro ⟨h1, h2, o, ho, h3⟩
    refine ⟨h1, h2, ?_⟩
    rw [ho]
    simp only [Option.map_some, Option.getD_some, Array.all_eq_true]
    intro k hk
    by_cases hb : Region.binds .any o.after[k] = true
    · simp [h3 _ (Array.getElem_mem hk) hb]
    · simp [hb]

theorem edge_of_ready {listed : Array Bool} {i : Nat} (h : i ∈ Region.ready .any ops listed) : ∀ k, edge ops i k = true → Lst listed k := by
  obtain ⟨_, _, o, ho, h3⟩ := ready_mem.1 h
  intro k hk
  unfold edge at hk
  rw [ho] at hk
  simp only [Option.map_some, Option.getD_some, Array.any_eq_true, Bool.and_eq_true, beq_iff_eq] at hk
  obtain ⟨x, hx, he, hb⟩ := hk
  have := h3 _ (Array.getElem_mem hx) hb
  rw [he] at this
  exact this

theorem all_of_ready_nil (hp : ∀ (i k : Nat), edge ops i k = true → k < i) {listed : Array Bool} (hsz : listed.size = ops.size) (h : Region.ready .any ops listed = []) : ∀ i, i < ops.size → Lst listed i := by
  intro i
  induction i using Nat.strongRecOn with
  | _ i ih =>
    intro hi
    refine Classical.byContradiction fun hn => ?_
    have : i ∈ Region.ready .any ops listed := by
      refine ready_mem.2 ⟨hi, ?_, ops[i], Array.getElem?_eq_getElem hi, fun e he hb => ?_⟩
      · unfold Lst at hn
        rw [Array.getD_eq_getD_getElem?, Array.getElem?_eq_getElem (by omega)] at hn ⊢
        simpa using hn
      · have hed : edge ops i e.on = true := by
          unfold edge
          rw [Array.getElem?_eq_getElem hi]
          simp only [Option.map_some, Option.getD_some, Array.any_eq_true]
          obtain ⟨k, hk, rfl⟩ := Array.mem_iff_getElem.1 he
          exact ⟨k, hk, by simp [hb]⟩
        have hlt := hp i e.on hed
        exact ih e.on hlt (by omega)
    rw [h] at this
    cases this

structure HypS (us0 : List Un) (S : List Nat) : Prop where
  us0S : ∀ u ∈ us0, u.slot ∈ S

theorem Hyp.fin (h : Hyp C n ops sps e0 us0 S H0) (hS : HypS us0 S) (hf : OverAll (fun e H => Q .normal e H) (fun _ => True) (UAt ops.toList sps us0 ops.size) (EAt ops.toList sps e0 ops.size) H0)
    {listed : Array Bool} {a : Act} {w : World} {ea : Env} {Bs : Nat → List Blk} (I : Inv C n ds ops sps e0 us0 H0 listed a w ea Bs) (hall : ∀ i, i < ops.size → Lst listed i) : lift C n ds Q .normal a w := by
  have hT : ∀ u ∈ UAt ops.toList sps us0 ops.size, Pres ops us0 listed u.slot := fun u hu => by
    rcases UAt_mem hu with hu0 | ⟨j, o, hj, ho, _, hd⟩
    · exact .inl ⟨u, hu0, rfl⟩
    · rw [h.listGet] at ho; exact .inr ⟨j, o, hall j hj, ho, hd⟩
  have hR : ∀ u ∈ UAt ops.toList sps us0 ops.size, u.R' ea (ea u.slot) (Bs u.slot) := fun u hu => by
    have ho := I.opn u hu (hT u hu)
    by_cases hs : Stored sps listed u.slot
    · exact ho.1 hs
    · have hns : u.slot ∉ S := fun hm => by
        obtain ⟨i, hi⟩ := h.stS _ hm
        exact hs ⟨i, hall i (by rw [← h.len]; exact (List.getElem?_eq_some_iff.1 hi).1), hi⟩
      have hr := ho.2 hs
      rcases UAt_mem hu with hu0 | ⟨j, o, _, hoj, hsj, hd⟩
      · exact absurd (hS.us0S u hu0) hns
      · rw [h.listGet] at hoj
        obtain ⟨d, hd', he⟩ := h.spec_new hoj hsj
        rw [hd] at hd'; cases hd'
        rw [(he hns).1]; exact hr
  have he : allE ea (UAt ops.toList sps us0 ops.size) (EAt ops.toList sps e0 ops.size) = ea := by
    funext t
    by_cases hin : ∃ u ∈ UAt ops.toList sps us0 ops.size, u.slot = t
    · exact allE_in hin
    · refine allE_same ?_
      by_cases hex : ∃ (j : Nat) (oj : Oper), ops[j]? = some oj ∧ oj.dst = some t
      · obtain ⟨j, oj, hj, hd⟩ := hex
        have hjs := (Array.getElem?_eq_some_iff.1 hj).1
        have hsj : sps[j]? = some (sps[j]'(by rw [h.len]; exact hjs)) := List.getElem?_eq_getElem _
        have hE := EAt_at (ops := ops.toList) (sps := sps) (e0 := e0) (t := t) (by rw [h.listGet]; exact hj) hsj
          (fun k o' hk ho' hd' => by rw [h.listGet] at ho'; have := h.ps.uniq k j o' oj t ho' hj hd' hd; omega) (ops.size - (j + 1))
        rw [show j + 1 + (ops.size - (j + 1)) = ops.size by omega] at hE
        rw [hE]
        generalize sps[j]'_ = sp at hsj
        cases sp with
        | det c => rw [I.det j oj c t (hall j hjs) hj hsj hd]; simp only [nextE, hd, updo, upd_same]
        | skip => rw [I.skp j oj t (hall j hjs) hj hsj hd]; simp only [nextE, hd, updo, upd_same]
        | new deps R deps' R' => exact absurd ⟨⟨t, deps, R, deps', R'⟩, mem_UAt (by rw [h.listGet]; exact hj) hsj hd ops.size hjs, rfl⟩ hin
        | st d => have := (h.ob j oj _ hj hsj).1; rw [hd] at this; cases this
      · rw [I.unt t fun k ok _ hok hdk => hex ⟨k, ok, hok, hdk⟩, EAt_out fun k ok _ hok hdk => hex ⟨k, ok, by rw [h.listGet] at hok; exact hok, hdk⟩]
  exact ⟨ea, _, I.rep, ⟨I.below, allH_ok I.mem, I.marks⟩, OverAll_use (ea := ea) (Bs := Bs) hf trivial hR he⟩

theorem gd_congr {all : Array Oper} {e e' : Env} {o : Oper} (h : ∀ d ∈ gLooks all o, e d = e' d) : gdOf all e o = gdOf all e' o := by
  unfold gdOf
  unfold gLooks at h
  split
  · rfl
  · rename_i j want hg
    rw [hg] at h
    split
    · rename_i d hd
      simp only [hd, Option.toList_some, List.mem_singleton, forall_eq] at h
      rw [h]
    · rfl

theorem exec_congr {e e' : Env} {o : Oper} (hs : ∀ cs b, o.op ≠ .select cs b) (h : ∀ t ∈ o.looksAt ops, e t = e' t) : execOp (ev e) o = execOp (ev e') o := by
  refine execOp_congr o hs fun x hx => ?_
  cases x with
  | tmp t => exact h t (List.mem_append_left _ (List.mem_filterMap.2 ⟨.tmp t, by simpa using hx, rfl⟩))
  | const => rfl
  | global => rfl
  | func => rfl

theorem swap_ok {N : Nat} {w w' : World} {X Hn Hn' : List Blk} (hs : Swap Hn Hn' w w') (h : HOk N w (Hn ++ X)) : HOk N w' (Hn' ++ X) := by
  have hnd := h.nodup
  rw [List.map_append, List.nodup_append] at hnd
  refine ⟨fun x hx => ?_, ?_, fun x hx => (List.mem_append.1 hx).elim (hs.kind x) fun hx => h.kind x (List.mem_append_right _ hx)⟩
  · rcases List.mem_append.1 hx with hx | hx
    · refine ⟨?_, hs.mem x hx⟩
      have : x.1 ∈ Hn.map Prod.fst := by rw [← hs.names]; exact List.mem_map.2 ⟨x, hx, rfl⟩
      obtain ⟨y, hy, hye⟩ := List.mem_map.1 this
      rw [← hye]; exact (h.mem y (List.mem_append_left _ hy)).1
    · have hm := h.mem x (List.mem_append_right _ hx)
      refine ⟨hm.1, ?_⟩
      rw [hs.other x.1 fun hin => hnd.2.2 _ hin x.1 (List.mem_map.2 ⟨x, hx, rfl⟩) rfl]
      exact hm.2
  · rw [List.map_append, hs.names, ← List.map_append]; exact h.nodup
theorem swap_below {C : Ctx} {w w' : World} {X Hn Hn' : List Blk} (hs : Swap Hn Hn' w w') (h : HOk C.w0.heap.size w (Hn ++ X)) (hb : Below C.w0.heap.size C.w0 w) : Below C.w0.heap.size C.w0 w' :=
  hb.trans ⟨hs.os, hs.tape, hs.output, by rw [hs.size]; exact Nat.le_refl _, fun k hk => hs.other k fun hin => by
    obtain ⟨y, hy, rfl⟩ := List.mem_map.1 hin
    have := (h.mem y (List.mem_append_left _ hy)).1
    omega⟩

theorem swap_marks {N : Nat} {w w' : World} {X Hn Hn' : List Blk} {ds : List Deferred} (hs : Swap Hn Hn' w w') (h : HOk N w (Hn ++ X)) (hm : Mk ds N w) : Mk ds N w' := ⟨hm.1, fun d hd => by
  obtain ⟨D, h1, h2, h3⟩ := hm.2 d hd
  refine ⟨D, h1, h2, (hs.other D fun hin => ?_).trans h3⟩
  obtain ⟨y, hy, rfl⟩ := List.mem_map.1 hin
  have := (h.mem y (List.mem_append_left _ hy)).2
  rw [h3] at this
  exact h.kind y (List.mem_append_left _ hy) (Option.some.inj this).symm⟩

/-- The blocks of one entry, in front. -/
theorem flatMap_front {Bs : Nat → List Blk} {u : Un} : ∀ {T : List Un}, u ∈ T → (T.map (·.slot)).Nodup → (T.flatMap fun u => Bs u.slot).Perm (Bs u.slot ++ (T.filter fun x => x.slot != u.slot).flatMap fun u => Bs u.slot)
  | [], h, _ => by cases h
  | x :: T, h, hn => by
    simp only [List.map_cons, List.nodup_cons] at hn
    rw [List.flatMap_cons]
    by_cases hx : x = u
    · subst hx
      have hself : ∀ l : List Un, (∀ y ∈ l, y.slot ≠ x.slot) → (l.filter fun y => y.slot != x.slot) = l := fun l hl => List.filter_eq_self.2 fun y hy => by simp [hl y hy]
      rw [List.filter_cons_of_neg (by simp), hself T fun y hy he => hn.1 (List.mem_map.2 ⟨y, hy, he⟩)]
    · have hm : u ∈ T := by
        rcases List.mem_cons.1 h with rfl | hm
        · exact absurd rfl hx
        · exact hm
      have hne : x.slot ≠ u.slot := fun he => hn.1 (List.mem_map.2 ⟨u, hm, he.symm⟩)
      rw [List.filter_cons_of_pos (by simp [hne]), List.flatMap_cons]
      exact ((flatMap_front (Bs := Bs) hm hn.2).append_left _).trans (List.perm_append_comm_assoc ..)
theorem flatMap_other {Bs Bs' : Nat → List Blk} {d : Nat} (ho : ∀ t, t ≠ d → Bs' t = Bs t) : ∀ T : List Un, ((T.filter fun x => x.slot != d).flatMap fun u => Bs' u.slot) = (T.filter fun x => x.slot != d).flatMap fun u => Bs u.slot
  | [] => rfl
  | x :: T => by
    by_cases hx : x.slot = d
    · rw [List.filter_cons_of_neg (by simp [hx])]; exact flatMap_other ho T
    · rw [List.filter_cons_of_pos (by simp [hx]), List.flatMap_cons, List.flatMap_cons, ho _ hx, flatMap_other ho T]
theorem DepsOk_filter {d : Nat} : ∀ {us : List Un}, DepsOk us → (∀ u ∈ us, d ∉ u.deps) → DepsOk (us.filter fun x => x.slot != d)
  | [], _, _ => trivial
  | u :: us, h, hd => by
    have ih := DepsOk_filter h.2 fun u hu => hd u (List.mem_cons_of_mem _ hu)
    by_cases hu : u.slot = d
    · rw [List.filter_cons_of_neg (by simp [hu])]; exact ih
    · rw [List.filter_cons_of_pos (by simp [hu])]
      refine ⟨⟨fun t ht => ?_, h.1.2⟩, ih⟩
      obtain ⟨u', hu', he⟩ := h.1.1 t ht
      refine ⟨u', List.mem_filter.2 ⟨hu', ?_⟩, he⟩
      have : t ≠ d := fun e => hd u (List.mem_cons_self ..) (by rw [← e]; exact ht)
      simp [he, this]
theorem Hyp.no_dep (h : Hyp C n ops sps e0 us0 S H0) {d : Nat} (hd : d ∈ S) : ∀ i, i ≤ ops.size → ∀ u ∈ UAt ops.toList sps us0 i, d ∉ u.deps := by
  intro i hi u hu ht
  rcases UAt_mem hu with hu0 | ⟨j, o, _, ho, hs, _⟩
  · rw [(h.dep0 u hu0).1] at ht; cases ht
  · rw [h.listGet] at ho
    obtain ⟨_, _, hS, _, _, hdep, _⟩ := h.ob j o _ ho hs
    obtain ⟨hl, u', hu', he⟩ := hdep d ht
    exact hS u' hu' (by rw [he]; exact hl) (by rw [he]; exact hd)
theorem Hyp.openedF (h : Hyp C n ops sps e0 us0 S H0) {listed : Array Bool} {a : Act} {w : World} {ea : Env} {Bs : Nat → List Blk} (I : Inv C n ds ops sps e0 us0 H0 listed a w ea Bs)
    {i : Nat} {o : Oper} (ho : ops[i]? = some o) (hpre : ∀ k, edge ops i k = true → Lst listed k) {d : Nat} (hS : ∀ u ∈ UAt ops.toList sps us0 i, u.slot ≠ d → u.slot ∈ o.looksAt ops → u.slot ∉ S) :
    ∀ u ∈ selL (o.looksAt ops) ((UAt ops.toList sps us0 i).filter fun x => x.slot != d), u.R ea (ea u.slot) (Bs u.slot) := by
  intro u hu
  have hi : i ≤ ops.size := Nat.le_of_lt (Array.getElem?_eq_some_iff.1 ho).1
  have hg : Good ops S listed u.slot := by
    refine h.sel_good I (fun u hu => h.up hi (List.mem_filter.1 hu).1) (fun t ht hex => ?_) u hu
    obtain ⟨u', hu', rfl⟩ := hex
    obtain ⟨hu', hne⟩ := List.mem_filter.1 hu'
    refine ⟨?_, hS u' hu' (by simpa using hne) ht⟩
    rcases UAt_mem hu' with hu0 | ⟨k, ok, hk, hok, _, hd⟩
    · exact absurd ht (h.ps.look i o ho u'.slot (List.mem_map.2 ⟨u', hu0, rfl⟩))
    · rw [h.listGet] at hok
      exact ⟨k, ok, hpre k (h.ps.before i k o ok u'.slot ho hok hd ht hk), hok, hd⟩
  obtain ⟨⟨k, ok, hk, hok, hd⟩, hnS⟩ := hg
  refine (I.opn u (h.up hi (List.mem_filter.1 ((selL_sub _ _).mem hu)).1) (.inr ⟨k, ok, hk, hok, hd⟩)).2 ?_
  rintro ⟨k, _, hk⟩
  have hk' : k < ops.size := by rw [← h.len]; exact (List.getElem?_eq_some_iff.1 hk).1
  exact hnS (h.ob k ops[k] _ (Array.getElem?_eq_getElem hk') hk).2.2.1.1

theorem Hyp.run (hF : Wide F) (h : Hyp C n ops sps e0 us0 S H0) (hS : HypS us0 S) (hf : OverAll (fun e H => Q .normal e H) (fun _ => True) (UAt ops.toList sps us0 ops.size) (EAt ops.toList sps e0 ops.size) H0) :
    ∀ (fuel : Nat) (listed : Array Bool) (a : Act) (w : World) (ea : Env) (Bs : Nat → List Blk), Inv C n ds ops sps e0 us0 H0 listed a w ea Bs → (List.range ops.size).countP (fun i => !listed.getD i true) ≤ fuel →
      wpAnyIn F 0 C.P .any ops (lift C n ds Q) fuel listed a w := by
  have huni : ∀ {i : Nat} {o : Oper}, ops[i]? = some o → i < ops.size := fun ho => (Array.getElem?_eq_some_iff.1 ho).1
  intro fuel
  induction fuel with
  | zero =>
    intro listed a w ea Bs I hc
    have hall : Region.ready .any ops listed = [] := by
      refine List.eq_nil_iff_forall_not_mem.2 fun i hi => ?_
      obtain ⟨h1, h2, _⟩ := ready_mem.1 hi
      have : 0 < (List.range ops.size).countP (fun i => !listed.getD i true) := List.countP_pos_iff.2 ⟨i, List.mem_range.2 h1, by simp [h2]⟩
      omega
    exact ⟨hall, h.fin hS hf I (all_of_ready_nil h.ps.down I.sz hall)⟩
  | succ fuel ih =>
    intro listed a w ea Bs I hc
    refine ⟨fun hr => h.fin hS hf I (all_of_ready_nil h.ps.down I.sz hr), fun i hi => ?_⟩
    obtain ⟨hlt, hun, o, ho, _⟩ := ready_mem.1 hi
    have hpre := edge_of_ready hi
    have hni : ¬ Lst listed i := fun hl => by
      unfold Lst at hl
      rw [Array.getD_eq_getD_getElem?, Array.getElem?_eq_getElem (by rw [I.sz]; exact hlt)] at hl hun
      simp only [Option.getD_some] at hl hun
      rw [hl] at hun; cases hun
    have hcnt : (List.range ops.size).countP (fun j => !(listed.setIfInBounds i true).getD j true) ≤ fuel := by
      have := countP_lt (l := List.range ops.size) (x := i) (p := fun j => !listed.getD j true) (p' := fun j => !(listed.setIfInBounds i true).getD j true) (List.mem_range.2 hlt) (by simp [hun])
        (by simp only [Array.getD_eq_getD_getElem?, Array.getElem?_setIfInBounds]; simp [I.sz, hlt])
        (fun y hy => by
          simp only [Array.getD_eq_getD_getElem?, Array.getElem?_setIfInBounds] at hy ⊢
          by_cases hiy : i = y
          · subst hiy; simp [I.sz, hlt] at hy
          · rwa [if_neg hiy] at hy)
      omega
    have hs : sps[i]? = some (sps[i]'(by rw [h.len]; exact hlt)) := List.getElem?_eq_getElem _
    generalize sps[i]'_ = sp at hs
    have hob := h.ob i o sp ho hs
    have hgo := (h.dok i o ho).2
    unfold wpOpIn
    rw [ho]
    simp only []
    -- the guard sees what it saw
    have hgd : (∀ u ∈ UAt ops.toList sps us0 i, u.slot ∉ gLooks ops o) → gdOf ops ea o = gdOf ops (EAt ops.toList sps e0 i) o := fun hu =>
      gd_congr fun d hd => h.agree I ho hni hpre (List.mem_append_right _ hd) fun u hu' he => hu u hu' (by rw [he]; exact hd)
    -- the operation's own run
    have hsame : ∀ t ∈ o.looksAt ops, selE ea (selL (o.looksAt ops) (UAt ops.toList sps us0 i)) (EAt ops.toList sps e0 i) t = ea t := fun t ht => by
      by_cases hin : ∃ u ∈ UAt ops.toList sps us0 i, u.slot = t
      · exact selE_in (selL_mem ht hin)
      · exact selE_same (h.agree I ho hni hpre ht fun u hu he => hin ⟨u, hu, he⟩).symm
    have hrun : (∀ u ∈ UAt ops.toList sps us0 i, u.slot ∈ o.looksAt ops → u.slot ∉ S) → ∀ R : Env → Value → List Blk → Prop, Over (o.looksAt ops) (fun e H => YR C o e H (R e)) (UAt ops.toList sps us0 i) (EAt ops.toList sps e0 i) H0 →
        OutRes C.P (R (selE ea (selL (o.looksAt ops) (UAt ops.toList sps us0 i)) (EAt ops.toList sps e0 i))) w ((execOp (ev ea) o).run C.P w) := fun hS' R hov => by
      have hy := Over_use (ea := ea) (Bs := Bs) hov (h.depsOk i (Nat.le_of_lt hlt)) (h.opened I ho hpre hS')
      have := hy w (below_mem I (Nat.le_of_lt hlt) _)
      rwa [exec_congr (ops := ops) (e' := ea) (h.ps.sel i o ho) hsame] at this
    have hgrow : ∀ {w' : World} {Hn : List Blk}, Below w.heap.size w w' → HOk w.heap.size w' Hn → HOk C.w0.heap.size w' (Hn ++ ((UAt ops.toList sps us0 ops.size).flatMap (fun u => Bs u.slot) ++ H0)) := fun h1 h2 => I.mem.grow I.below.size h1 h2
    cases sp with
    | skip =>
      obtain ⟨hg, hu⟩ := hob
      have hwant := gd_wanted I.rep ((hgd hu).trans hg) (gOk_lt hgo)
      rw [if_neg (by simp [hwant])]
      refine ⟨fun f _ => hF.fn f, ih _ _ _ _ _ (h.more I ho hs hni hpre undef (fun c e => (by cases e)) (fun _ => rfl) I.mem I.below I.marks (fun deps R deps' R' d e => (by cases e)) (fun d e => (by cases e)) (fun t _ _ => rfl)) hcnt⟩
    | det c =>
      obtain ⟨hg, hu, hS', hov⟩ := hob
      have hwant := gd_wanted I.rep ((hgd hu).trans hg) (gOk_lt hgo)
      rw [if_pos hwant]
      refine ⟨fun f _ => hF.fn f, ?_⟩
      rw [semAt_of (h.ps.ndef i o ho), I.rep.eval]
      refine uponIn_of hF (hrun hS' (fun _ v _ => v = c) hov) ?_
      rintro v w' ⟨Hn, h1, h2, rfl⟩
      exact ih _ _ _ _ _ (h.more I ho hs hni hpre v (fun c e => (by cases e; rfl)) (fun e => (by cases e)) ((hgrow h1 h2).sub (List.sublist_append_right _ _)) (I.below.trans (h1.mono I.below.size)) (I.marks.below h1)
        (fun deps R deps' R' d e => (by cases e)) (fun d e => (by cases e)) (fun t _ _ => rfl)) hcnt
    | new deps R deps' R' =>
      obtain ⟨hg, hu, hS', ⟨d, hd, _⟩, hov, hdep, hcg, _⟩ := hob
      have hwant := gd_wanted I.rep ((hgd hu).trans hg) (gOk_lt hgo)
      rw [if_pos hwant]
      refine ⟨fun f _ => hF.fn f, ?_⟩
      rw [semAt_of (h.ps.ndef i o ho), I.rep.eval]
      refine uponIn_of hF (hrun hS' R hov) ?_
      rintro v w' ⟨Hn, h1, h2, hR⟩
      have hR := hcg _ (updo ea o.dst v) (fun t ht => by
        rw [hsame t (hdep t ht).1, hd]
        exact (upd_ne ea v fun he => h.ps.self i o d ho hd (by rw [← he]; exact (hdep t ht).1)).symm) _ _ hR
      have huT := mem_UAt (us0 := us0) (by rw [h.listGet]; exact ho) hs hd ops.size hlt
      have hnp : ¬ Pres ops us0 listed d := by
        rintro (⟨u, hu0, he⟩ | ⟨j, oj, hj, hoj, hdj⟩)
        · exact h.ps.us0 i o d ho hd (List.mem_map.2 ⟨u, hu0, he⟩)
        · have := h.ps.uniq i j o oj d ho hoj hd hdj; subst this; exact hni hj
      have hBd : Bs d = [] := I.absn _ huT hnp
      let Bs' : Nat → List Blk := fun t => if t = d then Hn else Bs t
      have hB1 : Bs' d = Hn := if_pos rfl
      have hB2 : ∀ t, t ≠ d → Bs' t = Bs t := fun t ht => if_neg ht
      have hp := flatMap_set hBd hB1 hB2 (h.slots_nodup ops.size (Nat.le_refl _)) ⟨_, huT, rfl⟩
      refine ih _ _ _ _ Bs' (h.more I ho hs hni hpre v (fun c e => (by cases e)) (fun e => (by cases e)) ((hgrow h1 h2).perm ?_) (I.below.trans (h1.mono I.below.size)) (I.marks.below h1)
        (fun deps R deps' R' d' e hd' => ?_) (fun d e => (by cases e)) (fun t ht _ => hB2 t fun e => ht deps R deps' R' rfl (by rw [e]; exact hd))) hcnt
      · rw [← List.append_assoc]; exact hp.append_right _
      · cases e; rw [hd] at hd'; cases hd'; rw [hB1]; exact hR
    | st d =>
      obtain ⟨hd0, hg0, ⟨hdS, hlk⟩, ⟨u, hu, hus, hud0, hdp, hst⟩, hno⟩ := hob
      have hwant : Region.wanted o (yielded ops a.tmps) = true := by unfold Region.wanted; rw [hg0]
      rw [if_pos hwant]
      refine ⟨fun f _ => hF.fn f, ?_⟩
      rw [semAt_of (h.ps.ndef i o ho), I.rep.eval]
      have hil : i ≤ ops.size := Nat.le_of_lt hlt
      have huT : u ∈ UAt ops.toList sps us0 ops.size := h.up hil hu
      have hpr : Pres ops us0 listed u.slot := by
        rcases UAt_mem hu with hu0 | ⟨j, oj, hj, hoj, _, hdj⟩
        · exact .inl ⟨u, hu0, rfl⟩
        · rw [h.listGet] at hoj
          exact .inr ⟨j, oj, hpre j (h.ps.before i j o oj u.slot ho hoj hdj (by rw [hus]; exact looks_of hlk hoj (by rw [hdj, hus])) hj), hoj, hdj⟩
      have hRu := (I.opn u huT hpr).2 fun ⟨k, hk, hsk⟩ => hni (by rw [h.st1 i k d hs (by rw [← hus]; exact hsk)]; exact hk)
      have hX := flatMap_front (Bs := Bs) huT (h.slots_nodup ops.size (Nat.le_refl _))
      have hm : HOk C.w0.heap.size w (Bs u.slot ++ (((UAt ops.toList sps us0 ops.size).filter fun x => x.slot != u.slot).flatMap (fun u => Bs u.slot) ++ H0)) := I.mem.perm (by rw [← List.append_assoc]; exact (hX.append_right H0).symm)
      have hsubT : (selL (o.looksAt ops) ((UAt ops.toList sps us0 i).filter fun x => x.slot != d)).Sublist ((UAt ops.toList sps us0 ops.size).filter fun x => x.slot != u.slot) := by
        refine (selL_sub _ _).trans ?_
        rw [hus]
        obtain ⟨pre, hp⟩ := UAt_suffix (ops := ops.toList) (sps := sps) (us0 := us0) i (ops.size - i)
        rw [show i + (ops.size - i) = ops.size by omega] at hp
        rw [hp, List.filter_append]; exact List.sublist_append_right _ _
      have hSt : St C (Bs u.slot ++ selH Bs (selL (o.looksAt ops) ((UAt ops.toList sps us0 i).filter fun x => x.slot != d)) H0) w :=
        ⟨I.below, hm.sub (List.Sublist.append_left (List.Sublist.append_right (selH_ok.flatMap_sub _ hsubT) _) _), I.marks⟩
      obtain ⟨hcu, hcu'⟩ := h.dep_cong huT
      rw [hud0] at hcu
      have hst := Over_use (ea := ea) (Bs := Bs) hst (DepsOk_filter (h.depsOk i hil) (h.no_dep hdS i hil)) (h.openedF I ho hpre hno)
      obtain ⟨w', Hn', hrun', hsw, hR'⟩ := hst _ _ (hcu ea _ (fun t ht => (by cases ht)) _ _ hRu) w hSt
      have hin : ∀ u' ∈ UAt ops.toList sps us0 i, u'.slot ≠ d → u'.slot ∈ o.looksAt ops → selE ea (selL (o.looksAt ops) ((UAt ops.toList sps us0 i).filter fun x => x.slot != d)) (EAt ops.toList sps e0 i) u'.slot = ea u'.slot := fun u' hu' hne hl =>
        selE_in (selL_mem hl ⟨u', List.mem_filter.2 ⟨hu', by simp [hne]⟩, rfl⟩)
      rw [exec_congr (ops := ops) (e' := ea) (h.ps.sel i o ho) fun t ht => ?_] at hrun'
      · rw [hrun']
        let Bs' : Nat → List Blk := fun t => if t = d then Hn' else Bs t
        have hB1 : Bs' d = Hn' := if_pos rfl
        have hB2 : ∀ t, t ≠ d → Bs' t = Bs t := fun t ht => if_neg ht
        have hp := flatMap_front (Bs := Bs') huT (h.slots_nodup ops.size (Nat.le_refl _))
        rw [hus, flatMap_other hB2, hB1] at hp
        have hupd : updo ea o.dst undef = ea := by rw [hd0]; rfl
        rw [hus] at hsw hm
        refine ih _ _ _ (updo ea o.dst undef) Bs' (h.more I ho hs hni hpre undef (fun c e => (by cases e)) (fun e => (by cases e)) ((swap_ok hsw hm).perm ?_) (swap_below hsw hm I.below) (swap_marks hsw hm I.marks)
          (fun deps R deps' R' d e => (by cases e)) (fun d' e u' hu' he => ?_) (fun t _ ht => hB2 t fun e => ht (by rw [e]))) hcnt
        · rw [← List.append_assoc]
          exact List.Perm.append_right _ hp
        · cases e
          have := h.slot_inj hu' huT (by rw [he, hus])
          subst this
          rw [hB1, ← hus, hupd]
          refine hcu' _ _ (fun t ht => ?_) _ _ hR'
          obtain ⟨hl, hne, x, hx, rfl⟩ := hdp t ht
          exact hin x hx hne hl
      · by_cases htd : t = u.slot
        · subst htd; exact upd_same ..
        · rw [upd_ne _ _ htd]
          by_cases hex : ∃ u' ∈ UAt ops.toList sps us0 i, u'.slot = t
          · obtain ⟨u', hu', rfl⟩ := hex
            exact hin u' hu' (by rw [← hus]; exact htd) ht
          · exact selE_same (h.agree I ho hni hpre ht fun u' hu' he => hex ⟨u', hu', he⟩).symm

/-- A block of the call's own that the region stores into: its number, what it holds, what it holds then. The slot is one that no operation names. -/
structure Pre where
  slot : Nat
  b : Nat
  o : Obj
  deps' : List Nat
  R' : Env → Value → List Blk → Prop
  cong : Cong deps' R'
def Pre.un (p : Pre) : Un := ⟨p.slot, [], fun _ _ Hn => Hn = [(p.b, p.o)], p.deps', p.R'⟩

theorem draw_any {e : Env} {H : List Blk} (hF : Wide F) (pres : List Pre) (S : List Nat)
    (hH : ∀ w, St C H w → St C (pres.map (fun p => (p.b, p.o)) ++ H0) w) (hph : phased ops (pres.map (·.slot)) = true) (hdk : (ops.all fun o => dOk n o.dst && gOk n ops o) = true)
    (hsub : (pres.all fun p => S.contains p.slot) = true) (hnd : (pres.map (·.slot)).Nodup)
    (hp : PW C ops S (fun us e => OverAll (fun e H => Q .normal e H) (fun _ => True) us e H0) H0 ops.toList [] (pres.map Pre.un) e) : (∀ w, St C H w → ∀ a, Rep n ds a e → wpAnyIn F 0 C.P .any ops (lift C n ds Q) ops.size (Array.replicate ops.size false) a w.drew) := fun w hw a ha => by
  obtain ⟨sps, h1, h2, h3, _, h5, h6⟩ := PW_specs hp
  have hslots : (pres.map Pre.un).map (·.slot) = pres.map (·.slot) := by rw [List.map_map]; rfl
  have hyp : Hyp C n ops sps e (pres.map Pre.un) S H0 := by
    refine ⟨by rw [hslots]; exact phased_spec hph, fun i o ho => ?_, by rw [h1, Array.length_toList], fun i o sp ho hs => h2 i o sp (by rw [Array.getElem?_toList]; exact ho) hs, h3,
      fun d hd => (h5 d hd).resolve_left (by simp), by rw [hslots]; exact hnd, fun u hu => ?_⟩
    rotate_left
    · obtain ⟨p, _, rfl⟩ := List.mem_map.1 hu
      exact ⟨rfl, fun _ _ _ _ _ h => h, p.cong⟩
    rw [Array.all_eq_true] at hdk
    have := hdk i (Array.getElem?_eq_some_iff.1 ho).1
    rw [(Array.getElem?_eq_some_iff.1 ho).2] at this
    simpa using this
  have hS : HypS (pres.map Pre.un) S := ⟨fun u hu => by
    obtain ⟨p, hp, rfl⟩ := List.mem_map.1 hu
    have := List.all_eq_true.1 hsub p hp
    simpa [Pre.un] using this⟩
  let Bs : Nat → List Blk := fun t => match pres.find? (fun p => p.slot == t) with | some p => [(p.b, p.o)] | none => []
  have hBs : ∀ p ∈ pres, Bs p.slot = [(p.b, p.o)] := fun p hpm => by
    have : pres.find? (fun q => q.slot == p.slot) = some p := by
      clear hp h2 h6 hyp hS hH hph hdk hsub hslots h3 h5 h1
      induction pres with
      | nil => cases hpm
      | cons q l ih =>
        simp only [List.map_cons, List.nodup_cons] at hnd
        rcases List.mem_cons.1 hpm with rfl | hpm
        · simp
        · rw [List.find?_cons_of_neg, ih hnd.2 hpm]
          simp only [beq_iff_eq]
          exact fun he => hnd.1 (List.mem_map.2 ⟨p, hpm, he.symm⟩)
    simp only [Bs, this]
  have hB0 : ∀ t, (∀ p ∈ pres, p.slot ≠ t) → Bs t = [] := fun t ht => by
    have : pres.find? (fun q => q.slot == t) = none := List.find?_eq_none.2 fun p hpm => by simp [ht p hpm]
    simp only [Bs, this]
  have hw' := (hH w hw).drew
  have hTmem : ∀ u ∈ UAt ops.toList sps (pres.map Pre.un) ops.size, ¬ Pres ops (pres.map Pre.un) (Array.replicate ops.size false) u.slot → Bs u.slot = [] := fun u _ hnp =>
    hB0 _ fun p hpm he => hnp (.inl ⟨p.un, List.mem_map.2 ⟨p, hpm, rfl⟩, he⟩)
  have hnl : ∀ i, ¬ Lst (Array.replicate ops.size false) i := fun i hl => by
    unfold Lst at hl
    rw [Array.getD_eq_getD_getElem?, Array.getElem?_replicate] at hl
    split at hl <;> cases hl
  have hmemT : HOk C.w0.heap.size w.drew ((UAt ops.toList sps (pres.map Pre.un) ops.size).flatMap (fun u => Bs u.slot) ++ H0) := by
    have hkey : ∀ i, i ≤ ops.size → (UAt ops.toList sps (pres.map Pre.un) i).flatMap (fun u => Bs u.slot) = pres.map (fun p => (p.b, p.o)) := by
      intro i
      induction i with
      | zero =>
        intro _
        show (pres.map Pre.un).flatMap _ = _
        have : ∀ l : List Pre, (∀ p ∈ l, Bs p.slot = [(p.b, p.o)]) → (l.map Pre.un).flatMap (fun u => Bs u.slot) = l.map (fun p => (p.b, p.o)) := by
          intro l
          induction l with
          | nil => intro _; rfl
          | cons p l ih =>
            intro hl
            rw [List.map_cons, List.flatMap_cons, ih fun q hq => hl q (List.mem_cons_of_mem _ hq), List.map_cons]
            show Bs p.slot ++ _ = _
            rw [hl p (List.mem_cons_self ..)]; rfl
        exact this pres hBs
      | succ i ih =>
        intro hi
        have ih := ih (by omega)
        have ho : ops[i]? = some ops[i] := Array.getElem?_eq_getElem (by omega)
        have hs : sps[i]? = some (sps[i]'(by rw [hyp.len]; omega)) := List.getElem?_eq_getElem _
        simp only [UAt, hyp.listGet, ho, hs]
        unfold nextU
        split
        · rename_i deps R deps' R' d _ hd
          rw [List.flatMap_cons, ih]
          show Bs d ++ _ = _
          rw [hB0 d fun p hpm he => hyp.ps.us0 i _ d ho hd (by rw [hslots]; exact List.mem_map.2 ⟨p, hpm, he⟩)]
          rfl
        · exact ih
    rw [hkey ops.size (Nat.le_refl _)]
    exact hw'.2
  refine hyp.run hF hS (by rw [Array.length_toList] at h6; exact h6) ops.size _ a w.drew e Bs ⟨ha, by simp, fun j k hj => absurd hj (hnl j), fun i o c d hi => absurd hi (hnl i), fun i o d hi => absurd hi (hnl i), fun u hu hpr => ?_, hTmem, fun t _ => rfl, hmemT, hw'.1, hw'.3⟩ ?_
  · refine ⟨fun ⟨k, hk, _⟩ => absurd hk (hnl k), fun _ => ?_⟩
    rcases hpr with ⟨u0, hu0, he⟩ | ⟨i, o, hi, _⟩
    · have huu := hyp.slot_inj hu (mem_UAt0 hu0 _) he.symm
      subst huu
      obtain ⟨p, hpm, rfl⟩ := List.mem_map.1 hu0
      exact hBs p hpm
    · exact absurd hi (hnl i)
  · refine Nat.le_trans List.countP_le_length ?_
    rw [List.length_range]; exact Nat.le_refl _
theorem W_draw {id : Nat} {e : Env} {H : List Blk} (hF : Wide F) (hm : C.P.follows .mixedOrders = true) (pres : List Pre) (S : List Nat)
    (hH : ∀ N w, HOk N w H → HOk N w (pres.map (fun p => (p.b, p.o)) ++ H0)) (hph : phased ops (pres.map (·.slot)) = true) (hdk : (ops.all fun o => dOk n o.dst && gOk n ops o) = true)
    (hsub : (pres.all fun p => S.contains p.slot) = true) (hnd : (pres.map (·.slot)).Nodup)
    (hp : ∀ ds, PW (C.at ds) ops S (fun us e => OverAll (fun e H => Q .normal e H) (fun _ => True) us e H0) H0 ops.toList [] (pres.map Pre.un) e) : W C F n ds (.region id ops true) Q e H := fun dd w hw a ha =>
  wpIn_mono (wpIn_region_any hm (draw_any (C := C.at dd) (ds := dd) hF pres S (fun _ hw => ⟨hw.1, hH _ _ hw.2, hw.3⟩) hph hdk hsub hnd (hp dd) w hw a ha)) fun _ _ _ h => lift_M h
end
end Go.Eng
