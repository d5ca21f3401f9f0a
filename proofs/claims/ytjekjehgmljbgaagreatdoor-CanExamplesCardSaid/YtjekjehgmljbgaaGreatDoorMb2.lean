/- What may come before and after, by the entries behind: pure. -/
import Derived.Test.YtjekjehgmljbgaaGreatDoorMb1
import Derived.Laws.Bits64b
import Derived.MapKept
import Derived.Scope
import Derived.Maps.RangeRun
import Derived.Test.YtjekjehgmljbgaaGreatDoorChecked
set_option linter.unusedVariables false
set_option linter.unusedSimpArgs false
namespace Go.Eng
open Go.RowKit
section
variable {P : Program} {F : Fence}
theorem uponIn_to {o : Oper} {a : Act} {K K' : Act → World → Prop} {Q Q' : Exit → Act → World → Prop} (hk : ∀ a w, K a w → K' a w) (hq : ∀ x, x ≠ .normal → ∀ a w, Q x a w → Q' x a w) :
  ∀ {r : Result Next}, o.uponIn F 0 P a K Q r → o.uponIn F 0 P a K' Q' r := by
 have hl : LetsOut Q → LetsOut Q' := fun ⟨a, w, h⟩ => ⟨a, w, hq _ (by simp) _ _ h⟩
 intro r h
 cases r with
 | ok x w =>
  cases x
  case value v => exact hk _ _ h
  case skip => exact hk _ _ h
  case defer d => exact hk _ _ h
  case enter f args =>
   refine ⟨h.1, CallsIn.mono h.2 fun en w' h => ?_⟩
   cases en with
   | returned v => exact hk _ _ h
   | panicked c => exact hq _ (by simp) _ _ h
   | outgrown => exact hl h
  case round l f tmps asg b =>
   refine ⟨h.1, RoundIn.mono h.2 fun en w' h => ?_⟩
   cases en with
   | returned v => exact hk _ _ h
   | panicked c => exact hq _ (by simp) _ _ h
   | outgrown => exact hl h
  case row r args => exact ⟨h.1, RowsIn.mono h.2 fun _ _ h => hk _ _ h⟩
  all_goals exact h.elim
 | halt x w =>
  cases x
  case panic v => exact hq _ (by simp) _ _ h
  all_goals exact h.elim
theorem wpIn_to {o : Oper} {a : Act} {w : World} {K K' : Act → World → Prop} {Q Q' : Exit → Act → World → Prop} (hk : ∀ a w, K a w → K' a w) (hq : ∀ x, x ≠ .normal → ∀ a w, Q x a w → Q' x a w)
  (h : o.wpIn F 0 P a w K Q) : o.wpIn F 0 P a w K' Q' := ⟨h.1, uponIn_to hk hq h.2⟩
structure Tail (ops : Array Oper) (m : Nat) : Prop where
 down : ∀ i k, edge ops i k = true → k < i
 chain : ∀ i, m < i → i < ops.size → edge ops i (i - 1) = true
 all : ∀ j, j < m → ∃ k, j < k ∧ k ≤ m ∧ edge ops k j = true
 guard : ∀ (i : Nat) (o : Oper), i < m → ops[i]? = some o → ∀ j b, o.guard = some (j, b) → j < m
def tailB (ops : Array Oper) (m : Nat) : Bool :=
 ((List.range ops.size).all fun i => (ops[i]?.map fun o => o.after.all fun e => !Region.binds .any e || Nat.blt e.on i).getD true) &&
 ((List.range ops.size).all fun i => !Nat.blt m i || edge ops i (i - 1)) &&
 ((List.range m).all fun j => (List.range (m + 1)).any fun k => Nat.blt j k && edge ops k j) &&
 ((List.range m).all fun i => (ops[i]?.map fun o => match o.guard with | some (j, _) => Nat.blt j m | none => true).getD true)
theorem edge_lt {ops : Array Oper} {i k : Nat} (h : edge ops i k = true) : i < ops.size := by
 unfold edge at h
 cases ho : ops[i]? with
 | none => rw [ho] at h; cases h
 | some o => exact (Array.getElem?_eq_some_iff.1 ho).1
theorem tail_of {ops : Array Oper} {m : Nat} (h : tailB ops m = true) : Tail ops m := by
 unfold tailB at h
 simp only [Bool.and_eq_true, List.all_eq_true, List.mem_range] at h
 obtain ⟨⟨⟨h1, h2⟩, h3⟩, h4⟩ := h
 refine ⟨fun i k hk => ?_, fun i hi hs => ?_, fun j hj => ?_, fun i o hi ho j b hg => ?_⟩
 ·have hi := edge_lt hk
  have := h1 i hi
  unfold edge at hk
  rw [Array.getElem?_eq_getElem hi] at hk this
  simp only [Option.map_some, Option.getD_some, Array.any_eq_true, Array.all_eq_true, Bool.and_eq_true, beq_iff_eq] at hk this
  obtain ⟨x, hx, he, hb⟩ := hk
  have := this x hx
  rw [he, hb] at this
  simpa using this
 ·have := h2 i hs
  have hb : Nat.blt m i = true := by rw [Nat.blt_eq]; exact hi
  simpa [hb] using this
 ·have := h3 j hj
  simp only [List.any_eq_true, List.mem_range, Bool.and_eq_true, Nat.blt_eq] at this
  obtain ⟨k, hk, hjk, he⟩ := this
  exact ⟨k, hjk, by omega, he⟩
 ·have := h4 i hi
  rw [ho] at this
  simp only [Option.map_some, Option.getD_some, hg, Nat.blt_eq] at this
  exact this
theorem tail_run {ops : Array Oper} {m : Nat} {Q : Exit → Act → World → Prop} (ht : Tail ops m) : ∀ (rest : List Oper) (i fuel : Nat) (listed : Array Bool) (a : Act) (w : World),
  (∀ j, rest[j]? = ops[i + j]?) → m ≤ i → i + rest.length = ops.size → listed.size = ops.size → (∀ j, Lst listed j ↔ j < i) → rest.length ≤ fuel → wpListIn F 0 P ops Q rest a w →
  wpAnyIn F 0 P .any ops Q fuel listed a w := by
 intro rest
 induction rest with
 | nil =>
  intro i fuel listed a w _ _ hsz hls hl _ h
  have hr : Region.ready .any ops listed = [] := by
   refine List.eq_nil_iff_forall_not_mem.2 fun j hj => ?_
   obtain ⟨h1, h2, _⟩ := ready_mem.1 hj
   have : Lst listed j := (hl j).2 (by simp at hsz; omega)
   unfold Lst at this
   rw [Array.getD_eq_getD_getElem?, Array.getElem?_eq_getElem (by rw [hls]; exact h1)] at this h2
   simp only [Option.getD_some] at this h2
   rw [this] at h2; cases h2
  cases fuel with
  | zero => exact ⟨hr, h⟩
  | succ f => exact ⟨fun _ => h, fun j hj => (by rw [hr] at hj; cases hj)⟩
 | cons o rest ih =>
  intro i fuel listed a w hget hm hsz hls hl hf h
  obtain ⟨f, rfl⟩ : ∃ f, fuel = f + 1 := ⟨fuel - 1, by simp at hf; omega⟩
  have hi : i < ops.size := by simp at hsz; omega
  have ho : ops[i]? = some o := by have := hget 0; simpa using this.symm
  have hni : listed.getD i true = false := by
   cases hb : listed.getD i true with
   | false => rfl
   | true =>
    have : Lst listed i := by
     unfold Lst
     rw [Array.getD_eq_getD_getElem?, Array.getElem?_eq_getElem (by rw [hls]; exact hi)] at hb ⊢
     exact hb
    have := (hl i).1 this
    omega
  have hin : i ∈ Region.ready .any ops listed := ready_mem.2 ⟨hi, hni, o, ho, fun e he hb => by
   have hed : edge ops i e.on = true := by
    unfold edge
    rw [ho]
    simp only [Option.map_some, Option.getD_some, Array.any_eq_true]
    obtain ⟨k, hk, rfl⟩ := Array.mem_iff_getElem.1 he
    exact ⟨k, hk, by simp [hb]⟩
   exact (hl e.on).2 (ht.down i e.on hed)⟩
  refine ⟨fun hr => (by rw [hr] at hin; cases hin), fun j hj => ?_⟩
  have hji : j = i := by
   obtain ⟨h1, h2, _⟩ := ready_mem.1 hj
   have hnl : ¬ Lst listed j := fun hlj => by
    unfold Lst at hlj
    rw [Array.getD_eq_getD_getElem?, Array.getElem?_eq_getElem (by rw [hls]; exact h1)] at hlj h2
    simp only [Option.getD_some] at hlj h2
    rw [hlj] at h2; cases h2
   rw [hl] at hnl
   refine Classical.byContradiction fun hne => ?_
   have := edge_of_ready hj (j - 1) (ht.chain j om0 h1)
   rw [hl] at this
   omega
  subst hji
  unfold wpOpIn
  rw [ho]
  simp only []
  have hrec : ∀ a w, wpListIn F 0 P ops Q rest a w → wpAnyIn F 0 P .any ops Q f (listed.setIfInBounds j true) a w := fun a w h => by
   refine ih (j + 1) f _ a w (fun t => ?_) om0 (by simp at hsz ⊢; omega) (by simp [hls]) (fun t => ?_) (by simp at hf; omega) h
   ·have := hget (t + 1)
    rw [List.getElem?_cons_succ] at this
    rw [this]; congr 1; omega
   ·rw [lst_set (by rw [hls]; exact hi), hl]; omega
  unfold wpListIn at h
  split at h
  ·rename_i hw
   rw [if_pos hw]
   exact wpIn_to hrec (fun _ _ _ _ h => h) h
  ·rename_i hw
   rw [if_neg hw]
   exact ⟨h.1, hrec _ _ h.2⟩
theorem tail_any {pre post : List Oper} {Q Q' : Exit → Act → World → Prop} (ht : Tail (pre ++ post).toArray pre.length) (hd : ∀ i k, edge pre.toArray i k = true → k < i)
  (hq : ∀ x, x ≠ .normal → ∀ a w, Q' x a w → Q x a w) (hn : ∀ a w, Q' .normal a w → wpListIn F 0 P (pre ++ post).toArray Q post a w) :
  ∀ (fuel fuel2 : Nat) (listed : Array Bool) (a : Act) (w : World), listed.size = pre.length → (∀ j k, Lst listed j → edge pre.toArray j k = true → Lst listed k) → fuel + post.length ≤ fuel2 →
   wpAnyIn F 0 P .any pre.toArray Q' fuel listed a w → wpAnyIn F 0 P .any (pre ++ post).toArray Q fuel2 (listed ++ Array.replicate post.length false) a w := by
 have hgetl : ∀ (listed : Array Bool) (j : Nat) (b : Bool), listed.size = pre.length → j < pre.length → (listed ++ Array.replicate post.length false).getD j b = listed.getD j b := fun listed j b hs hj => by
  rw [Array.getD_eq_getD_getElem?, Array.getD_eq_getD_getElem?, Array.getElem?_append_left om0]
 have hgetr : ∀ (listed : Array Bool) (j : Nat), listed.size = pre.length → pre.length ≤ j → (listed ++ Array.replicate post.length false).getD j false = false := fun listed j hs hj => by
  rw [Array.getD_eq_getD_getElem?, Array.getElem?_append_right om0, Array.getElem?_replicate]
  split <;> rfl
 have hop : ∀ j, j < pre.length → (pre ++ post).toArray[j]? = pre.toArray[j]? := fun j hj => by simp [List.getElem?_append_left hj]
 have hedge : ∀ j k, j < pre.length → edge (pre ++ post).toArray j k = edge pre.toArray j k := fun j k hj => by unfold edge; rw [hop j hj]
 -- all that is ahead is done
 have full : ∀ (fuel2 : Nat) (listed : Array Bool) (a : Act) (w : World), listed.size = pre.length → (∀ j, j < pre.length → Lst listed j) → post.length ≤ fuel2 → Q' .normal a w →
   wpAnyIn F 0 P .any (pre ++ post).toArray Q fuel2 (listed ++ Array.replicate post.length false) a w := fun fuel2 listed a w hs hl hf h => by
  refine tail_run ht post pre.length fuel2 _ a w (fun j => by simp [List.getElem?_append_right]) (Nat.le_refl _) (by simp) (by simp [hs]) (fun j => ?_) hf (hn a w h)
  unfold Lst
  by_cases hj : j < pre.length
  ·rw [hgetl listed j false hs hj]; exact ⟨fun _ => hj, fun _ => hl j hj⟩
  ·rw [hgetr listed j hs om0]; exact ⟨fun h => (by cases h), fun h => absurd h hj⟩
 intro fuel
 induction fuel with
 | zero =>
  intro fuel2 listed a w hs _ hf h
  exact full fuel2 listed a w hs (fun j hj => all_of_ready_nil hd (by simp [hs]) h.1 j (by simpa using hj)) om0 h.2
 | succ fuel ih =>
  intro fuel2 listed a w hs hdc hf h
  by_cases hr : Region.ready .any pre.toArray listed = []
  ·exact full fuel2 listed a w hs (fun j hj => all_of_ready_nil hd (by simp [hs]) hr j (by simpa using hj)) om0 (h.1 hr)
  ·obtain ⟨f2, rfl⟩ : ∃ f2, fuel2 = f2 + 1 := ⟨fuel2 - 1, by omega⟩
   have hiff : ∀ i, i ∈ Region.ready .any (pre ++ post).toArray (listed ++ Array.replicate post.length false) → i ∈ Region.ready .any pre.toArray listed := fun i hi => by
    have hed := edge_of_ready hi
    obtain ⟨h1, h2, o, ho, h3⟩ := ready_mem.1 hi
    have him : i < pre.length := by
     refine Classical.byContradiction fun hge => ?_
     by_cases hm : i = pre.length
     ·subst hm
      -- all ahead of it are done: none is ready
      have hall : ∀ t, ∀ j, pre.length - t ≤ j → j < pre.length → Lst listed j := by
       intro t
       induction t with
       | zero => intro j h1 h2; omega
       | succ t iht =>
        intro j hj1 hj2
        by_cases hlt : pre.length - t ≤ j
        ·exact iht j hlt hj2
        ·obtain ⟨k, hk1, hk2, hk3⟩ := ht.all j hj2
         by_cases hkm : k = pre.length
         ·subst hkm
          have := hed j hk3
          unfold Lst at this ⊢
          rwa [hgetl listed j false hs hj2] at this
         ·have hk := iht k om0 om0
          rw [hedge k j om0] at hk3
          exact hdc k j hk hk3
      refine hr (List.eq_nil_iff_forall_not_mem.2 fun j hj => ?_)
      obtain ⟨g1, g2, _⟩ := ready_mem.1 hj
      have hjl : j < pre.length := by simpa using g1
      have := hall pre.length j om0 hjl
      unfold Lst at this
      rw [Array.getD_eq_getD_getElem?, Array.getElem?_eq_getElem om0] at this g2
      simp only [Option.getD_some] at this g2
      rw [this] at g2; cases g2
     ·have := hed (i - 1) (ht.chain i om0 h1)
      unfold Lst at this
      rw [hgetr listed (i - 1) hs om0] at this
      cases this
    rw [hop i him] at ho
    refine ready_mem.2 ⟨by simpa using him, by rwa [hgetl listed i true hs him] at h2, o, ho, fun e he hb => ?_⟩
    have hek := h3 e he hb
    have hlt : e.on < i := hd i e.on (by
     unfold edge
     rw [ho]
     simp only [Option.map_some, Option.getD_some, Array.any_eq_true]
     obtain ⟨k, hk, rfl⟩ := Array.mem_iff_getElem.1 he
     exact ⟨k, hk, by simp [hb]⟩)
    rwa [hgetl listed e.on false hs om0] at hek
   refine ⟨fun hr2 => ?_, fun i hi => ?_⟩
   ·-- some operation is ready
    exfalso
    obtain ⟨i, hi⟩ := List.exists_mem_of_ne_nil _ hr
    obtain ⟨h1, h2, o, ho, h3⟩ := ready_mem.1 hi
    have him : i < pre.length := by simpa using h1
    have : i ∈ Region.ready .any (pre ++ post).toArray (listed ++ Array.replicate post.length false) := ready_mem.2 ⟨by simp; omega, by rw [hgetl listed i true hs him]; exact h2, o, by rw [hop i him]; exact ho, fun e he hb => by
     have hlt : e.on < i := hd i e.on (by
      unfold edge
      rw [ho]
      simp only [Option.map_some, Option.getD_some, Array.any_eq_true]
      obtain ⟨k, hk, rfl⟩ := Array.mem_iff_getElem.1 he
      exact ⟨k, hk, by simp [hb]⟩)
     rw [hgetl listed e.on false hs om0]
     exact h3 e he hb⟩
    rw [hr2] at this; cases this
   ·have hi' := hiff i hi
    have hh := h.2 i hi'
    have hpre := edge_of_ready hi'
    obtain ⟨h1, h2, o, ho, h3⟩ := ready_mem.1 hi'
    have him : i < pre.length := by simpa using h1
    have hset : (listed ++ Array.replicate post.length false).setIfInBounds i true = listed.setIfInBounds i true ++ Array.replicate post.length false := by
     refine Array.ext_getElem? fun t => ?_
     rw [Array.getElem?_setIfInBounds, Array.getElem?_append, Array.getElem?_append, Array.getElem?_setIfInBounds]
     simp only [Array.size_append, Array.size_setIfInBounds]
     by_cases hit : i = t
     ·subst hit; simp [hs, him]; omega
     ·simp [hit]
    have hrec : ∀ a w, wpAnyIn F 0 P .any pre.toArray Q' fuel (listed.setIfInBounds i true) a w → wpAnyIn F 0 P .any (pre ++ post).toArray Q f2 ((listed ++ Array.replicate post.length false).setIfInBounds i true) a w := fun a w h => by
     rw [hset]
     refine ih f2 _ a w (by simp [hs]) (fun j k hj he => ?_) om0 h
     rw [lst_set om0] at hj ⊢
     rcases hj with rfl | hj
     ·exact .inr (hpre k he)
     ·exact .inr (hdc j k hj he)
    unfold wpOpIn at hh ⊢
    rw [hop i him, ho]
    rw [ho] at hh
    simp only [] at hh ⊢
    have hwant : Region.wanted o (yielded (pre ++ post).toArray a.tmps) = Region.wanted o (yielded pre.toArray a.tmps) := by
     unfold Region.wanted
     cases hg : o.guard with
     | none => rfl
     | some gg =>
      obtain ⟨j, b⟩ := gg
      have hj := ht.guard i o him (by rw [hop i him]; exact ho) j b hg
      simp only [yielded, hop j hj]
    rw [hwant]
    split at hh
    ·rename_i hw
     rw [if_pos hw]
     exact wpIn_to hrec hq hh
    ·rename_i hw
     rw [if_neg hw]
     exact ⟨hh.1, hrec _ _ hh.2⟩
section
variable {C : Ctx} {n : Nat} {ds : List Deferred} {Q : Exit → Env → List Blk → Prop} {e : Env} {H : List Blk}
def tailQ (C : Ctx) (F : Fence) (n : Nat) (ds : List Deferred) (all : Array Oper) (post : List Oper) (Q : Exit → Env → List Blk → Prop) : Exit → Env → List Blk → Prop
 | .normal, e, H => WS C F n ds all Q post e H
 | x, e, H => Q x e H
theorem W_drawT {id : Nat} {l : List Oper} {H0 : List Blk} (m : Nat) (hF : Wide F) (hm : C.P.follows .mixedOrders = true) (pres : List Pre) (S : List Nat)
  (hH : HSub H (pres.map (fun p => (p.b, p.o)) ++ H0))
  (hph : (phased (l.take m).toArray (pres.map (·.slot)) && ((l.take m).all fun o => dOk n o.dst && gOk n (l.take m).toArray o) && (pres.all fun p => S.contains p.slot) && tailB l.toArray m && Nat.ble m l.length) = true) (hnd : (pres.map (·.slot)).Nodup)
  (hp : ∀ ds, PW (C.at ds) (l.take m).toArray S (fun us e => OverAll (fun e H => WS (C.at ds) F n ds l.toArray Q (l.drop m) e H) (fun _ => True) us e H0) H0 (l.take m) [] (pres.map Pre.un) e) :
  W C F n ds (.region id l.toArray true) Q e H := fun dd w hw a ha => by
 simp only [Bool.and_eq_true] at hph
 obtain ⟨⟨⟨⟨hph, hdk⟩, hsub⟩, ht⟩, hml⟩ := hph
 have hml : m ≤ l.length := Nat.le_of_ble_eq_true hml
 have hlen : (l.take m).length = m := by simp; omega
 have hl : l.take m ++ l.drop m = l := List.take_append_drop m l
 have ht' : Tail (l.take m ++ l.drop m).toArray (l.take m).length := by rw [hl, hlen]; exact tail_of ht
 refine wpIn_mono (Q := lift (C.at dd) n dd Q) (wpIn_region_any hm ?_) fun _ _ _ h => lift_M h
 have h1 := draw_any (C := C.at dd) (ds := dd) (F := F) (n := n) (ops := (l.take m).toArray) (Q := tailQ (C.at dd) F n dd l.toArray (l.drop m) Q) (e := e) (H := H) (H0 := H0) hF pres S (fun _ hw => ⟨hw.1, hH _ _ hw.2, hw.3⟩) hph (by simpa using hdk) hsub hnd (hp dd) w hw a ha
 have h2 := tail_any (P := C.P) (F := F) (pre := l.take m) (post := l.drop m) (Q := lift (C.at dd) n dd Q) (Q' := lift (C.at dd) n dd (tailQ (C.at dd) F n dd l.toArray (l.drop m) Q)) ht' (phased_spec hph).down
  (fun x hx a w ⟨e, H, g1, g2, g3⟩ => ⟨e, H, g1, g2, by cases x <;> first | exact g3 | exact absurd rfl hx⟩) (fun a w ⟨e, H, g1, g2, g3⟩ => by rw [hl]; exact g3 w g2 a g1)
  (l.take m).toArray.size l.toArray.size (Array.replicate (l.take m).toArray.size false) a w.drew (by simp) (fun j k hj => by
   unfold Lst at hj
   rw [Array.getD_eq_getD_getElem?, Array.getElem?_replicate] at hj
   split at hj <;> cases hj) (by simp; omega) h1
 rw [hl] at h2
 have hrep : Array.replicate (l.take m).toArray.size false ++ Array.replicate (l.drop m).length false = Array.replicate l.toArray.size false := by
  rw [Array.replicate_append_replicate]
  congr 1
  simp; omega
 rw [hrep] at h2
 exact h2
end
section
variable {C : Ctx} {n : Nat} {ds : List Deferred} {Q : Exit → Env → List Blk → Prop} {e : Env} {H : List Blk}
theorem W_drawMT {id : Nat} {l : List Oper} {H0 : List Blk} (m : Nat) (hF : Wide F) (hm : C.P.follows .mixedOrders = true) (pres : List Pre) (slots S : List Nat) (hs : pres.map (·.slot) = slots)
  (hph : (phased (l.take m).toArray slots && ((l.take m).all fun o => dOk n o.dst && gOk n (l.take m).toArray o) && (slots.all fun p => S.contains p) && tailB l.toArray m && Nat.ble m l.length) = true) (hnd : slots.Nodup)
  (hH : HSub H (pres.map (fun p => (p.b, p.o)) ++ H0))
  (hp : ∀ ds, PW (C.at ds) (l.take m).toArray S (fun us e => OverAll (fun e H => WS (C.at ds) F n ds l.toArray Q (l.drop m) e H) (fun _ => True) us e H0) H0 (l.take m) [] (pres.map Pre.un) e) :
  W C F n ds (.region id l.toArray true) Q e H := by
 subst hs
 refine W_drawT (H0 := H0) m hF hm pres S hH ?_ hnd hp
 rw [List.all_map] at hph
 exact hph
end
end
theorem Cs_start {C : Ctx} {f : FuncId} {args : List Value} {fn : Func} {c : Code} {k : Nat} {R : Value → List Blk → Prop} {H : List Blk} (hf : C.P.funcs[f]? = some fn) (hb : fn.body = some c) (hn : fn.ntmps = k) (hl : Nat.ble args.length k = true)
  (h : W C.inner Fence.wide k [] c (Fin C.inner fn R) (start args) H) : Cs C f args.toArray H R := by
 subst hn
 exact Cs_of_W hf hb hl h
theorem Fin_norm {C : Ctx} {e : Env} {H : List Blk} {fn : Func} {rs : List ResultVar} {R : Value → List Blk → Prop} (vs : List Value) (Hn : List Blk) (hr : fn.results = rs.toArray) (h1 : RVs C e H rs vs) (h2 : HSub H Hn) (h3 : R (tupOf vs) Hn) : Fin C fn R .normal e H :=
 ⟨vs, Hn, by rw [hr]; exact h1, h2, h3⟩
theorem Ct.cs {C : Ctx} {f : FuncId} {args : Array Value} {H : List Blk} {R : Value → List Blk → Prop} (h : ∀ w, St C H w → Ct C.P f args w R) : Cs C f args H fun v H' => ∃ Hn, H' = Hn ++ H ∧ R v Hn := fun w hw =>
 Calls.mono (h w hw) fun _ _ ⟨v, he, Hn, h1, h2, h3⟩ => ⟨v, Hn ++ H, he, hw.grow h1 h2, Hn, rfl, h3⟩
theorem Mem.oldAtL1 {C : Ctx} {H : List Blk} {b o p : Nat} {vs : List Value} {u : Value} (h : At C.w0 b o vs) (hp : Nat.ble o p = true) (hd : vs[p - o]? = some u) : Mem C H b p [u] := by
 have := Mem.oldAt1 (C := C) (H := H) h hd
 rwa [show o + (p - o) = p by have := Nat.le_of_ble_eq_true hp; omega] at this
theorem Mem.oldAtL {C : Ctx} {H : List Blk} {b o p : Nat} {vs us rest : List Value} (h : At C.w0 b o vs) (hp : Nat.ble o p = true) (hd : vs.drop (p - o) = us ++ rest) : Mem C H b p us := by
 have := Mem.oldAt (C := C) (H := H) h hd
 rwa [show o + (p - o) = p by have := Nat.le_of_ble_eq_true hp; omega] at this
theorem zo {C : Ctx} {H : List Blk} {b o : Nat} {u : Value} (h : Mem C H b o [u] := by first | exact Mem.old1 (by assumption) | exact Mem.oldAt1 (by assumption) (by rfl) | exact Mem.old (by assumption) | exact Mem.oldAtL1 (by assumption) (by rfl) (by rfl)) : Mem C H b o [u] := h
theorem zq (us : List Value) {C : Ctx} {H : List Blk} {b o : Nat} (h : Mem C H b o us := by first | exact Mem.old (by assumption) | exact Mem.oldAt (by assumption) (by rfl) | exact Mem.oldAtL (by assumption) (by rfl) (by rfl)) : Mem C H b o us := h
end Go.Eng
namespace Go.Proofs.YtjekjehgmljbgaaGreatDoor.T
open Go.RowKit Go.Proofs Go.Eng
set_option maxRecDepth 100000
set_option maxHeartbeats 1000000
def lowest (n d : Nat) : Value := .agg #[.int .i64 ((n / Nat.gcd n d : Nat) : Int), .int .i64 ((d / Nat.gcd n d : Nat) : Int)]
def lowI (n d : Int) : Value := lowest n.toNat d.toNat
theorem cnan_any (x : Int) (w : World) : Ct Tryz.prog 118 #[.int .i64 x] w fun v _ => v = .bool false := by
 have hF := wide_wide
 refine Ct_start (args := [_]) Tryz.func118 rf Tryz.ntmps118 rf ?_
 refine zR fun ds => ?_
 refine za (.bool _) hF ?_
 refine zP fun ds => ?_
 refine zm (.int .i64 _) hF ?_
 refine zm (.int .i64 _) hF ?_
 refine zD hF (y_neq rf rf) ?_
 refine za (.bool _) hF ?_
 refine zN ?_
 refine W_ret ?_
 refine Fin_ret [.bool _] [] Tryz.results118 ⟨by rfl, trivial⟩ HSub.nil ?_
 show Value.bool _ = _
 simp
theorem bd143_0_1_2 {x0_0a : Option Addr} {x0_0l x0_0c : Nat} {x0_1 : Int} {x0_2 : Int} {x1 : Int} {x2 : Int} : ∀ w, (Instr.build 143 #[(0, .agg #[.slice x0_0a x0_0l x0_0c, .int .i64 x0_1, .int .i64 x0_2]), (1, .int .i64 x1), (2, .int .i64 x2)]).run Tryz.prog w = .ok (.agg #[.slice x0_0a x0_0l x0_0c, .int .i64 x0_1, .int .i64 x0_2, .int .i64 x1, .int .i64 x2]) w := fun w => by kernel_rfl
theorem bs22_1_0 {x0 : Int} : ∀ w, (Instr.buildSlice 22 1 #[(0, .int .i64 x0)]).run Tryz.prog w = .ok (.slice (some ⟨w.heap.size, 0, none⟩) 1 1) (w.alloc (CB [.int .i64 x0] 3)) := fun w => by kernel_rfl
theorem fa143_2 : ∀ b o w, (Instr.fieldAt 143 (.pointer (some ⟨b, o, none⟩)) 2).run Tryz.prog w = .ok (.pointer (some ⟨b, o + 4, none⟩)) w := fun b o w => by kernel_rfl
theorem fa57_1 : ∀ b o w, (Instr.fieldAt 57 (.pointer (some ⟨b, o, none⟩)) 1).run Tryz.prog w = .ok (.pointer (some ⟨b, o + 1, none⟩)) w := fun b o w => by kernel_rfl
theorem fa57_2 : ∀ b o w, (Instr.fieldAt 57 (.pointer (some ⟨b, o, none⟩)) 2).run Tryz.prog w = .ok (.pointer (some ⟨b, o + 2, none⟩)) w := fun b o w => by kernel_rfl
theorem Tk.incB_bd {t : Tk} (h0 : t.p 0 = 0) : ∀ {k : Nat}, t.incB k = true → 0 ≤ t.p k ∧ t.p k ≤ 600
 | 0, _ => by omega
 | k + 1, h => by
  rw [t.incB_succ k, Bool.and_eq_true, inB1] at h
  have := Tk.incB_bd h0 h.1
  omega
def GaugeV (t : Tk) (a : Option Addr) (cap : Nat) (v : Value) (Hn : List Blk) : Prop :=
 ∃ p, v = .tuple #[.pointer p, .bool t.okB] ∧ (t.okB = true → ∃ b, p = some ⟨b, 0, none⟩ ∧ Hn = [(b, CB [.slice a t.n cap, .int .i64 t.leak, .int .i64 t.foot, .int .i64 t.full, .int .i64 t.height] 143)]) ∧ (t.okB = false → Hn = [])
theorem GaugeV.bad {t : Tk} {a : Option Addr} {cap : Nat} {p : Option Addr} (h : t.okB = false) : GaugeV t a cap (.tuple #[.pointer p, .bool false]) [] :=
 ⟨p, by rw [h], fun h' => (by rw [h] at h'; cases h'), fun _ => rfl⟩
theorem gauged_any (t : Tk) (a : Option Addr) (cap : Nat) (w : World) (hn : t.n ≤ 1000000) (hx : Ints w a t.n cap t.pints) :
  Ct Tryz.prog 136 #[.agg #[.slice a t.n cap, .int .i64 t.leak, .int .i64 t.foot]] w (GaugeV t a cap) := by
 have hcap := hx.le
 have hF := wide_wide
 refine Ct_start (args := [_]) Tryz.func136 rf Tryz.ntmps136 rf ?_
 refine zR fun ds => ?_
 refine WS_new hF rf (y_box rf) (fun b1 => ?_)
 refine za (.pointer _) hF ?_
 refine za (.bool _) hF ?_
 refine zP fun ds => ?_
 refine zD hF (y_fieldAddr rf fa57_0) ?_
 refine zD hF (y_load1 rf Tryz.isAgg22 (Mem.own1 0 rf rf)) ?_
 refine zD hF (y_len rf Tryz.runUnderlying22) ?_
 refine za (.int .i64 _) hF ?_
 refine zO ?_
 refine zR fun ds => ?_
 refine zm (.int .i64 _) hF ?_
 refine WS_newS hF rf (y_buildSliceL bs22_1_0 rf) (fun b2 => ?_)
 refine zD hF (y_callL rf rf Tryz.call80 (fun w hw => in_any _ _ _ _ _ _ w dc (by first | exact Ints.one 0 rfl w hw | exact Ints.two 0 rfl w hw))) ?_
 refine zD hF (y_not rf) ?_
 refine zm (.bool _) hF ?_
 refine WS_split 15 rf (fun g2_4 => ?_) (fun g2_4 => ?_)
 ·
  try simp only [qz1, qz2, qz3, qz4, qz5, qz6, qz7, qz8] at g2_4
  refine zno hF ?_
  refine zno hF ?_
  refine zno hF ?_
  refine zno hF ?_
  refine zno hF ?_
  refine zD hF (zpk (.bool _)) ?_
  refine zm (.bool _) hF ?_
  refine zno hF ?_
  refine zno hF ?_
  refine zno hF ?_
  refine zno hF ?_
  refine zno hF ?_
  refine zD hF (zpk (.bool _)) ?_
  refine zN ?_
  refine W_cond rf (fun c2 => ?_) (fun c2 => ?_)
  ·
   try simp only [qz1, qz2, qz3, qz4, qz5, qz6, qz7, qz8] at c2
   refine zR fun ds => ?_
   refine za (.pointer _) hF ?_
   refine za (.bool _) hF ?_
   refine zN ?_
   refine W_ret ?_
   refine Then_ret ?_
   refine Fin_ret [.pointer _, .bool _] [] Tryz.results136 ⟨by rfl, by rfl, trivial⟩ HSub.nil ?_
   exact GaugeV.bad (by simp [Tk.okB, *])
  ·cases c2
 ·
  try simp only [qz1, qz2, qz3, qz4, qz5, qz6, qz7, qz8] at g2_4
  have hr := inB1.1 g2_4
  obtain ⟨b, o, rfl, hc⟩ := hx.cell 0 om0
  change At w b _ [.int .i64 (t.p 0)] at hc
  refine zD hF (y_fieldAddr rf fa57_0) ?_
  refine zD hF (y_load1 rf Tryz.isAgg22 (Mem.own1 1 rf rf)) ?_
  refine zD hF (y_index (k := 0) rf rf r1 d10 Tryz.runUnderlying22 Tryz.sizeOf3) ?_
  refine zD hF (y_load1 rf Tryz.isAgg3 zo) ?_
  refine zD hF (y_neq rf rf) ?_
  refine zD hF (zpk (.bool _)) ?_
  refine zm (.bool _) hF ?_
  refine WS_split 22 rf (fun g2_11 => ?_) (fun g2_11 => ?_)
  ·
   try simp only [qz1, qz2, qz3, qz4, qz5, qz6, qz7, qz8] at g2_11
   refine zno hF ?_
   refine zno hF ?_
   refine zno hF ?_
   refine zno hF ?_
   refine zno hF ?_
   refine zD hF (zpk (.bool _)) ?_
   refine zN ?_
   refine W_cond rf (fun c2 => ?_) (fun c2 => ?_)
   ·
    try simp only [qz1, qz2, qz3, qz4, qz5, qz6, qz7, qz8] at c2
    refine zR fun ds => ?_
    refine za (.pointer _) hF ?_
    refine za (.bool _) hF ?_
    refine zN ?_
    refine W_ret ?_
    refine Then_ret ?_
    refine Fin_ret [.pointer _, .bool _] [] Tryz.results136 ⟨by rfl, by rfl, trivial⟩ HSub.nil ?_
    exact GaugeV.bad (by simp [Tk.okB, *])
   ·cases c2
  ·
   try simp only [qz1, qz2, qz3, qz4, qz5, qz6, qz7, qz8] at g2_11
   refine zD hF (y_fieldAddr rf fa57_1) ?_
   refine zD hF (y_load1 rf Tryz.isAgg3 (Mem.own1 1 rf rf)) ?_
   refine WS_newS hF rf (y_buildSliceL bs22_1_0 rf) (fun b3 => ?_)
   refine zD hF (y_callL rf rf Tryz.call80 (fun w hw => in_any _ _ _ _ _ _ w dc (by first | exact Ints.one 0 rfl w hw | exact Ints.two 0 rfl w hw))) ?_
   refine zD hF (y_not rf) ?_
   refine zD hF (zpk (.bool _)) ?_
   refine zN ?_
   refine W_cond rf (fun c2 => ?_) (fun c2 => ?_)
   ·
    try simp only [qz1, qz2, qz3, qz4, qz5, qz6, qz7, qz8] at c2
    refine zR fun ds => ?_
    refine za (.pointer _) hF ?_
    refine za (.bool _) hF ?_
    refine zN ?_
    refine W_ret ?_
    refine Then_ret ?_
    refine Fin_ret [.pointer _, .bool _] [] Tryz.results136 ⟨by rfl, by rfl, trivial⟩ HSub.nil ?_
    exact GaugeV.bad (by simp [Tk.okB, *])
   ·
    try simp only [qz1, qz2, qz3, qz4, qz5, qz6, qz7, qz8] at c2
    have hinc0 : t.incB 0 = true := rfl
    have hh : t.height = 8 * ((t.n : Int) - 1) := rfl
    have hbd := fun k => t.incB_bd (k := k) g2_11
    refine zU ?_
    refine W_seq ?_
    refine zR fun ds => ?_
    refine zD hF (y_fieldAddr rf fa57_0) ?_
    refine zD hF (y_load1 rf Tryz.isAgg22 (Mem.own1 2 rf rf)) ?_
    refine zD hF (y_slice_loE (l := 1) rf rf rf om0 Tryz.runUnderlying22 Tryz.sizeOf3 (shift_some om0)) ?_
    refine zD hF (y_len rf Tryz.runUnderlying22) ?_
    refine zm (.int .i64 _) hF ?_
    refine zN ?_
    refine W_block ?_
    refine W_loop (γ := Nat) (fun k => k ≤ t.n - 1 ∧ t.incB k = true) (fun k => [(33, .int .i64 (k : Int)), (32, .int .i64 ((t.n - 1 : Nat) : Int)), (31, .slice (some ⟨b, o + 1 * 1, none⟩) (t.n - 1) (cap - 1)), (1, .pointer (some ⟨b1, 0, none⟩)), (4, .int .i64 (t.n : Int))]) (fun _ => _) (fun k => t.n - 1 - k) (0) ⟨Nat.zero_le _, hinc0⟩ s10 (List.Sublist.refl _) ?_
    rintro k e ⟨hk, hinc⟩
    refine zR fun ds => ?_
    refine zD hF (y_lss rf rf) ?_
    refine zO ?_
    refine W_cond rf (fun c5 => ?_) (fun c5 => ?_)
    ·
     try simp only [qz1, qz2, qz3, qz4, qz5, qz6, qz7, qz8] at c5
     have hb := hbd k hinc
     have hk0 : At w b (o + k * 1) [.int .i64 (t.p k)] := hx.at (k := k) om0
     have hk1 : At w b (o + 1 * 1 + k * 1) [.int .i64 (t.p (k + 1))] := by
      have := hx.at (k := k + 1) om0
      rwa [show o + (k + 1) * 1 = o + 1 * 1 + k * 1 by omega] at this
     refine zU ?_
     refine W_seq ?_
     refine W_block ?_
     refine zR fun ds => ?_
     refine zm (.int .i64 _) hF ?_
     refine zD hF (y_index (k := k) rf rf r1 d10 Tryz.runUnderlying22 Tryz.sizeOf3) ?_
     refine zD hF (y_load1 rf Tryz.isAgg3 zo) ?_
     refine za (.int .i64 _) hF ?_
     refine za (.int .i64 _) hF ?_
     refine zP fun ds => ?_
     refine zD hF (y_fieldAddr rf fa57_0) ?_
     refine zD hF (y_load1 rf Tryz.isAgg22 (Mem.own1 2 rf rf)) ?_
     refine zm (.int .i64 _) hF ?_
     refine zD hF (y_index (k := k) rf rf r1 d10 Tryz.runUnderlying22 Tryz.sizeOf3) ?_
     refine zD hF (y_load1 rf Tryz.isAgg3 zo) ?_
     refine zD hF (y_add rf rf ui) ?_
     refine zm (.int .i64 _) hF ?_
     refine WS_newS hF rf (y_buildSliceL bs22_1_0 rf) (fun b4 => ?_)
     refine zD hF (y_callL rf rf Tryz.call80 (fun w hw => in_any _ _ _ _ _ _ w dc (by first | exact Ints.one 0 rfl w hw | exact Ints.two 0 rfl w hw))) ?_
     refine zD hF (y_not rf) ?_
     refine zN ?_
     refine W_cond rf (fun c7 => ?_) (fun c7 => ?_)
     ·
      try simp only [qz1, qz2, qz3, qz4, qz5, qz6, qz7, qz8] at c7
      refine zR fun ds => ?_
      refine za (.pointer _) hF ?_
      refine za (.bool _) hF ?_
      refine zN ?_
      refine W_ret ?_
      refine InB_ret ?_
      refine Then_ret ?_
      refine Loop_ret ?_
      refine InB_ret ?_
      refine Then_ret ?_
      refine Fin_ret [.pointer _, .bool _] [] Tryz.results136 ⟨by rfl, by rfl, trivial⟩ HSub.nil ?_
      exact GaugeV.bad (by simp [Tk.okB, t.incB_false (m := t.n - 1) om0 c7])
     ·
      try simp only [qz1, qz2, qz3, qz4, qz5, qz6, qz7, qz8] at c7
      refine W_skip ?_
      refine InB_normal ?_
      refine zT fun ds => ?_
      refine zD hF (y_add rf rf ui) ?_
      refine zm (.int .i64 _) hF ?_
      refine WS_nil ?_
      exact Loop_next (k + 1) ⟨by omega, by rw [t.incB_succ k, hinc, c7]; rfl⟩ s10 s20 om0
    ·
     try simp only [qz1, qz2, qz3, qz4, qz5, qz6, qz7, qz8] at c5
     have hkn : k = t.n - 1 := by omega
     subst hkn
     have hf : At w b (o + (t.n - 1) * 1) [.int .i64 t.full] := hx.at (k := t.n - 1) om0
     refine W_exit ?_
     refine Then_exit ?_
     refine Loop_exit ?_
     refine InB_same ?_
     refine Then_normal ?_
     refine W_seq ?_
     refine W_draw0 hF Tryzmixed [] dk0 (fun ds => ?_)
     refine P_det rf (Over_nil (y_loadN rf Tryz.isAgg57 Tryz.sizeOf57 (Mem.own (us := [.slice _ _ _, .int .i64 _, .int .i64 _]) 2 rf rf) rf)) ?_
     refine P_det rf (Over_nil (y_fieldAddr rf fa57_0)) ?_
     refine P_det rf (Over_nil (y_load1 rf Tryz.isAgg22 (Mem.own1 2 rf rf))) ?_
     refine P_det rf (Over_nil (y_move (c := .int .i64 _) rf)) ?_
     refine P_det rf (Over_nil (y_sub rf rf ui)) ?_
     refine P_det rf (Over_nil (y_index (k := t.n - 1) rf rf r1 d10 Tryz.runUnderlying22 Tryz.sizeOf3)) ?_
     refine P_det rf (Over_nil (y_load1 rf Tryz.isAgg3 zo)) ?_
     refine P_det rf (Over_nil (y_move (c := .int .i64 _) rf)) ?_
     refine P_det rf (Over_nil (y_sub rf rf ui)) ?_
     refine P_det rf (Over_nil (y_mul rf rf ui)) ?_
     refine P_det rf (Over_nil (y_buildL bd143_0_1_2 rf)) ?_
     refine P_new rf rf (Over_nil (y_box rf)) ?_
     refine P_ali [60] (fun e => e 60) rf rf rf (fun _ _ h => h 60 (List.mem_singleton.2 rfl)) (Over_in rf (Over_nil (by rintro _ _ ⟨b6, rfl, rfl⟩; exact (YD0_of (y_assign (c := .pointer _) rf))))) ?_
     refine PW_end rf ?_
     refine OverAll_cons (fun w7 l7 => ?_)
     refine OverAll_cons (fun w60 l60 => ?_)
     refine OverAll_nil ?_
     rintro ⟨⟨-, h7⟩, h60⟩
     obtain ⟨b5, rfl, rfl⟩ := h60
     obtain ⟨h7, rfl⟩ := h7
     replace h7 : w7 = .pointer _ := h7
     subst h7
     refine Then_normal ?_
     refine W_seq ?_
     refine W_draw0 hF Tryzmixed [] dk0 (fun ds => ?_)
     refine P_det rf (Over_nil (y_move (c := .pointer _) rf)) ?_
     refine P_det rf (Over_nil (y_move (c := .pointer _) rf)) ?_
     refine P_det rf (Over_nil znk) ?_
     refine P_det rf (Over_nil (y_fieldAddr rf fa143_2)) ?_
     refine P_det rf (Over_nil (y_load1 rf Tryz.isAgg3 (Mem.own1 0 rf rf))) ?_
     refine P_det rf (Over_nil (y_fieldAddr rf fa57_2)) ?_
     refine P_det rf (Over_nil (y_load1 rf Tryz.isAgg3 (Mem.own1 3 rf rf))) ?_
     refine P_new rf rf (Over_nil (y_buildSliceL bs22_1_0 rf)) ?_
     refine P_det rf (Over_in rf (Over_nil (by rintro _ _ ⟨b9, rfl, rfl⟩; exact (y_callL rf rf Tryz.call80 (fun w hw => in_any _ _ _ _ _ _ w dc (by first | exact Ints.one 0 rfl w hw | exact Ints.two 0 rfl w hw)))))) ?_
     refine P_det rf (Over_out rf (Over_nil (y_assign (c := .pointer _) rf))) ?_
     refine P_det rf (Over_out rf (Over_nil (y_assign (c := .bool _) rf))) ?_
     refine PW_end rf ?_
     refine OverAll_cons (fun w68 l68 => ?_)
     refine OverAll_nil ?_
     rintro ⟨-, h68⟩
     obtain ⟨b8, rfl, rfl⟩ := h68
     refine Then_normal ?_
     refine W_ret ?_
     have hok : inB 0 (8 * ((t.n : Int) - 1)) [t.foot] = t.okB := by simp [Tk.okB, *]
     refine Fin_ret [.pointer _, .bool _] (cond t.okB [(b5, _)] []) Tryz.results136 ⟨by rfl, by rfl, trivial⟩ (by cases t.okB; exact HSub.nil; exact (HSub.sub (by repeat (first | exact List.nil_sublist _ | apply List.Sublist.cons_cons | apply List.Sublist.cons)))) ?_
     show GaugeV _ _ _ (Value.tuple #[Value.pointer _, Value.bool (inB 0 (8 * ((t.n : Int) - 1)) [t.foot])]) _
     rw [hok]
     refine ⟨_, rfl, fun h => ?_, fun h => by rw [h]; rfl⟩
     rw [h]
     exact ⟨_, rfl, rfl⟩
theorem Gg.own {C : Ctx} {H : List Blk} {g : Nat} {t : Tk} {a : Option Addr} {cap : Nat} (hm : (g, CB [.slice a t.n cap, .int .i64 t.leak, .int .i64 t.foot, .int .i64 t.full, .int .i64 t.height] 143) ∈ H) (hok : t.okB = true) (hx : Ints C.w0 a t.n cap t.pints) (w : World) (hw : St C H w) : Gg w g 0 t := by
 obtain ⟨i, hi, he⟩ := List.mem_iff_getElem.1 hm
 exact ⟨Tk.ok_iff.1 hok, a, cap, Mem.own (rest := []) i ((List.getElem?_eq_getElem hi).trans (congrArg some he)) rfl w hw, hx.st w hw⟩
def partV0 : Value := .agg #[.int .i64 0, .int .i64 0]
def Tk.volume (t : Tk) (x : Int) : Value :=
 if t.okB then if inB 0 t.height [x] then .tuple #[lowI (t.eight x) 8, .int .i64 0] else .tuple #[partV0, .int .i64 2] else .tuple #[partV0, .int .i64 30]
def Tk.eighthV (t : Tk) (x : Int) (i : Nat) : Value :=
 if t.okB then if inB 0 t.full [x] then .tuple #[if i < t.n ∧ t.p i = x then lowI (8 * i) 1 else lowI (8 * (((i : Int) - 1) * (t.p i - t.p (i - 1)) + x - t.p (i - 1))) (t.p i - t.p (i - 1)), .int .i64 0] else .tuple #[partV0, .int .i64 2] else .tuple #[partV0, .int .i64 30]
structure Tk.Lb (t : Tk) (x : Int) (i : Nat) : Prop where
 le : i ≤ t.n
 lo : ∀ k, k < i → t.p k < x
 hi : ∀ k, i ≤ k → k < t.n → x ≤ t.p k
def Tk.range (t : Tk) (x y : Int) : Value :=
 if t.okB then if inB 0 t.height [x, y] && decide (x ≤ y) then if t.down y < t.up x then .tuple #[partV0, .int .i64 6] else .tuple #[.agg #[.int .i64 (t.up x), .int .i64 (t.down y)], .int .i64 0] else .tuple #[partV0, .int .i64 2] else .tuple #[partV0, .int .i64 30]
end Go.Proofs.YtjekjehgmljbgaaGreatDoor.T
namespace Go.Eng
open Go.RowKit
def rowOf {α : Type} (enc : α → List Value) (f : Nat → α) (n : Nat) : List Value := (List.range n).flatMap fun k => enc (f k)
section
variable {α : Type} {enc : α → List Value} {sz : Nat}
theorem rowOf_succ (f : Nat → α) (n : Nat) : rowOf enc f (n + 1) = rowOf enc f n ++ enc (f n) := by
 unfold rowOf; rw [List.range_succ, List.flatMap_append]; simp
theorem rowOf_len (hz : ∀ x, (enc x).length = sz) (f : Nat → α) : ∀ n, (rowOf enc f n).length = n * sz
 | 0 => by simp [rowOf]
 | n + 1 => by rw [rowOf_succ, List.length_append, rowOf_len hz f n, hz, Nat.add_mul, Nat.one_mul]
theorem rowOf_congr {f g : Nat → α} : ∀ n, (∀ k, k < n → f k = g k) → rowOf enc f n = rowOf enc g n
 | 0, _ => rfl
 | n + 1, h => by rw [rowOf_succ, rowOf_succ, rowOf_congr n fun k hk => h k om0, h n om0]
theorem rowOf_split (hz : ∀ x, (enc x).length = sz) (f : Nat → α) (k : Nat) : ∀ n, k < n → ∃ t, rowOf enc f n = rowOf enc f k ++ (enc (f k) ++ t) ∧ t = rowOf enc (fun j => f (k + 1 + j)) (n - (k + 1))
 | n + 1, h => by
  by_cases hk : k = n
  ·subst hk
   exact ⟨[], by rw [rowOf_succ, List.append_nil], by rw [Nat.sub_self]; rfl⟩
  ·obtain ⟨t, h1, h2⟩ := rowOf_split hz f k n om0
   refine ⟨t ++ enc (f n), by rw [rowOf_succ, h1]; simp, ?_⟩
   rw [show n + 1 - (k + 1) = (n - (k + 1)) + 1 by omega, rowOf_succ, ← h2, show k + 1 + (n - (k + 1)) = n by omega]
theorem rowOf_drop (hz : ∀ x, (enc x).length = sz) (f : Nat → α) {k n : Nat} (h : k < n) : ∃ t, (rowOf enc f n).drop (k * sz) = enc (f k) ++ t := by
 obtain ⟨t, h1, _⟩ := rowOf_split hz f k n h
 exact ⟨t, by rw [h1, ← rowOf_len hz f k, List.drop_left]⟩
theorem rowOf_get (hz : ∀ x, (enc x).length = sz) (f : Nat → α) {k n j : Nat} (h : k < n) {v : Value} (hv : (enc (f k))[j]? = some v) : (rowOf enc f n)[k * sz + j]? = some v := by
 obtain ⟨t, ht⟩ := rowOf_drop hz f h
 have h2 := congrArg (fun l => l[j]?) ht
 simp only [List.getElem?_drop] at h2
 rw [h2, List.getElem?_append_left (by have := List.getElem?_eq_some_iff.1 hv; exact this.1)]; exact hv
theorem rowOf_splice (hz : ∀ x, (enc x).length = sz) {f g : Nat → α} {k n : Nat} (h : k < n) {us : List Value} (hk : us = enc (g k)) (ho : ∀ j, j < n → j ≠ k → g j = f j) : splice (rowOf enc f n) (k * sz) us = rowOf enc g n := by
 obtain ⟨t, h1, h2⟩ := rowOf_split hz f k n h
 obtain ⟨t', h1', h2'⟩ := rowOf_split hz g k n h
 have ht : t = t' := by
  rw [h2, h2']
  exact rowOf_congr _ fun j hj => (ho _ om0 om0).symm
 have hp : rowOf enc f k = rowOf enc g k := rowOf_congr k fun j hj => (ho j om0 om0).symm
 subst hk
 unfold splice
 rw [h1', ← ht, ← hp, h1, hz, ← rowOf_len hz f k, List.take_left, List.append_assoc]
 congr 2
 rw [List.drop_append, List.drop_of_length_le om0, List.nil_append, Nat.add_sub_cancel_left, ← hz (f k), List.drop_left]
end
theorem range_mod (zs : List Value) : ∀ n, (List.range (n * zs.length)).map (fun i => zs[i % zs.length]!) = (List.range n).flatMap fun _ => zs
 | 0 => by simp
 | n + 1 => by
  rw [Nat.add_mul, Nat.one_mul, List.range_add, List.map_append, range_mod zs n, List.range_succ, List.flatMap_append]
  congr 1
  simp only [List.flatMap_cons, List.flatMap_nil, List.append_nil, List.map_map]
  refine List.ext_getElem (by simp) fun i h1 h2 => ?_
  simp only [List.getElem_map, List.getElem_range, Function.comp]
  rw [Nat.add_comm, Nat.add_mul_mod_self_right, Nat.mod_eq_of_lt h2]
  simp [h2]
section
variable {C : Ctx} {e : Env} {H : List Blk} {d : Option Tmp} {ty : TypeId} {pos : String} {af : Array Edge} {g : Option (Nat × Bool)}
theorem run_makeSlice {P : Program} {w : World} {T E : TypeId} {i : TypeInfo} {z : Value} {zs : List Value} {kl kc : IntKind} {n : Nat} (hT : P.underlying T = some (.slice E)) (hi : P.info? E = some i) (hz : i.zero = some z) (hzs : z.cells = zs.toArray) (hsz : zs.length = i.size)
  (hb : n * i.bytes ≤ 140737488355328) (hn : n ≤ 140737488355328) :
  (Instr.makeSlice T (.int kl n) (.int kc n)).run P w = .ok (.slice (some ⟨w.heap.size, 0, none⟩) n n) (w.alloc (CB ((List.range n).flatMap fun _ => zs) E)) := by
 have wl : IntKind.i64.wrap (n : Int) = n := by rw [IntKind.wrap_i64]; omega
 have hb' : (i.bytes : Int) * (n : Int) ≤ 281474976710656 := by
  have h : ((n * i.bytes : Nat) : Int) ≤ 281474976710656 := by omega
  rw [Int.natCast_mul] at h
  rwa [Int.mul_comm]
 have n1 : ¬ (n : Int) < 0 := by omega
 have n2 : ¬ (281474976710656 < (i.bytes : Int) * (n : Int)) := by omega
 have hcells : (Array.map (fun x => zs[x % i.size]!) (Array.range (n * i.size))) = ((List.range n).flatMap fun _ => zs).toArray := by
  have h := range_mod zs n
  rw [hsz] at h
  rw [← h, ← List.map_toArray, ← Array.toList_range]
 by_cases h0 : n * i.size = 0
 ·have hz0 : (List.range n).flatMap (fun _ => zs) = [] := by
   rw [← range_mod zs n, hsz, h0]; rfl
  simp [go_sem, Instr.makeSlice, run_underlying hT, typeInfo, sizeOf, hi, asInt, asIntOf, wl, n1, n2, askRoom, h0, newRow, newObj, CB, hz0]
  rfl
 ·unfold CB
  rw [← hcells]
  have hz2 := hzs
  unfold Value.cells at hz2
  have hg : ∀ x : Nat, zs.toArray[x]! = zs[x]! := fun x => by simp
  simp [-List.getElem!_eq_getElem?_getD, go_sem, Instr.makeSlice, run_underlying hT, typeInfo, sizeOf, hi, asInt, asIntOf, wl, n1, n2, askRoom, h0, newRow, newObj, zeroValue, hz]
  simp only [hz2, List.size_toArray, hsz, hg]
  rfl
theorem y_makeSlice {x y : Operand} {T E : TypeId} {z : Value} {zs : List Value} {kl kc : IntKind} {n sz by_ : Nat} {l c : Int} (hx : ev e x = .int kl l) (hy : ev e y = .int kc c) (hl : l = (n : Int)) (hc : c = (n : Int))
  (hT : C.P.underlying T = some (.slice E)) (hinf : (C.P.info? E).map (fun i => (i.zero, i.size, i.bytes)) = some (some z, sz, by_)) (hzs : z.cells = zs.toArray) (hsz : zs.length = sz) (hb : n * by_ ≤ 140737488355328) (hn : n ≤ 140737488355328) :
  YR C ⟨d, .makeSlice T x y, ty, pos, af, g⟩ e H (NewSlice (CB ((List.range n).flatMap fun _ => zs) E) n) := fun w _ => by
 obtain ⟨i, hi, hz, hsz', hby⟩ := info_parts hinf
 subst hl hc hsz' hby
 have : (execOp (ev e) ⟨d, .makeSlice T x y, ty, pos, af, g⟩).run C.P w = .ok (.value (.slice (some ⟨w.heap.size, 0, none⟩) n n)) (w.alloc (CB ((List.range n).flatMap fun _ => zs) E)) := by
  simp [execOp, hx, hy, run_makeSlice (w := w) (kl := kl) (kc := kc) hT hi hz hzs hsz hb hn]
 rw [this]; exact out_new (fun h => by cases h) ⟨_, rfl, rfl⟩
end
end Go.Eng
namespace Go.Eng
open Go.RowKit
section
variable {P : Program} {F : Fence}
structure TailZ (ops : Array Oper) (m z : Nat) : Prop where
 down : ∀ i k, edge ops i k = true → k < i
 chain : ∀ i, m < i → i < ops.size → edge ops i (i - 1) = true
 all : ∀ j, j < m → j ≠ z → ∃ k, j < k ∧ k ≤ m ∧ k ≠ z ∧ edge ops k j = true
 last : m + 1 < ops.size → edge ops (m + 1) z = true
 zlt : z < m
 guard : ∀ (i : Nat) (o : Oper), i < m → ops[i]? = some o → ∀ j b, o.guard = some (j, b) → j < m
def tailZB (ops : Array Oper) (m z : Nat) : Bool :=
 ((List.range ops.size).all fun i => (ops[i]?.map fun o => o.after.all fun e => !Region.binds .any e || Nat.blt e.on i).getD true) &&
 ((List.range ops.size).all fun i => !Nat.blt m i || edge ops i (i - 1)) &&
 ((List.range m).all fun j => Nat.beq j z || (List.range (m + 1)).any fun k => Nat.blt j k && !Nat.beq k z && edge ops k j) &&
 (!Nat.blt (m + 1) ops.size || edge ops (m + 1) z) && Nat.blt z m &&
 ((List.range m).all fun i => (ops[i]?.map fun o => match o.guard with | some (j, _) => Nat.blt j m | none => true).getD true)
theorem tailZ_of {ops : Array Oper} {m z : Nat} (h : tailZB ops m z = true) : TailZ ops m z := by
 unfold tailZB at h
 simp only [Bool.and_eq_true, List.all_eq_true, List.mem_range] at h
 obtain ⟨⟨⟨⟨⟨h1, h2⟩, h3⟩, h5⟩, h6⟩, h4⟩ := h
 refine ⟨fun i k hk => ?_, fun i hi hs => ?_, fun j hj hz => ?_, fun hs => ?_, by rwa [Nat.blt_eq] at h6, fun i o hi ho j b hg => ?_⟩
 ·have hi := edge_lt hk
  have := h1 i hi
  unfold edge at hk
  rw [Array.getElem?_eq_getElem hi] at hk this
  simp only [Option.map_some, Option.getD_some, Array.any_eq_true, Array.all_eq_true, Bool.and_eq_true, beq_iff_eq] at hk this
  obtain ⟨x, hx, he, hb⟩ := hk
  have := this x hx
  rw [he, hb] at this
  simpa using this
 ·have := h2 i hs
  have hb : Nat.blt m i = true := by rw [Nat.blt_eq]; exact hi
  simpa [hb] using this
 ·have := h3 j hj
  have hb : Nat.beq j z = false := by
   cases hb : Nat.beq j z with
   | false => rfl
   | true => exact absurd (Nat.eq_of_beq_eq_true hb) hz
  simp only [hb, Bool.false_or, List.any_eq_true, List.mem_range, Bool.and_eq_true, Nat.blt_eq, Bool.not_eq_true'] at this
  obtain ⟨k, hk, ⟨hjk, hkz⟩, he⟩ := this
  exact ⟨k, hjk, by omega, Nat.ne_of_beq_eq_false hkz, he⟩
 ·have hb : Nat.blt (m + 1) ops.size = true := by rw [Nat.blt_eq]; exact hs
  simpa [hb] using h5
 ·have := h4 i hi
  rw [ho] at this
  simp only [Option.map_some, Option.getD_some, hg, Nat.blt_eq] at this
  exact this
theorem tail_run2 {ops : Array Oper} {m : Nat} {Q : Exit → Act → World → Prop} (hdown : ∀ i k, edge ops i k = true → k < i) (hchain : ∀ i, m < i → i < ops.size → edge ops i (i - 1) = true) : ∀ (rest : List Oper) (i fuel : Nat) (listed : Array Bool) (a : Act) (w : World),
  (∀ j, rest[j]? = ops[i + j]?) → m ≤ i → i + rest.length = ops.size → listed.size = ops.size → (∀ j, Lst listed j ↔ j < i) → rest.length ≤ fuel → wpListIn F 0 P ops Q rest a w →
  wpAnyIn F 0 P .any ops Q fuel listed a w := by
 intro rest
 induction rest with
 | nil =>
  intro i fuel listed a w _ _ hsz hls hl _ h
  have hr : Region.ready .any ops listed = [] := by
   refine List.eq_nil_iff_forall_not_mem.2 fun j hj => ?_
   obtain ⟨h1, h2, _⟩ := ready_mem.1 hj
   have : Lst listed j := (hl j).2 (by simp at hsz; omega)
   unfold Lst at this
   rw [Array.getD_eq_getD_getElem?, Array.getElem?_eq_getElem (by rw [hls]; exact h1)] at this h2
   simp only [Option.getD_some] at this h2
   rw [this] at h2; cases h2
  cases fuel with
  | zero => exact ⟨hr, h⟩
  | succ f => exact ⟨fun _ => h, fun j hj => (by rw [hr] at hj; cases hj)⟩
 | cons o rest ih =>
  intro i fuel listed a w hget hm hsz hls hl hf h
  obtain ⟨f, rfl⟩ : ∃ f, fuel = f + 1 := ⟨fuel - 1, by simp at hf; omega⟩
  have hi : i < ops.size := by simp at hsz; omega
  have ho : ops[i]? = some o := by have := hget 0; simpa using this.symm
  have hni : listed.getD i true = false := by
   cases hb : listed.getD i true with
   | false => rfl
   | true =>
    have : Lst listed i := by
     unfold Lst
     rw [Array.getD_eq_getD_getElem?, Array.getElem?_eq_getElem (by rw [hls]; exact hi)] at hb ⊢
     exact hb
    have := (hl i).1 this
    omega
  have hin : i ∈ Region.ready .any ops listed := ready_mem.2 ⟨hi, hni, o, ho, fun e he hb => by
   have hed : edge ops i e.on = true := by
    unfold edge
    rw [ho]
    simp only [Option.map_some, Option.getD_some, Array.any_eq_true]
    obtain ⟨k, hk, rfl⟩ := Array.mem_iff_getElem.1 he
    exact ⟨k, hk, by simp [hb]⟩
   exact (hl e.on).2 (hdown i e.on hed)⟩
  refine ⟨fun hr => (by rw [hr] at hin; cases hin), fun j hj => ?_⟩
  have hji : j = i := by
   obtain ⟨h1, h2, _⟩ := ready_mem.1 hj
   have hnl : ¬ Lst listed j := fun hlj => by
    unfold Lst at hlj
    rw [Array.getD_eq_getD_getElem?, Array.getElem?_eq_getElem (by rw [hls]; exact h1)] at hlj h2
    simp only [Option.getD_some] at hlj h2
    rw [hlj] at h2; cases h2
   rw [hl] at hnl
   refine Classical.byContradiction fun hne => ?_
   have := edge_of_ready hj (j - 1) (hchain j om0 h1)
   rw [hl] at this
   omega
  subst hji
  unfold wpOpIn
  rw [ho]
  simp only []
  have hrec : ∀ a w, wpListIn F 0 P ops Q rest a w → wpAnyIn F 0 P .any ops Q f (listed.setIfInBounds j true) a w := fun a w h => by
   refine ih (j + 1) f _ a w (fun t => ?_) om0 (by simp at hsz ⊢; omega) (by simp [hls]) (fun t => ?_) (by simp at hf; omega) h
   ·have := hget (t + 1)
    rw [List.getElem?_cons_succ] at this
    rw [this]; congr 1; omega
   ·rw [lst_set (by rw [hls]; exact hi), hl]; omega
  unfold wpListIn at h
  split at h
  ·rename_i hw
   rw [if_pos hw]
   exact wpIn_to hrec (fun _ _ _ _ h => h) h
  ·rename_i hw
   rw [if_neg hw]
   exact ⟨h.1, hrec _ _ h.2⟩
theorem tail_anyZ {pre post' : List Oper} {om oz : Oper} {z : Nat} {Q Q' : Exit → Act → World → Prop} (ht : TailZ (pre ++ om :: post').toArray pre.length z) (hoz : pre[z]? = some oz) (hd : ∀ i k, edge pre.toArray i k = true → k < i)
  (hq : ∀ x, x ≠ .normal → ∀ a w, Q' x a w → Q x a w) (hn : ∀ a w, Q' .normal a w → wpListIn F 0 P (pre ++ om :: post').toArray Q (om :: post') a w)
  (hx : ∀ a w, wpOpIn F 0 P pre.toArray Q' z (fun a w => Q' .normal a w) a w → wpListIn F 0 P (pre ++ om :: post').toArray Q (om :: oz :: post') a w) :
  ∀ (fuel fuel2 : Nat) (listed : Array Bool) (a : Act) (w : World), listed.size = pre.length → (∀ j k, Lst listed j → edge pre.toArray j k = true → Lst listed k) → fuel + (om :: post').length ≤ fuel2 →
   wpAnyIn F 0 P .any pre.toArray Q' fuel listed a w → wpAnyIn F 0 P .any (pre ++ om :: post').toArray Q fuel2 (listed ++ Array.replicate (om :: post').length false) a w := by
 have hgetl : ∀ (listed : Array Bool) (j : Nat) (b : Bool), listed.size = pre.length → j < pre.length → (listed ++ Array.replicate (om :: post').length false).getD j b = listed.getD j b := fun listed j b hs hj => by
  rw [Array.getD_eq_getD_getElem?, Array.getD_eq_getD_getElem?, Array.getElem?_append_left om0]
 have hgetr : ∀ (listed : Array Bool) (j : Nat), listed.size = pre.length → pre.length ≤ j → (listed ++ Array.replicate (om :: post').length false).getD j false = false := fun listed j hs hj => by
  rw [Array.getD_eq_getD_getElem?, Array.getElem?_append_right om0, Array.getElem?_replicate]
  split <;> rfl
 have hop : ∀ j, j < pre.length → (pre ++ om :: post').toArray[j]? = pre.toArray[j]? := fun j hj => by simp [List.getElem?_append_left hj]
 have hedge : ∀ j k, j < pre.length → edge (pre ++ om :: post').toArray j k = edge pre.toArray j k := fun j k hj => by unfold edge; rw [hop j hj]
 -- all that is ahead is done
 have full : ∀ (fuel2 : Nat) (listed : Array Bool) (a : Act) (w : World), listed.size = pre.length → (∀ j, j < pre.length → Lst listed j) → (om :: post').length ≤ fuel2 → Q' .normal a w →
   wpAnyIn F 0 P .any (pre ++ om :: post').toArray Q fuel2 (listed ++ Array.replicate (om :: post').length false) a w := fun fuel2 listed a w hs hl hf h => by
  refine tail_run2 ht.down ht.chain (om :: post') pre.length fuel2 _ a w (fun j => by simp [List.getElem?_append_right]) (Nat.le_refl _) (by simp) (by simp [hs]) (fun j => ?_) hf (hn a w h)
  unfold Lst
  by_cases hj : j < pre.length
  ·rw [hgetl listed j false hs hj]; exact ⟨fun _ => hj, fun _ => hl j hj⟩
  ·rw [hgetr listed j hs om0]; exact ⟨fun h => (by cases h), fun h => absurd h hj⟩
 intro fuel
 induction fuel with
 | zero =>
  intro fuel2 listed a w hs _ hf h
  exact full fuel2 listed a w hs (fun j hj => all_of_ready_nil hd (by simp [hs]) h.1 j (by simpa using hj)) om0 h.2
 | succ fuel ih =>
  intro fuel2 listed a w hs hdc hf h
  by_cases hr : Region.ready .any pre.toArray listed = []
  ·exact full fuel2 listed a w hs (fun j hj => all_of_ready_nil hd (by simp [hs]) hr j (by simpa using hj)) om0 (h.1 hr)
  ·obtain ⟨f2, rfl⟩ : ∃ f2, fuel2 = f2 + 1 := ⟨fuel2 - 1, by omega⟩
   have hz1 : z < pre.length := ht.zlt
   have hiff0 : ∀ i, i ∈ Region.ready .any (pre ++ om :: post').toArray (listed ++ Array.replicate (om :: post').length false) → pre.length ≤ i → i = pre.length ∧ ∀ j, j < pre.length → j ≠ z → Lst listed j := fun i hi hge => by
    have hed := edge_of_ready hi
    obtain ⟨h1, h2, o, ho, h3⟩ := ready_mem.1 hi
    by_cases hm : i = pre.length
    ·subst hm
     refine ⟨rfl, ?_⟩
     have hall : ∀ t, ∀ j, pre.length - t ≤ j → j < pre.length → j ≠ z → Lst listed j := by
      intro t
      induction t with
      | zero => intro j h1 h2; omega
      | succ t iht =>
       intro j hj1 hj2 hjz
       by_cases hlt : pre.length - t ≤ j
       ·exact iht j hlt hj2 hjz
       ·obtain ⟨k, hk1, hk2, hkz, hk3⟩ := ht.all j hj2 hjz
        by_cases hkm : k = pre.length
        ·subst hkm
         have := hed j hk3
         unfold Lst at this ⊢
         rwa [hgetl listed j false hs hj2] at this
        ·have hk := iht k om0 om0 hkz
         rw [hedge k j om0] at hk3
         exact hdc k j hk hk3
     intro j hj hjz
     exact hall pre.length j om0 hj hjz
    ·have := hed (i - 1) (ht.chain i om0 h1)
     unfold Lst at this
     rw [hgetr listed (i - 1) hs om0] at this
     cases this
   have hiff : ∀ i, i ∈ Region.ready .any (pre ++ om :: post').toArray (listed ++ Array.replicate (om :: post').length false) → i < pre.length → i ∈ Region.ready .any pre.toArray listed := fun i hi him => by
    obtain ⟨h1, h2, o, ho, h3⟩ := ready_mem.1 hi
    rw [hop i him] at ho
    refine ready_mem.2 ⟨by simpa using him, by rwa [hgetl listed i true hs him] at h2, o, ho, fun e he hb => ?_⟩
    have hek := h3 e he hb
    have hlt : e.on < i := hd i e.on (by
     unfold edge
     rw [ho]
     simp only [Option.map_some, Option.getD_some, Array.any_eq_true]
     obtain ⟨k, hk, rfl⟩ := Array.mem_iff_getElem.1 he
     exact ⟨k, hk, by simp [hb]⟩)
    rwa [hgetl listed e.on false hs om0] at hek
   refine ⟨fun hr2 => ?_, fun i hi => ?_⟩
   ·-- some operation is ready
    exfalso
    obtain ⟨i, hi⟩ := List.exists_mem_of_ne_nil _ hr
    obtain ⟨h1, h2, o, ho, h3⟩ := ready_mem.1 hi
    have him : i < pre.length := by simpa using h1
    have : i ∈ Region.ready .any (pre ++ om :: post').toArray (listed ++ Array.replicate (om :: post').length false) := ready_mem.2 ⟨by simp; omega, by rw [hgetl listed i true hs him]; exact h2, o, by rw [hop i him]; exact ho, fun e he hb => by
     have hlt : e.on < i := hd i e.on (by
      unfold edge
      rw [ho]
      simp only [Option.map_some, Option.getD_some, Array.any_eq_true]
      obtain ⟨k, hk, rfl⟩ := Array.mem_iff_getElem.1 he
      exact ⟨k, hk, by simp [hb]⟩)
     rw [hgetl listed e.on false hs om0]
     exact h3 e he hb⟩
    rw [hr2] at this; cases this
   ·by_cases him : i < pre.length
    case neg =>
     obtain ⟨rfl, hall⟩ := hiff0 i hi om0
     -- only z is not done yet
     have hzr : z ∈ Region.ready .any pre.toArray listed := by
      obtain ⟨i, hi⟩ := List.exists_mem_of_ne_nil _ hr
      have hiz : i = z := Classical.byContradiction fun hne => by
       obtain ⟨g1, g2, _⟩ := ready_mem.1 hi
       have := hall i (by simpa using g1) hne
       unfold Lst at this
       rw [Array.getD_eq_getD_getElem?, Array.getElem?_eq_getElem (by rw [hs]; simpa using g1)] at this g2
       simp only [Option.getD_some] at this g2
       rw [this] at g2; cases g2
      rwa [hiz] at hi
     have hznl : listed.getD z true = false := (ready_mem.1 hzr).2.1
     have hh := h.2 z hzr
     have hh2 : wpOpIn F 0 P pre.toArray Q' z (fun a w => Q' .normal a w) a w := wpOpIn_mono (fun a w hk => by
      have hr0 : Region.ready .any pre.toArray (listed.setIfInBounds z true) = [] := by
       refine List.eq_nil_iff_forall_not_mem.2 fun j hj => ?_
       obtain ⟨g1, g2, _⟩ := ready_mem.1 hj
       have hjl : j < pre.length := by simpa using g1
       have : Lst (listed.setIfInBounds z true) j := by
        rw [lst_set (by rw [hs]; exact hz1)]
        by_cases hjz : j = z
        ·exact .inl hjz
        ·exact .inr (hall j hjl hjz)
       unfold Lst at this
       rw [Array.getD_eq_getD_getElem?, Array.getElem?_eq_getElem (by simp [hs, hjl])] at this g2
       simp only [Option.getD_some] at this g2
       rw [this] at g2; cases g2
      cases fuel with
      | zero => exact hk.2
      | succ f => exact hk.1 hr0) hh
     have hw2 := hx a w hh2
     have hom : (pre ++ om :: post').toArray[pre.length]? = some om := by simp
     have hozf : (pre ++ om :: post').toArray[z]? = some oz := by rw [hop z hz1]; simpa using hoz
     have hsz2 : ((listed ++ Array.replicate (om :: post').length false).setIfInBounds pre.length true).size = (pre ++ om :: post').toArray.size := by simp [hs]
     have hl2 : ∀ j, Lst ((listed ++ Array.replicate (om :: post').length false).setIfInBounds pre.length true) j ↔ j ≤ pre.length ∧ j ≠ z := fun j => by
      rw [lst_set (by simp [hs])]
      unfold Lst
      constructor
      ·rintro (rfl | hj)
       ·exact ⟨Nat.le_refl _, by omega⟩
       ·by_cases hjl : j < pre.length
        ·refine ⟨by omega, fun hjz => ?_⟩
         subst hjz
         rw [hgetl listed j false hs hjl] at hj
         rw [Array.getD_eq_getD_getElem?, Array.getElem?_eq_getElem om0] at hj hznl
         simp only [Option.getD_some] at hj hznl
         rw [hj] at hznl; cases hznl
        ·rw [hgetr listed j hs om0] at hj; cases hj
      ·rintro ⟨h1, h2⟩
       by_cases hjm : j = pre.length
       ·exact .inl hjm
       ·refine .inr ?_
        rw [hgetl listed j false hs om0]; exact hall j om0 h2
     -- behind om: oz, then the others
     have hrest : ∀ a w, wpListIn F 0 P (pre ++ om :: post').toArray Q (oz :: post') a w → wpAnyIn F 0 P .any (pre ++ om :: post').toArray Q f2 ((listed ++ Array.replicate (om :: post').length false).setIfInBounds pre.length true) a w := fun a w hw => by
      obtain ⟨f3, rfl⟩ : ∃ f3, f2 = f3 + 1 := ⟨f2 - 1, by simp at hf; omega⟩
      have hzin : z ∈ Region.ready .any (pre ++ om :: post').toArray ((listed ++ Array.replicate (om :: post').length false).setIfInBounds pre.length true) := ready_mem.2 ⟨by simp; omega, by
       cases hb : ((listed ++ Array.replicate (om :: post').length false).setIfInBounds pre.length true).getD z true with
       | false => rfl
       | true =>
        have : Lst ((listed ++ Array.replicate (om :: post').length false).setIfInBounds pre.length true) z := by
         unfold Lst
         rw [Array.getD_eq_getD_getElem?, Array.getElem?_eq_getElem (by rw [hsz2]; simp; omega)] at hb ⊢
         exact hb
        exact absurd rfl ((hl2 z).1 this).2, oz, hozf, fun e he hb => by
       have hed : edge (pre ++ om :: post').toArray z e.on = true := by
        unfold edge
        rw [hozf]
        simp only [Option.map_some, Option.getD_some, Array.any_eq_true]
        obtain ⟨k, hk, rfl⟩ := Array.mem_iff_getElem.1 he
        exact ⟨k, hk, by simp [hb]⟩
       have hlt := ht.down z e.on hed
       exact (hl2 e.on).2 ⟨by omega, by omega⟩⟩
      refine ⟨fun hr2 => (by rw [hr2] at hzin; cases hzin), fun j hj => ?_⟩
      have hjz : j = z := by
       obtain ⟨g1, g2, _⟩ := ready_mem.1 hj
       have hnl : ¬ Lst ((listed ++ Array.replicate (om :: post').length false).setIfInBounds pre.length true) j := fun hlj => by
        unfold Lst at hlj
        rw [Array.getD_eq_getD_getElem?, Array.getElem?_eq_getElem (by rw [hsz2]; exact g1)] at hlj g2
        simp only [Option.getD_some] at hlj g2
        rw [hlj] at g2; cases g2
       rw [hl2] at hnl
       refine Classical.byContradiction fun hne => ?_
       have hgt : pre.length < j := by omega
       have he := edge_of_ready hj
       by_cases hj1 : j = pre.length + 1
       ·subst hj1
        have := he z (ht.last (by simpa using g1))
        rw [hl2] at this
        exact this.2 rfl
       ·have := he (j - 1) (ht.chain j om0 g1)
        rw [hl2] at this
        omega
      subst hjz
      unfold wpOpIn
      rw [hozf]
      simp only []
      have hrec : ∀ a w, wpListIn F 0 P (pre ++ om :: post').toArray Q post' a w → wpAnyIn F 0 P .any (pre ++ om :: post').toArray Q f3 (((listed ++ Array.replicate (om :: post').length false).setIfInBounds pre.length true).setIfInBounds j true) a w := fun a w hw => by
       refine tail_run2 ht.down ht.chain post' (pre.length + 1) f3 _ a w (fun t => ?_) om0 (by simp; omega) (by simp [hs]) (fun t => ?_) (by simp at hf; omega) hw
       ·simp [List.getElem?_append_right, Nat.add_assoc, Nat.add_comm 1 t]
       ·rw [lst_set (by rw [hsz2]; simp; omega), hl2]
        omega
      unfold wpListIn at hw
      split at hw
      ·rename_i hwt
       rw [if_pos hwt]
       exact wpIn_to hrec (fun _ _ _ _ h => h) hw
      ·rename_i hwt
       rw [if_neg hwt]
       exact ⟨hw.1, hrec _ _ hw.2⟩
     unfold wpOpIn
     rw [hom]
     simp only []
     unfold wpListIn at hw2
     split at hw2
     ·rename_i hwt
      rw [if_pos hwt]
      exact wpIn_to hrest (fun _ _ _ _ h => h) hw2
     ·rename_i hwt
      rw [if_neg hwt]
      exact ⟨hw2.1, hrest _ _ hw2.2⟩
    have hi' := hiff i hi him
    have hh := h.2 i hi'
    have hpre := edge_of_ready hi'
    obtain ⟨h1, h2, o, ho, h3⟩ := ready_mem.1 hi'
    have hset : (listed ++ Array.replicate (om :: post').length false).setIfInBounds i true = listed.setIfInBounds i true ++ Array.replicate (om :: post').length false := by
     refine Array.ext_getElem? fun t => ?_
     rw [Array.getElem?_setIfInBounds, Array.getElem?_append, Array.getElem?_append, Array.getElem?_setIfInBounds]
     simp only [Array.size_append, Array.size_setIfInBounds]
     by_cases hit : i = t
     ·subst hit; simp [hs, him]; omega
     ·simp [hit]
    have hrec : ∀ a w, wpAnyIn F 0 P .any pre.toArray Q' fuel (listed.setIfInBounds i true) a w → wpAnyIn F 0 P .any (pre ++ om :: post').toArray Q f2 ((listed ++ Array.replicate (om :: post').length false).setIfInBounds i true) a w := fun a w h => by
     rw [hset]
     refine ih f2 _ a w (by simp [hs]) (fun j k hj he => ?_) om0 h
     rw [lst_set om0] at hj ⊢
     rcases hj with rfl | hj
     ·exact .inr (hpre k he)
     ·exact .inr (hdc j k hj he)
    unfold wpOpIn at hh ⊢
    rw [hop i him, ho]
    rw [ho] at hh
    simp only [] at hh ⊢
    have hwant : Region.wanted o (yielded (pre ++ om :: post').toArray a.tmps) = Region.wanted o (yielded pre.toArray a.tmps) := by
     unfold Region.wanted
     cases hg : o.guard with
     | none => rfl
     | some gg =>
      obtain ⟨j, b⟩ := gg
      have hj := ht.guard i o him (by rw [hop i him]; exact ho) j b hg
      simp only [yielded, hop j hj]
    rw [hwant]
    split at hh
    ·rename_i hw
     rw [if_pos hw]
     exact wpIn_to hrec hq hh
    ·rename_i hw
     rw [if_neg hw]
     exact ⟨hh.1, hrec _ _ hh.2⟩
end
theorem far_np {P : Program} {w : World} {a : Addr} {b : Bool} {v : Value} (h : w.farLoad P a b = .error (.panic v)) : False := by
 unfold World.farLoad at h
 split at h
 ·split at h <;> cases h
 ·unfold World.noCell at h
  split at h <;> cases h
theorem ro_load {P : Program} {e : Operand → Value} {d : Option Tmp} {T : TypeId} {x : Operand} {ty : TypeId} {pos : String} {af : Array Edge} {g : Option (Nat × Bool)} (hA : ∀ w, (isAgg T).run P w = .ok false w) {w : World} :
  (∃ v, (execOp e ⟨d, .load T x, ty, pos, af, g⟩).run P w = .ok (.value v) w) ∨ ∃ h, (execOp e ⟨d, .load T x, ty, pos, af, g⟩).run P w = .halt h w ∧ ∀ v, h ≠ .panic v := by
 simp only [execOp, Instr.loadAt]
 unfold Instr.sureAddr
 split
 ·rename_i a _
  simp only [Sem.run_bind, Sem.run_pure, Result.andThen_ok, loadVar, hA, Bool.false_eq_true, if_false]
  simp only [run_load]
  split
  ·exact .inl ⟨_, rfl⟩
  ·split
   ·exact .inl ⟨_, rfl⟩
   ·rename_i h heq
    exact .inr ⟨h, rfl, fun v hv => by subst hv; exact far_np heq⟩
 ·exact .inr ⟨_, rfl, fun v hv => by cases hv⟩
section
variable {C : Ctx} {F : Fence} {n : Nat} {ds : List Deferred} {Q : Exit → Env → List Blk → Prop} {e : Env} {H : List Blk}
def tailZQ (C : Ctx) (F : Fence) (n : Nat) (ds : List Deferred) (all : Array Oper) (om oz : Oper) (d : Nat) (post : List Oper) (Q : Exit → Env → List Blk → Prop) : Exit → Env → List Blk → Prop
 | .normal, e, H => WS C F n ds all Q (om :: post) e H ∧ ∀ x, WS C F n ds all Q (om :: oz :: post) (upd e d x) H
 | x, e, H => Q x e H
theorem W_drawZ {id : Nat} {l post' : List Oper} {H0 : List Blk} (m z : Nat) {om oz : Oper} {T : TypeId} {xz : Operand} {dz : Nat} (hF : Wide F) (hm : C.P.follows .mixedOrders = true) (pres : List Pre) (slots S : List Nat) (hs : pres.map (·.slot) = slots)
  (hph : (phased (l.take m).toArray slots && ((l.take m).all fun o => dOk n o.dst && gOk n (l.take m).toArray o) && (slots.all fun p => S.contains p) && tailZB l.toArray m z && Nat.ble m l.length) = true) (hnd : slots.Nodup)
  (hdrop : l.drop m = om :: post') (hoz : l[z]? = some oz) (hop : oz.op = .load T xz) (hgz : oz.guard = none) (hdz : oz.dst = some dz) (hA : ∀ w, (isAgg T).run C.P w = .ok false w)
  (hH : HSub H (pres.map (fun p => (p.b, p.o)) ++ H0))
  (hp : ∀ ds, PW (C.at ds) (l.take m).toArray S (fun us e => OverAll (fun e H => WS (C.at ds) F n ds l.toArray Q (om :: post') e H ∧ ∀ x, WS (C.at ds) F n ds l.toArray Q (om :: oz :: post') (upd e dz x) H) (fun _ => True) us e H0) H0 (l.take m) [] (pres.map Pre.un) e) :
  W C F n ds (.region id l.toArray true) Q e H := fun dd w hw a ha => by
 subst hs
 rw [List.all_map] at hph
 simp only [Bool.and_eq_true] at hph
 obtain ⟨⟨⟨⟨hph, hdk⟩, hsub⟩, ht⟩, hml⟩ := hph
 have hml : m ≤ l.length := Nat.le_of_ble_eq_true hml
 have hlen : (l.take m).length = m := by simp; omega
 have hl : l.take m ++ om :: post' = l := by rw [← hdrop]; exact List.take_append_drop m l
 have ht' : TailZ (l.take m ++ om :: post').toArray (l.take m).length z := by rw [hl, hlen]; exact tailZ_of ht
 have hozp : (l.take m)[z]? = some oz := by
  rw [List.getElem?_take, if_pos (by have := ht'.zlt; omega)]; exact hoz
 have hdzn : dz < n := by
  have := List.all_eq_true.1 hdk oz (List.mem_of_getElem? hozp)
  simp only [Bool.and_eq_true] at this
  have := this.1
  rw [hdz] at this
  simpa [dOk, Nat.blt_eq] using this
 refine wpIn_mono (Q := lift (C.at dd) n dd Q) (wpIn_region_any hm ?_) fun _ _ _ h => lift_M h
 have h1 := draw_any (C := C.at dd) (ds := dd) (F := F) (n := n) (ops := (l.take m).toArray) (Q := tailZQ (C.at dd) F n dd l.toArray om oz dz post' Q) (e := e) (H := H) (H0 := H0) hF pres S (fun _ hw => ⟨hw.1, hH _ _ hw.2, hw.3⟩) hph (by simpa using hdk) hsub hnd (hp dd) w hw a ha
 have h2 := tail_anyZ (P := C.P) (F := F) (pre := l.take m) (post' := post') (om := om) (oz := oz) (z := z) (Q := lift (C.at dd) n dd Q) (Q' := lift (C.at dd) n dd (tailZQ (C.at dd) F n dd l.toArray om oz dz post' Q)) ht' hozp (phased_spec hph).down
  (fun x hx a w ⟨e, H, g1, g2, g3⟩ => ⟨e, H, g1, g2, by cases x <;> first | exact g3 | exact absurd rfl hx⟩) (fun a w ⟨e, H, g1, g2, g3⟩ => by rw [hl]; exact g3.1 w g2 a g1)
  (fun a w hz => by
   rw [hl]
   unfold wpOpIn at hz
   rw [show (l.take m).toArray[z]? = some oz by simpa using hozp] at hz
   simp only [] at hz
   rw [if_pos (by unfold Region.wanted; rw [hgz])] at hz
   obtain ⟨_, hz⟩ := hz
   obtain ⟨od, oop, oty, opos, oaf, og⟩ := oz
   simp only at hop hgz hdz
   subst hop hgz hdz
   rw [semAt_of rfl] at hz
   rcases ro_load (d := some dz) (x := xz) (ty := oty) (pos := opos) (af := oaf) (g := none) (e := a.eval) hA (w := w) with ⟨v, hr⟩ | ⟨x, hr, hnp⟩
   ·rw [hr] at hz
    obtain ⟨e', H', g1, g2, g3⟩ := hz
    have hrep : Rep n dd a (upd e' dz (a.tmps.getD dz undef)) := by
     refine ⟨by have := g1.size; simpa [Act.put] using this, by have := g1.defers; simpa [Act.put] using this, fun t => ?_⟩
     by_cases ht : t = dz
     ·subst ht; rw [upd_same]
     ·rw [upd_ne _ _ ht, ← g1.val t]
      simp only [Act.put, Array.getD_eq_getD_getElem?, Array.getElem?_setIfInBounds]
      rw [if_neg (fun h => ht h.symm)]
    exact g3.2 _ w g2 a hrep
   ·rw [hr] at hz
    cases x
    case panic v => exact absurd rfl (hnp v)
    all_goals exact hz.elim)
  (l.take m).toArray.size l.toArray.size (Array.replicate (l.take m).toArray.size false) a w.drew (by simp) (fun j k hj => by
   unfold Lst at hj
   rw [Array.getD_eq_getD_getElem?, Array.getElem?_replicate] at hj
   split at hj <;> cases hj) (by
    have := congrArg List.length hl
    simp only [List.length_append] at this
    simp at this ⊢; omega) h1
 rw [hl] at h2
 have hrep : Array.replicate (l.take m).toArray.size false ++ Array.replicate (om :: post').length false = Array.replicate l.toArray.size false := by
  rw [Array.replicate_append_replicate]
  congr 1
  have := congrArg List.length hl
  simp only [List.length_append] at this
  simp at this ⊢; omega
 rw [hrep] at h2
 exact h2
end
def SubP (H T : List Blk) : Prop := ∃ L, H.Perm (T ++ L)
theorem SubP.nil {H : List Blk} : SubP H [] := ⟨H, List.Perm.refl _⟩
theorem SubP.refl {H : List Blk} : SubP H H := ⟨[], by rw [List.append_nil]⟩
theorem SubP.drop {x : Blk} {H T : List Blk} (h : SubP H T) : SubP (x :: H) T := by
 obtain ⟨L, h⟩ := h
 exact ⟨x :: L, (h.cons x).trans List.perm_middle.symm⟩
theorem SubP.pick {x : Blk} {H T : List Blk} (i : Nat) (hi : H[i]? = some x) (h : SubP (H.eraseIdx i) T) : SubP H (x :: T) := by
 obtain ⟨L, h⟩ := h
 exact ⟨L, (perm_erase hi).trans (h.cons x)⟩
theorem SubP.hsub {H T : List Blk} (h : SubP H T) : HSub H T := by
 obtain ⟨L, h⟩ := h
 exact fun _ _ hk => (hk.perm h.symm).sub (List.sublist_append_left _ _)
theorem W_H {C : Ctx} {F : Fence} {n : Nat} {ds : List Deferred} {c : Code} {Q : Exit → Env → List Blk → Prop} {e : Env} {H H' : List Blk} (hH : H = H') (h : W C F n ds c Q e H') : W C F n ds c Q e H := by subst hH; exact h
section
variable {C : Ctx} {H : List Blk} {b o n k j sz : Nat} {α : Type} {enc : α → List Value} {f : Nat → α} {T : TypeId} {s : α} {v : Value}
theorem Mem.row (hz : ∀ x, (enc x).length = sz) (i : Nat) (hi : H[i]? = some (b, CB (rowOf enc f n) T)) (hk : k < n) (hs : f k = s) (ho : o = k * sz) : Mem C H b o (enc s) := by
 subst hs ho
 obtain ⟨t, ht⟩ := rowOf_drop hz f hk
 exact Mem.own i hi ht
theorem Mem.rowAt (hz : ∀ x, (enc x).length = sz) (i : Nat) (hi : H[i]? = some (b, CB (rowOf enc f n) T)) (hk : k < n) (hs : f k = s) (hv : (enc s)[j]? = some v) (ho : o = k * sz + j) : Mem C H b o [v] := by
 subst hs ho
 exact Mem.own1 i hi (rowOf_get hz f hk hv)
end
theorem SubP.dropL {X H T : List Blk} (h : SubP H T) : SubP (X ++ H) T := by
 obtain ⟨L, h⟩ := h
 exact ⟨X ++ L, (h.append_left X).trans (List.perm_append_comm_assoc ..)⟩
def tupAt : Value → Nat → Value
 | .tuple vs, i => vs.getD i undef
 | _, _ => undef
def slAt : Value → Nat → Value
 | .slice (some ⟨b, o, r⟩) _ _, k => .pointer (some ⟨b, o + k, r⟩)
 | _, _ => undef
theorem Mem.rowJ {C : Ctx} {H : List Blk} {b o n k sz : Nat} {α : Type} {enc : α → List Value} {f : Nat → α} {T : TypeId} {s : α} {junk : List Value} (hz : ∀ x, (enc x).length = sz) (i : Nat) (hi : H[i]? = some (b, CB (rowOf enc f n ++ junk) T)) (hk : k < n) (hs : f k = s) (ho : o = k * sz) : Mem C H b o (enc s) := by
 subst hs ho
 obtain ⟨t, ht⟩ := rowOf_drop hz f hk
 refine Mem.own (rest := t ++ junk) i hi ?_
 rw [List.drop_append_of_le_length (by rw [rowOf_len hz]; exact Nat.mul_le_mul_right _ (Nat.le_of_lt hk)), ht, List.append_assoc]
def partC (e : Env) : Value ⊕ Nat → List Value
 | .inl v => [v]
 | .inr t => cellsL (e t)
def aggC (ps : List (Value ⊕ Nat)) (e : Env) : Value := .agg (ps.flatMap (partC e)).toArray
end Go.Eng
namespace Go.Eng
open Go.RowKit
section
variable {C : Ctx} {e : Env} {H : List Blk} {d : Option Tmp} {ty : TypeId} {pos : String} {af : Array Edge} {g : Option (Nat × Bool)} {x y : Operand} {t t' : TypeId} {m n : Int}
end
section
variable {C : Ctx} {F : Fence} {n : Nat} {ds : List Deferred} {all : Array Oper} {Q : Exit → Env → List Blk → Prop} {rest : List Oper} {e : Env} {H : List Blk}
variable {d : Option Tmp} {ty : TypeId} {pos : String} {af : Array Edge} {g : Option (Nat × Bool)}
end
section
variable {C : Ctx} {F : Fence} {n : Nat} {ds : List Deferred} {Q : Exit → Env → List Blk → Prop} {e : Env} {H : List Blk}
end
section
variable {α : Type} {enc : α → List Value} {sz : Nat}
end
end Go.Eng
namespace Go.Eng
open Go.RowKit
abbrev Ent := Int × Value × Nat
def mEnt (x : Ent) : MapEntry := { key := .int .i64 x.1, val := x.2.1, born := x.2.2 }
def MO (l : List Ent) (clock : Nat) : Obj := .map (l.map mEnt).toArray clock
def hasK (k : Int) (x : Ent) : Bool := x.1 == k
theorem findNow_ent (k : Int) : ∀ (l : List Ent) (i : Nat), ∃ r, Instr.findNow (.int .i64) (.int .i64 k) (l.map mEnt) i = some r ∧ r.map Prod.snd = (l.find? (hasK k)).map (·.2.1) ∧ (r = none → l.eraseP (hasK k) = l) ∧ ∀ j v, r = some (j, v) → i ≤ j ∧ l.eraseIdx (j - i) = l.eraseP (hasK k)
 | [], i => ⟨none, rfl, rfl, fun _ => rfl, fun _ _ h => by cases h⟩
 | x :: l, i => by
  obtain ⟨r, h1, h2, h3, h4⟩ := findNow_ent k l (i + 1)
  by_cases hk : x.1 = k
  ·refine ⟨some (i, x.2.1), ?_, ?_, (fun h => by cases h), fun j v h => ?_⟩
   ·simp [Instr.findNow, mEnt, Instr.sameNow, hk]
   ·simp [hasK, hk]
   ·cases h
    refine ⟨Nat.le_refl _, ?_⟩
    rw [Nat.sub_self]
    simp [hasK, hk]
  ·refine ⟨r, ?_, ?_, fun h => ?_, fun j v h => ?_⟩
   ·have hk' : ¬ k = x.1 := fun h => hk h.symm
    have hkb : (k == x.1) = false := by simp [hk']
    simp only [List.map_cons, Instr.findNow, mEnt, Instr.sameNow, if_true, hkb]
    exact h1
   ·simp [hasK, hk] at h2 ⊢; exact h2
   ·have := h3 h
    have hxb : hasK k x = false := by simp [hasK, hk]
    rw [List.eraseP_cons, hxb, cond_false, this]
   ·obtain ⟨h5, h6⟩ := h4 j v h
    refine ⟨by omega, ?_⟩
    obtain ⟨m, hm⟩ : ∃ m, j - i = m + 1 := ⟨j - i - 1, by omega⟩
    rw [hm, List.eraseIdx_cons_succ, show m = j - (i + 1) by omega, h6]
    simp [hasK, hk]
theorem map_eraseIdx {α β : Type} (f : α → β) : ∀ (l : List α) (j : Nat), (l.eraseIdx j).map f = (l.map f).eraseIdx j
 | [], _ => by simp
 | _ :: _, 0 => rfl
 | x :: l, j + 1 => by simp [map_eraseIdx f l j]
section
variable {C : Ctx} {F : Fence} {n : Nat} {ds : List Deferred} {all : Array Oper} {Q : Exit → Env → List Blk → Prop} {rest : List Oper} {e : Env} {H : List Blk}
variable {d : Option Tmp} {ty : TypeId} {pos : String} {af : Array Edge} {g : Option (Nat × Bool)}
def NewMap (v : Value) (Hn : List Blk) : Prop := ∃ b, v = .map (some b) ∧ Hn = [(b, MO [] 0)]
theorem y_makeMap {T : TypeId} : YR C ⟨d, .makeMap T none, ty, pos, af, g⟩ e H NewMap := fun w _ => by
 have : (execOp (ev e) ⟨d, .makeMap T none, ty, pos, af, g⟩).run C.P w = .ok (.value (.map (some w.heap.size))) (w.alloc (MO [] 0)) := by
  simp [execOp, Instr.makeMap, newObj, MO]; rfl
 rw [this]; exact out_new (fun h => by cases h) ⟨_, rfl, rfl⟩
theorem WS_newM (hF : Wide F) {o : Oper} (hc : chk n all e o = true) (hy : YR C o e H NewMap) (hk : ∀ b, WS C F n ds all Q rest (updo e o.dst (.map (some b))) ((b, MO [] 0) :: H)) : WS C F n ds all Q (o :: rest) e H :=
 WS_gen hF hc hy fun v Hn hr => by
  obtain ⟨b, rfl, rfl⟩ := hr
  exact hk b
theorem run_mapUpd {P : Program} {w : World} {T kT eT : TypeId} {b clock : Nat} {l : List Ent} {k : Int} {v : Value} (hT : P.underlying T = some (.map kT eT)) (hk : P.underlying kT = some (.int .i64)) (hb : w.heap[b]? = some (MO l clock)) (hn : l.find? (hasK k) = none) :
  (Instr.mapUpdate T (.map (some b)) (.int .i64 k) v).run P w = .ok () (w.putObj b (MO (l ++ [(k, v, clock)]) (clock + 1))) := by
 obtain ⟨r, h1, h2, _, _⟩ := findNow_ent k l 0
 rw [hn] at h2
 have hr : r = none := by cases r <;> simp_all
 subst hr
 have hkey : MapKept.IsKey (.int .i64) (.int .i64 k) := rfl
 have hf := MapKept.run_findKey (P := P) (w := w) hk h1
 have hb' : w.heap[b]? = some (.map (l.map mEnt).toArray clock) := hb
 have h3 : MO (l ++ [(k, v, clock)]) (clock + 1) = .map ((l.map mEnt).toArray.push (mEnt (k, v, clock))) (clock + 1) := by unfold MO; simp
 rw [h3]
 simp [Instr.mapUpdate, run_underlying hT, MapKept.run_getObj_map hb', MapKept.run_checkKey hk hkey, hf, MapKept.run_setObj_map _ hb', Result.andThen]
 rfl
theorem run_delete {P : Program} {w : World} {T kT eT : TypeId} {b clock : Nat} {l : List Ent} {k : Int} (hT : P.underlying T = some (.map kT eT)) (hk : P.underlying kT = some (.int .i64)) (hb : w.heap[b]? = some (MO l clock)) :
  (Builtin.delete_ #[T, kT] ty #[.map (some b), .int .i64 k]).run P w = .ok (.tuple #[]) (w.putObj b (MO (l.eraseP (hasK k)) clock)) := by
 obtain ⟨r, h1, _, h3, h4⟩ := findNow_ent k l 0
 have hkey : MapKept.IsKey (.int .i64) (.int .i64 k) := rfl
 have hf := MapKept.run_findKey (P := P) (w := w) hk h1
 have hb' : w.heap[b]? = some (.map (l.map mEnt).toArray clock) := hb
 cases r with
 | none =>
  rw [h3 rfl]
  simp [Builtin.delete_, run_underlying hT, MapKept.run_getObj_map hb', MapKept.run_checkKey hk hkey, hf, MapKept.run_setObj_map _ hb', Result.andThen]
  rfl
 | some p =>
  obtain ⟨j, v⟩ := p
  obtain ⟨_, h5⟩ := h4 j v rfl
  rw [Nat.sub_zero] at h5
  have h6 : MO (l.eraseP (hasK k)) clock = .map ((l.map mEnt).toArray.eraseIdxIfInBounds j) clock := by
   unfold MO
   rw [← h5]
   congr 1
   rw [map_eraseIdx]; simp
  rw [h6]
  simp [Builtin.delete_, run_underlying hT, MapKept.run_getObj_map hb', MapKept.run_checkKey hk hkey, hf, MapKept.run_setObj_map _ hb', Result.andThen]
  rfl
def lookV (z : Value) : Option Value → Value
 | some v => .tuple #[v, .bool true]
 | none => .tuple #[z, .bool false]
theorem run_lookup {P : Program} {w : World} {T kT eT : TypeId} {b clock : Nat} {l : List Ent} {k : Int} {z : Value} (hT : P.underlying T = some (.map kT eT)) (hk : P.underlying kT = some (.int .i64)) (hb : w.heap[b]? = some (MO l clock)) (hz : ∀ w, (zeroValue eT).run P w = .ok z w) :
  (Instr.lookup T (.map (some b)) (.int .i64 k) true).run P w = .ok (lookV z ((l.find? (hasK k)).map (·.2.1))) w := by
 obtain ⟨r, h1, h2, _, _⟩ := findNow_ent k l 0
 have hkey : MapKept.IsKey (.int .i64) (.int .i64 k) := rfl
 have hf := MapKept.run_findKey (P := P) (w := w) hk h1
 have hb' : w.heap[b]? = some (.map (l.map mEnt).toArray clock) := hb
 rw [← h2]
 cases r with
 | none => simp [Instr.lookup, run_underlying hT, MapKept.run_getObj_map hb', MapKept.run_checkKey hk hkey, hf, hz, Result.andThen, lookV]
 | some p => simp [Instr.lookup, run_underlying hT, MapKept.run_getObj_map hb', MapKept.run_checkKey hk hkey, hf, Result.andThen, lookV]
theorem WS_mapUpd (hF : Wide F) {x y v : Operand} {T kT eT : TypeId} {b clock i : Nat} {l : List Ent} {k : Int} {u : Value} (hx : ev e x = .map (some b)) (hy : ev e y = .int .i64 k) (hv : ev e v = u) (hT : C.P.underlying T = some (.map kT eT)) (hk : C.P.underlying kT = some (.int .i64))
  (hi : H[i]? = some (b, MO l clock)) (hn : l.find? (hasK k) = none) (hq : WS C F n ds all Q rest e (H.set i (b, MO (l ++ [(k, u, clock)]) (clock + 1)))) :
  WS C F n ds all Q (⟨none, .mapUpdate T x y v, ty, pos, af, none⟩ :: rest) e H := fun w hw a ha => by
 have hb := hw.get hi
 unfold wpListIn
 rw [if_pos rf]
 refine ⟨fun f _ => hF.fn f, ?_⟩
 have : (execOp (ev e) ⟨none, .mapUpdate T x y v, ty, pos, af, none⟩).run C.P w = .ok .skip (w.putObj b (MO (l ++ [(k, u, clock)]) (clock + 1))) := by
  simp [execOp, hx, hy, hv, run_mapUpd hT hk hb hn]
 rw [semAt_of rfl, ha.eval, this]
 exact hq _ (hw.set hi (swap_put hb (fun h => by cases h))) _ ha
theorem WS_delete (hF : Wide F) {x y : Operand} {T kT eT : TypeId} {b clock i : Nat} {l : List Ent} {k : Int} (hx : ev e x = .map (some b)) (hy : ev e y = .int .i64 k) (hT : C.P.underlying T = some (.map kT eT)) (hk : C.P.underlying kT = some (.int .i64))
  (hi : H[i]? = some (b, MO l clock)) (hq : WS C F n ds all Q rest e (H.set i (b, MO (l.eraseP (hasK k)) clock))) :
  WS C F n ds all Q (⟨none, .call ⟨.builtin .delete, #[x, y], #[T, kT]⟩, ty, pos, af, none⟩ :: rest) e H := fun w hw a ha => by
 have hb := hw.get hi
 unfold wpListIn
 rw [if_pos rf]
 refine ⟨fun f _ => hF.fn f, ?_⟩
 have : (execOp (ev e) ⟨none, .call ⟨.builtin .delete, #[x, y], #[T, kT]⟩, ty, pos, af, none⟩).run C.P w = .ok (.value (.tuple #[])) (w.putObj b (MO (l.eraseP (hasK k)) clock)) := by
  simp [execOp, resolve, invoke, builtin, hx, hy, run_delete hT hk hb]
 rw [semAt_of rfl, ha.eval, this]
 exact hq _ (hw.set hi (swap_put hb (fun h => by cases h))) _ ha
theorem y_lookup {x y : Operand} {T kT eT : TypeId} {b clock i : Nat} {l : List Ent} {k : Int} {z : Value} {r : Option Value} (hx : ev e x = .map (some b)) (hy : ev e y = .int .i64 k) (hT : C.P.underlying T = some (.map kT eT)) (hk : C.P.underlying kT = some (.int .i64))
  (hz : ∀ w, (zeroValue eT).run C.P w = .ok z w) (hi : H[i]? = some (b, MO l clock)) (hr : (l.find? (hasK k)).map (·.2.1) = r) :
  YD C ⟨d, .lookup T x y true, ty, pos, af, g⟩ e H (lookV z r) := yd_of fun w hw => by
 subst hr
 simp [execOp, hx, hy, run_lookup hT hk (hw.get hi) hz]
end
end Go.Eng
namespace Go.Eng
open Go.RowKit
section
variable {C : Ctx} {F : Fence} {n : Nat} {ds : List Deferred} {all : Array Oper} {Q : Exit → Env → List Blk → Prop} {rest : List Oper} {e : Env} {H : List Blk}
variable {d : Option Tmp} {ty : TypeId} {pos : String} {af : Array Edge} {g : Option (Nat × Bool)}
theorem WS_appendE (hF : Wide F) {x y : Operand} {T E : TypeId} {a a' : Option Addr} {n' m cap cap' sz by_ : Nat} {us news : List Value} {z : Value} {H1 Hn : List Blk} (hc : chk n all e ⟨d, .call ⟨.builtin .append, #[x, y], #[T, T]⟩, ty, pos, af, g⟩ = true)
  (hx : ev e x = .slice a n' cap) (hy : ev e y = .slice a' m cap') (hT : C.P.underlying T = some (.slice E)) (hinf : (C.P.info? E).map (fun i => (i.zero, i.size, i.bytes)) = some (some z, sz, by_))
  (hzs : z.cells.size = sz) (hH : H = H1 ++ Hn) (hrow : Row E sz a n' cap us Hn) (hs : Src C H a' m news) (hl : news.length = m * sz) (hone : news.all Value.oneCell' = true) (hb : (n' + m) * by_ ≤ 140737488355328) (hm : n' + m ≤ 140737488355328)
  (hk : ∀ a' cap' Hn', Row E sz a' (n' + m) cap' (us ++ news) Hn' → WS C F n ds all Q rest (updo e d (.slice a' (n' + m) cap')) (H1 ++ Hn')) :
  WS C F n ds all Q (⟨d, .call ⟨.builtin .append, #[x, y], #[T, T]⟩, ty, pos, af, g⟩ :: rest) e H :=
 WS_append (H1 := H1) (H2 := []) hF hc hx hy hT hinf hzs (by rw [hH, List.append_nil]) hrow hs hl hone hb hm fun a' cap' Hn' hr => by
  rw [List.append_nil]; exact hk a' cap' Hn' hr
theorem y_lookupE {x y : Operand} {T kT eT : TypeId} {b clock i : Nat} {l : List Ent} {k : Int} {z c : Value} (hx : ev e x = .map (some b)) (hy : ev e y = .int .i64 k) (hT : C.P.underlying T = some (.map kT eT)) (hk : C.P.underlying kT = some (.int .i64))
  (hz : ∀ w, (zeroValue eT).run C.P w = .ok z w) (hi : H[i]? = some (b, MO l clock)) (hr : lookV z ((l.find? (hasK k)).map (·.2.1)) = c) : YD C ⟨d, .lookup T x y true, ty, pos, af, g⟩ e H c := by
 subst hr; exact y_lookup hx hy hT hk hz hi rfl
end
end Go.Eng
namespace Go.Eng
open Go.RowKit
section
variable {C : Ctx} {F : Fence} {n : Nat} {ds : List Deferred} {ops : Array Oper} {Q : Exit → Env → List Blk → Prop} {fuel : Nat} {listed : Array Bool} {e : Env} {H : List Blk}
def WA (C : Ctx) (F : Fence) (n : Nat) (ds : List Deferred) (ops : Array Oper) (Q : Exit → Env → List Blk → Prop) (fuel : Nat) (listed : Array Bool) (e : Env) (H : List Blk) : Prop :=
 ∀ w, St C H w → ∀ a, Rep n ds a e → wpAnyIn F 0 C.P .any ops (lift C n ds Q) fuel listed a w
def OnlyQ (M : Env → List Blk → Prop) : Exit → Env → List Blk → Prop
 | .normal, e, H => M e H
 | _, _, _ => False
def Pure (P : Program) (e : Env) (o : Oper) (c : Value) : Prop := (∀ w, (execOp (ev e) o).run P w = .ok (.value c) w) ∧ ∀ w, o.about P w (ev e) = none
def NextQ (M : Env → List Blk → Prop) (N : Env → List Blk → Prop) : Exit → Env → List Blk → Prop
 | .normal, e, H => N e H
 | x, e, H => OnlyQ M x e H
theorem W_tailA {id : Nat} {l : List Oper} (m : Nat) (hm : C.P.follows .mixedOrders = true) (M : Env → List Blk → Prop)
  (hph : (tailB l.toArray m && Nat.ble m l.length) = true)
  (hrest : ∀ ds e H, M e H → WS (C.at ds) F n ds l.toArray Q (l.drop m) e H) (hp : ∀ ds, WA (C.at ds) F n ds (l.take m).toArray (OnlyQ M) m (Array.replicate m false) e H) :
  W C F n ds (.region id l.toArray true) Q e H := fun dd w hw a ha => by
 simp only [Bool.and_eq_true] at hph
 obtain ⟨ht, hml⟩ := hph
 have hml : m ≤ l.length := Nat.le_of_ble_eq_true hml
 have hlen : (l.take m).length = m := by simp; omega
 have hl : l.take m ++ l.drop m = l := List.take_append_drop m l
 have ht' : Tail (l.take m ++ l.drop m).toArray (l.take m).length := by rw [hl, hlen]; exact tail_of ht
 have hd : ∀ i k, edge (l.take m).toArray i k = true → k < i := fun i k hk => by
  have hi : i < (l.take m).length := by simpa using edge_lt hk
  refine ht'.down i k ?_
  unfold edge at hk ⊢
  rwa [show (l.take m ++ l.drop m).toArray[i]? = (l.take m).toArray[i]? by rw [List.getElem?_toArray, List.getElem?_toArray, List.getElem?_append_left hi]]
 refine wpIn_mono (Q := lift (C.at dd) n dd Q) (wpIn_region_any hm ?_) fun _ _ _ h => lift_M h
 have h1 := hp dd w.drew ⟨hw.drew.1, hw.drew.2, hw.drew.3⟩ a ha
 have h2 := tail_any (P := C.P) (F := F) (pre := l.take m) (post := l.drop m) (Q := lift (C.at dd) n dd Q) (Q' := lift (C.at dd) n dd (OnlyQ M)) ht' hd
  (fun x hx a w ⟨e, H, g1, g2, g3⟩ => by cases x <;> first | exact g3.elim | exact absurd rfl hx) (fun a w ⟨e, H, g1, g2, g3⟩ => by rw [hl]; exact hrest dd e H g3 w g2 a g1)
  m l.toArray.size (Array.replicate m false) a w.drew (by simp [hlen]) (fun j k hj => by
   unfold Lst at hj
   rw [Array.getD_eq_getD_getElem?, Array.getElem?_replicate] at hj
   split at hj <;> cases hj) (by simp; omega) h1
 rw [hl] at h2
 have hrep : Array.replicate m false ++ Array.replicate (l.drop m).length false = Array.replicate l.toArray.size false := by
  rw [Array.replicate_append_replicate]
  congr 1
  simp; omega
 rw [hrep] at h2
 exact h2
end
end Go.Eng
namespace Go.Eng
open Go.RowKit
section
variable {C : Ctx} {F : Fence} {n : Nat} {ds : List Deferred} {Q : Exit → Env → List Blk → Prop} {e : Env} {H : List Blk}
def NoG (Q : Exit → Env → List Blk → Prop) : Exit → Env → List Blk → Prop
 | .goto _, _, _ => False
 | x, e, H => Q x e H
theorem NoG_ret (h : Q .ret e H) : NoG Q .ret e H := h
theorem W_scope {c : Code} (h : W C Fence.wide n ds c (NoG Q) e H) : W C Fence.wide n ds (.scope c) Q e H := fun dd w hw a ha => by
 have h1 := h dd w hw a ha
 rw [wpIn_wide] at h1 ⊢
 refine wp_scope_straight ?_
 rw [← wpIn_wide (n := 0)] at h1 ⊢
 refine wpIn_mono h1 ?_
 rintro x a' w' ⟨d', e', H', g1, g2, g3⟩
 cases x with
 | goto l => exact g3.elim
 | _ => exact ⟨d', e', H', g1, g2, g3⟩
end
end Go.Eng
namespace Go.Eng
open Go.RowKit
theorem W_sub {C : Ctx} {F : Fence} {n : Nat} {ds : List Deferred} {c : Code} {Q : Exit → Env → List Blk → Prop} {e : Env} {H H' : List Blk} (hs : HSub H H') (h : W C F n ds c Q e H') : W C F n ds c Q e H :=
 fun dd w hw a ha => h dd w ⟨hw.1, hs _ _ hw.2, hw.3⟩ a ha
theorem W_perm {C : Ctx} {F : Fence} {n : Nat} {ds : List Deferred} {c : Code} {Q : Exit → Env → List Blk → Prop} {e : Env} {H H' : List Blk} (hs : H.Perm H') (h : W C F n ds c Q e H') : W C F n ds c Q e H :=
 W_sub (fun _ _ h => h.perm hs.symm) h
section
variable {S1 S2 M M' L : List Blk} {x y : Blk}
theorem Pul.base : (S1 ++ x :: S2).Perm (x :: (S1 ++ S2)) := List.perm_middle
theorem Pul.base0 : (x :: S2).Perm (x :: S2) := List.Perm.refl _
theorem Pul.cons (h : M.Perm (x :: M')) : (y :: M).Perm (x :: y :: M') := (h.cons y).trans (List.Perm.swap ..)
theorem Pul.app (h : M.Perm (x :: M')) : (L ++ M).Perm (x :: (L ++ M')) := (h.append_left L).trans List.perm_middle
theorem Pul.end (h : M.Perm (x :: M')) : M.Perm (x :: M') := h
end
def Sh1 (x y : Blk) : Prop := x.1 = y.1 ∧ ∃ vs us T, x.2 = CB vs T ∧ y.2 = CB us T ∧ us.length = vs.length
inductive Shp : List Blk → List Blk → Prop
 | nil : Shp [] []
 | cons {x y : Blk} {l m : List Blk} : Sh1 x y → Shp l m → Shp (x :: l) (y :: m)
theorem Sh1.refl {b : Nat} {vs : List Value} {T : TypeId} : Sh1 (b, CB vs T) (b, CB vs T) := ⟨rfl, vs, vs, T, rfl, rfl, rfl⟩
theorem Shp.app {a b c d : List Blk} (h : Shp a b) (h' : Shp c d) : Shp (a ++ c) (b ++ d) := by
 induction h with
 | nil => exact h'
 | cons h1 _ ih => exact .cons h1 ih
theorem NewRow.shp {T : TypeId} {sz m : Nat} {us : List Value} {v : Value} {Hn : List Blk} (h : NewRow T sz m us v Hn) : Shp Hn Hn := by
 obtain ⟨a, cap, rfl, _, ⟨_, b, junk, rfl, rfl, _⟩ | ⟨_, rfl, _⟩⟩ := h
 ·exact .cons Sh1.refl .nil
 ·exact .nil
theorem CB_inj {vs us : List Value} {T T' : TypeId} (h : CB vs T = CB us T') : vs = us ∧ T = T' := by
 unfold CB at h
 simp only [Obj.cells.injEq] at h
 exact ⟨by simpa using h.1, by simpa using h.2⟩
theorem Shp.get {S0 S : List Blk} {b : Nat} {vs : List Value} {T : TypeId} (h : Shp S0 S) (hm : (b, CB vs T) ∈ S0) :
  ∃ S1 us S2, S = S1 ++ (b, CB us T) :: S2 ∧ us.length = vs.length ∧ ∀ us', us'.length = us.length → Shp S0 (S1 ++ (b, CB us' T) :: S2) := by
 induction h with
 | nil => cases hm
 | @cons x y l m h1 h2 ih =>
  rcases List.mem_cons.1 hm with rfl | hm
  ·obtain ⟨rfl, vs', us, T', e1, e2, hl⟩ := h1
   obtain ⟨rfl, rfl⟩ := CB_inj e1
   obtain ⟨yb, yo⟩ := y
   simp only at e2
   subst e2
   exact ⟨[], us, m, rfl, hl, fun us' hl' => .cons ⟨rfl, _, _, _, rfl, rfl, hl'.trans hl⟩ h2⟩
  ·obtain ⟨S1, us, S2, rfl, hl, hp⟩ := ih hm
   exact ⟨y :: S1, us, S2, rfl, hl, fun us' hl' => .cons h1 (hp us' hl')⟩
def OwnR (S0 : List Blk) (T : TypeId) (sz : Nat) (a : Option Addr) (n : Nat) : Prop := n = 0 ∨ ∃ b vs, a = some ⟨b, 0, none⟩ ∧ (b, CB vs T) ∈ S0 ∧ n * sz ≤ vs.length
theorem NewRow.own {S0 : List Blk} {T : TypeId} {sz n cap : Nat} {us : List Value} {a : Option Addr} {Hn : List Blk} (h : NewRow T sz n us (.slice a n cap) Hn) (hs : ∀ x ∈ Hn, x ∈ S0) : OwnR S0 T sz a n := by
 obtain ⟨a', cap', he, hle, ⟨hn, b, junk, rfl, rfl, hl⟩ | ⟨h0, _⟩⟩ := h
 ·cases he
  exact .inr ⟨b, _, rfl, hs _ (List.mem_singleton.2 rfl), by rw [hl]; exact Nat.mul_le_mul_right _ hle⟩
 ·exact .inl h0
theorem OwnR.get {S0 S : List Blk} {T : TypeId} {sz n k : Nat} {a : Option Addr} (h : OwnR S0 T sz a n) (hk : k < n) (hS : Shp S0 S) :
  ∃ b S1 us S2, a = some ⟨b, 0, none⟩ ∧ S = S1 ++ (b, CB us T) :: S2 ∧ k * sz + sz ≤ us.length ∧ ∀ us', us'.length = us.length → Shp S0 (S1 ++ (b, CB us' T) :: S2) := by
 rcases h with h | ⟨b, vs, rfl, hm, hl⟩
 ·omega
 ·obtain ⟨S1, us, S2, rfl, hu, hp⟩ := hS.get hm
  refine ⟨b, S1, us, S2, rfl, rfl, ?_, hp⟩
  rw [hu]
  refine Nat.le_trans ?_ hl
  rw [← Nat.succ_mul]
  exact Nat.mul_le_mul_right _ hk
theorem zu {H M' : List Blk} {x : Blk} (h : H.Perm (x :: M') := by repeat (first | exact Pul.base0 | exact Pul.base | apply Pul.cons | apply Pul.app)) : H.Perm (x :: M') := h
end Go.Eng
namespace Go.Eng
section
variable {C : Ctx} {F : Fence} {n : Nat} {ds : List Deferred} {c : Code} {Q : Exit → Env → List Blk → Prop} {e : Env} {H M M' : List Blk}
theorem W_pull (x : Blk) (hp : H.Perm (x :: M')) (h : W C F n ds c Q e (x :: M')) : W C F n ds c Q e H := W_perm hp h
end
end Go.Eng
namespace Go.Eng
open Go.RowKit
section
variable {C : Ctx} {e : Env} {H : List Blk} {o : Oper} {d : Option Tmp} {x y : Operand} {t t' ty : TypeId} {pos : String} {af : Array Edge} {g : Option (Nat × Bool)} {b c : Bool}
theorem YD_eq {u v : Value} (h : YD C o e H u) (hb : u = v) : YD C o e H v := by subst hb; exact h
end
end Go.Eng
namespace Go.Eng
end Go.Eng
namespace Go.Eng
open Go.RowKit
theorem sbA {A B : List Blk} (h : A.Sublist B := by (try simp only [List.append_assoc, List.cons_append, List.nil_append, List.set_cons_zero, List.set_cons_succ]); repeat (first | exact List.Sublist.refl _ | exact List.nil_sublist _ | exact List.sublist_append_left _ _ | apply List.Sublist.append_left | apply List.Sublist.cons_cons | apply List.Sublist.cons | refine List.Sublist.trans ?_ (List.sublist_append_right _ _))) : A.Sublist B := h
section
variable {C : Ctx} {F : Fence} {n : Nat} {ds : List Deferred} {x1 x2 x3 x4 x5 x6 y : Code} {Q : Exit → Env → List Blk → Prop} {e : Env} {H : List Blk} {γ : Type}
def Rest (C : Ctx) (F : Fence) (n : Nat) (ds : List Deferred) (y : Code) (Q : Exit → Env → List Blk → Prop) {γ : Type} (I : γ → Prop) (L : List (Nat × Value)) (M : γ → List (Nat × Value)) (B : γ → List Blk) : Prop :=
 ∀ g e H, I g → Slots e L → Slots e (M g) → HSub H (B g) → W C F n ds y Q e H
theorem Slots.app {e : Env} : ∀ {L M : List (Nat × Value)}, Slots e L → Slots e M → Slots e (L ++ M)
 | [], _, _, h => h
 | _ :: _, _, h, h' => ⟨h.1, Slots.app h.2 h'⟩
end
end Go.Eng
namespace Go.Eng
open Go.RowKit
section
variable {C : Ctx} {e : Env} {H : List Blk} {d : Option Tmp} {ty : TypeId} {pos : String} {af : Array Edge} {g : Option (Nat × Bool)}
end
end Go.Eng
namespace Go.Eng
end Go.Eng
namespace Go.Eng
open Go.RowKit
section
variable {C : Ctx} {F : Fence} {n : Nat} {ds : List Deferred} {all : Array Oper} {Q : Exit → Env → List Blk → Prop} {rest : List Oper} {e : Env} {H : List Blk}
variable {d : Option Tmp} {ty : TypeId} {pos : String} {af : Array Edge} {g : Option (Nat × Bool)}
theorem y_sliceA_lo {x lo : Operand} {T E : TypeId} {b o l m sz : Nat} {k : Int} {kk : IntKind} (hx : ev e x = .pointer (some ⟨b, o, none⟩)) (hlo : ev e lo = .int kk k) (hk : k = (l : Int)) (hl : l < m)
  (hT : ∀ w, (underlying T).run C.P w = .ok (.array m E) w) (hE : ∀ w, (sizeOf E).run C.P w = .ok sz w) :
  YD C ⟨d, .slice T x (some lo) none none, ty, pos, af, g⟩ e H (.slice (some ⟨b, o + l * sz, none⟩) (m - l) (m - l)) := yd_of fun w _ => by
 subst hk
 have h1 : ¬ m = l := by omega
 have h2 : l ≤ m := by omega
 simp [execOp, hx, hlo, Instr.sliceAt, Instr.slice, Instr.sliceBounds, Instr.sliceBound, Instr.sureAddr, asIntOf, hT, hE, h1, h2, addr_add]
theorem y_sliceA_lohi {x lo hi : Operand} {T E : TypeId} {b o l h m sz : Nat} {k k' : Int} {kk kk' : IntKind} (hx : ev e x = .pointer (some ⟨b, o, none⟩)) (hlo : ev e lo = .int kk k) (hhi : ev e hi = .int kk' k') (hk : k = (l : Int)) (hk' : k' = (h : Int)) (hl : l < m) (hlh : l ≤ h) (hh : h ≤ m)
  (hT : ∀ w, (underlying T).run C.P w = .ok (.array m E) w) (hE : ∀ w, (sizeOf E).run C.P w = .ok sz w) :
  YD C ⟨d, .slice T x (some lo) (some hi) none, ty, pos, af, g⟩ e H (.slice (some ⟨b, o + l * sz, none⟩) (h - l) (m - l)) := yd_of fun w _ => by
 subst hk hk'
 have h1 : ¬ m = l := by omega
 simp [execOp, hx, hlo, hhi, Instr.sliceAt, Instr.slice, Instr.sliceBounds, Instr.sliceBound, Instr.sureAddr, asIntOf, hT, hE, h1, hlh, hh, addr_add]
theorem y_indexV {x i : Operand} {T E : TypeId} {len sz k : Nat} {cs : Array Value} {c : Value} {n : Int} {kk : IntKind} (hx : ev e x = .agg cs) (hi : ev e i = .int kk n) (hn : n = (k : Int)) (hk : k < len)
  (hT : ∀ w, (underlying T).run C.P w = .ok (.array len E) w) (hE : ∀ w, (sizeOf E).run C.P w = .ok sz w) (hp : ∀ w, (part E cs (k * sz)).run C.P w = .ok c w) : YD C ⟨d, .index T x i, ty, pos, af, g⟩ e H c := yd_of fun w _ => by
 subst hn
 have h1 : (0 : Int) ≤ (k : Int) ∧ (k : Int) < (len : Int) := by omega
 have h2 : ((k : Int)).toNat = k := by omega
 simp [execOp, hx, hi, Instr.index, asIntOf, hT, hE, hp]
 omega
theorem run_copyS {P : Program} {w : World} {dT sT E : TypeId} {b o dn dcap m cap sz : Nat} {a : Option Addr} {vs us : List Value} {Tb : TypeId} (hT : ∀ w, (underlying dT).run P w = .ok (.slice E) w) (hE : ∀ w, (sizeOf E).run P w = .ok sz w)
  (hs : m = 0 ∧ us = [] ∨ ∃ b' o', a = some ⟨b', o', none⟩ ∧ At w b' o' us) (hl : us.length = m * sz) (hm : m ≤ dn) (hone : us.all Value.oneCell' = true) (hfit : o + us.length ≤ vs.length) (hb : w.heap[b]? = some (CB vs Tb)) :
  (Builtin.copy_ #[dT, sT] ty #[.slice (some ⟨b, o, none⟩) dn dcap, .slice a m cap]).run P w = .ok (.int .i64 m) (w.setRow b (splice vs o us).toArray) := by
 have h := run_storeCells_at (P := P) b o Tb us 0 vs.toArray w hb (by simpa using hfit) (fun v hv => List.all_eq_true.1 hone v hv)
 simp only [Nat.add_zero] at h
 have h' : (storeCells ⟨b, o, none⟩ us).run P w = .ok () (w.setRow b (splice vs o us).toArray) := h
 have h3 := run_firstCells (P := P) (cap := cap) hs hl
 have h4 : Nat.min m dn = m := Nat.min_eq_left hm
 simp [Builtin.copy_, hT, hE, Builtin.lenOf, h4, h3, h', goInt]
theorem WS_copyS (hF : Wide F) {x y : Operand} {dT sT E : TypeId} {b o dn dcap m cap sz i : Nat} {a : Option Addr} {vs us : List Value} {Tb : TypeId} (hc : chk n all e ⟨d, .call ⟨.builtin .copy, #[x, y], #[dT, sT]⟩, ty, pos, af, g⟩ = true)
  (hx : ev e x = .slice (some ⟨b, o, none⟩) dn dcap) (hy : ev e y = .slice a m cap) (hT : ∀ w, (underlying dT).run C.P w = .ok (.slice E) w) (hE : ∀ w, (sizeOf E).run C.P w = .ok sz w)
  (hs : Src C H a m us) (hl : us.length = m * sz) (hm : m ≤ dn) (hone : us.all Value.oneCell' = true) (hi : H[i]? = some (b, CB vs Tb)) (hfit : o + us.length ≤ vs.length)
  (hk : WS C F n ds all Q rest (updo e d (.int .i64 m)) (H.set i (b, CB (splice vs o us) Tb))) :
  WS C F n ds all Q (⟨d, .call ⟨.builtin .copy, #[x, y], #[dT, sT]⟩, ty, pos, af, g⟩ :: rest) e H := fun w hw act ha => by
 have hck := chk_spec hc
 have hwant := gd_wanted ha hck.2.1 (gOk_lt hck.2.2.1)
 unfold wpListIn
 rw [if_pos hwant]
 refine ⟨fun f _ => hF.fn f, ?_⟩
 rw [semAt_of hck.1, ha.eval]
 have hb := hw.get hi
 have hs' : m = 0 ∧ us = [] ∨ ∃ b' o', a = some ⟨b', o', none⟩ ∧ At w b' o' us := by
  rcases hs with h | ⟨b', o', h1, h2⟩
  ·exact .inl h
  ·exact .inr ⟨b', o', h1, h2 w hw⟩
 have hr := run_copyS (ty := ty) (sT := sT) (dcap := dcap) (cap := cap) hT hE hs' hl hm hone hfit hb
 have : (execOp (ev e) ⟨d, .call ⟨.builtin .copy, #[x, y], #[dT, sT]⟩, ty, pos, af, g⟩).run C.P w = .ok (.value (.int .i64 m)) (w.setRow b (splice vs o us).toArray) := by
  simp [execOp, resolve, invoke, builtin, hx, hy, hr]
 rw [this]
 exact hk _ (hw.set hi (swap_setRow hb)) _ (ha.put d hck.2.2.2)
end
end Go.Eng
namespace Go.Eng
open Go.RowKit
section
variable {K : Type} [DecidableEq K]
abbrev EntK (K : Type) := K × Value × Nat
def mK (enc : K → Value) (x : EntK K) : MapEntry := { key := enc x.1, val := x.2.1, born := x.2.2 }
def MK (enc : K → Value) (l : List (EntK K)) (clock : Nat) : Obj := .map (l.map (mK enc)).toArray clock
structure KeyOk (P : Program) (kT : TypeId) (enc : K → Value) : Prop where
 now : ∃ td, P.underlying kT = some td ∧ ∀ a b, Instr.sameNow td (enc a) (enc b) = none
 eq : ∀ x y w, (Op.equal kT (enc x) (enc y)).run P w = .ok (decide (x = y)) w
 chk : ∀ b x w, (Instr.checkKey b 10000 kT (enc x)).run P w = .ok () w
 bits : ∀ x, Instr.sameBits 10000 (enc x) (enc x) = true
def fndK (k : K) : List (EntK K) → Nat → Option (Nat × Value)
 | [], _ => none
 | x :: l, i => if x.1 = k then some (i, x.2.1) else fndK k l (i + 1)
def lookK (k : K) (l : List (EntK K)) : Option Value := (l.find? fun x => decide (x.1 = k)).map (·.2.1)
def setK (k : K) (v : Value) : List (EntK K) → List (EntK K)
 | [] => []
 | x :: l => if x.1 = k then (k, v, x.2.2) :: l else x :: setK k v l
def putL (k : K) (v : Value) (l : List (EntK K)) (c : Nat) : List (EntK K) := if (lookK k l).isSome then setK k v l else l ++ [(k, v, c)]
def putC (k : K) (l : List (EntK K)) (c : Nat) : Nat := if (lookK k l).isSome then c else c + 1
def delK (k : K) (l : List (EntK K)) : List (EntK K) := l.eraseP fun x => decide (x.1 = k)
structure GoodM (l : List (EntK K)) (c : Nat) : Prop where
 old : ∀ x ∈ l, x.2.2 < c
 born : (l.map (·.2.2)).Nodup
 keys : (l.map (·.1)).Nodup
variable {P : Program} {kT : TypeId} {enc : K → Value} {k : K}
theorem run_findAskingK (h : KeyOk P kT enc) (k : K) (w : World) : ∀ (l : List (EntK K)) (i : Nat), (Instr.findAsking kT (enc k) (l.map (mK enc)) i).run P w = .ok (fndK k l i) w
 | [], i => by simp [Instr.findAsking, fndK]
 | x :: l, i => by
  have ih := run_findAskingK h k w l (i + 1)
  have he := h.eq k x.1 w
  by_cases hx : x.1 = k
  ·subst hx
   rw [decide_eq_true rfl] at he
   simp [Instr.findAsking, mK, he, fndK]
  ·have : decide (k = x.1) = false := by simp [Ne.symm hx]
   rw [this] at he
   simp [Instr.findAsking, mK, he, fndK, hx]
   exact ih
theorem run_findKeyK (h : KeyOk P kT enc) (k : K) (w : World) (l : List (EntK K)) : (Instr.findKey kT (enc k) (l.map (mK enc))).run P w = .ok (fndK k l 0) w := by
 obtain ⟨td, h1, h2⟩ := h.now
 have h3 := run_findAskingK h k w l 0
 unfold Instr.findKey
 cases l with
 | nil => simp [run_underlying h1, Instr.findNow, fndK]
 | cons x l =>
  have : Instr.findNow td (enc k) ((x :: l).map (mK enc)) 0 = none := by simp [Instr.findNow, mK, h2]
  simp only [Sem.run_bind, run_underlying h1, Result.andThen, this]
  exact h3
theorem fndK_look (k : K) : ∀ (l : List (EntK K)) (i : Nat), (fndK k l i).map Prod.snd = lookK k l
 | [], i => rfl
 | x :: l, i => by
  unfold fndK lookK
  by_cases hx : x.1 = k
  ·simp [hx]
  ·simp only [if_neg hx, List.find?_cons, decide_eq_false hx]
   exact fndK_look k l (i + 1)
theorem fndK_le {k : K} : ∀ {l : List (EntK K)} {i j : Nat} {v : Value}, fndK k l i = some (j, v) → i ≤ j
 | [], _, _, _, h => by cases h
 | x :: l, i, j, v, h => by
  unfold fndK at h
  split at h
  ·cases h; exact Nat.le_refl _
  ·have := fndK_le h; omega
theorem fndK_set {k : K} (enc : K → Value) (u : Value) : ∀ {l : List (EntK K)} {i j : Nat} {v : Value}, fndK k l i = some (j, v) → (l.map (mK enc)).modify (j - i) (fun e => { e with key := enc k, val := u }) = (setK k u l).map (mK enc)
 | [], _, _, _, h => by cases h
 | x :: l, i, j, v, h => by
  unfold fndK at h
  unfold setK
  by_cases hx : x.1 = k
  ·rw [if_pos hx] at h ⊢
   cases h
   rw [Nat.sub_self]
   simp [mK]
  ·rw [if_neg hx] at h ⊢
   have hle := fndK_le h
   have ih := fndK_set enc u h
   obtain ⟨m, hm⟩ : ∃ m, j - i = m + 1 := ⟨j - i - 1, by omega⟩
   rw [hm, List.map_cons, List.modify_succ_cons, show m = j - (i + 1) by omega, ih]
   rfl
theorem fndK_at {k : K} (enc : K → Value) : ∀ {l : List (EntK K)} {i j : Nat} {v : Value}, fndK k l i = some (j, v) → ∃ e, (l.map (mK enc))[j - i]? = some e ∧ e.key = enc k
 | [], _, _, _, h => by cases h
 | x :: l, i, j, v, h => by
  unfold fndK at h
  by_cases hx : x.1 = k
  ·rw [if_pos hx] at h
   cases h
   rw [Nat.sub_self]
   exact ⟨mK enc x, rfl, by rw [← hx]; rfl⟩
  ·rw [if_neg hx] at h
   have hle := fndK_le h
   obtain ⟨e, h1, h2⟩ := fndK_at enc h
   obtain ⟨m, hm⟩ : ∃ m, j - i = m + 1 := ⟨j - i - 1, by omega⟩
   refine ⟨e, ?_, h2⟩
   rw [hm, List.map_cons, List.getElem?_cons_succ, show m = j - (i + 1) by omega]
   exact h1
theorem fndK_del {k : K} : ∀ {l : List (EntK K)} {i j : Nat} {v : Value}, fndK k l i = some (j, v) → l.eraseIdx (j - i) = delK k l
 | [], _, _, _, h => by cases h
 | x :: l, i, j, v, h => by
  unfold fndK at h
  unfold delK
  by_cases hx : x.1 = k
  ·rw [if_pos hx] at h
   cases h
   rw [Nat.sub_self]
   simp [hx]
  ·rw [if_neg hx] at h
   have hle := fndK_le h
   have ih := fndK_del h
   obtain ⟨m, hm⟩ : ∃ m, j - i = m + 1 := ⟨j - i - 1, by omega⟩
   rw [hm, List.eraseIdx_cons_succ, show m = j - (i + 1) by omega, ih]
   simp [hx, delK]
theorem fndK_none {k : K} : ∀ {l : List (EntK K)} {i : Nat}, fndK k l i = none → delK k l = l
 | [], _, _ => rfl
 | x :: l, i, h => by
  unfold fndK at h
  by_cases hx : x.1 = k
  ·rw [if_pos hx] at h; cases h
  ·rw [if_neg hx] at h
   have := fndK_none h
   unfold delK at this ⊢
   rw [List.eraseP_cons, decide_eq_false hx, cond_false, this]
section
variable {w : World} {T eT ty : TypeId} {b clock : Nat} {l : List (EntK K)} {v : Value}
theorem run_mapUpdK (h : KeyOk P kT enc) (hT : P.underlying T = some (.map kT eT)) (hb : w.heap[b]? = some (MK enc l clock)) :
  (Instr.mapUpdate T (.map (some b)) (enc k) v).run P w = .ok () (w.putObj b (MK enc (putL k v l clock) (putC k l clock))) := by
 have hf := run_findKeyK h k w l
 have hl := fndK_look k l 0
 have hb' : w.heap[b]? = some (.map (l.map (mK enc)).toArray clock) := hb
 cases hr : fndK k l 0 with
 | none =>
  rw [hr] at hf hl
  have h3 : MK enc (putL k v l clock) (putC k l clock) = .map ((l.map (mK enc)).toArray.push { key := enc k, val := v, born := clock }) (clock + 1) := by
   unfold MK putL putC
   rw [← hl]
   simp [mK]
  rw [h3]
  simp [Instr.mapUpdate, run_underlying hT, MapKept.run_getObj_map hb', h.chk, hf, MapKept.run_setObj_map _ hb', Result.andThen]
  rfl
 | some p =>
  obtain ⟨j, u⟩ := p
  rw [hr] at hf hl
  obtain ⟨e, h5, h6⟩ := fndK_at enc hr
  rw [Nat.sub_zero] at h5
  have h7 := fndK_set enc v hr
  rw [Nat.sub_zero] at h7
  have h3 : MK enc (putL k v l clock) (putC k l clock) = .map ((l.map (mK enc)).toArray.modify j fun e => { e with key := enc k, val := v }) clock := by
   unfold MK putL putC
   rw [← hl]
   simp only [Option.map_some, Option.isSome_some, if_true]
   rw [← h7]
   simp
  have h8 : (((l.map (mK enc)).toArray[j]?).map (·.key)).getD (enc k) = enc k := by
   rw [List.getElem?_toArray, h5]
   exact h6
  have h9 : (Instr.keyThatStays (enc k) (enc k)).run P w = .ok (enc k) w := by simp [Instr.keyThatStays, h.bits]
  rw [h3]
  simp only [Instr.mapUpdate, Sem.run_bind, run_underlying hT, MapKept.run_getObj_map hb', h.chk, hf, Result.andThen, h8, h9, MapKept.run_setObj_map _ hb']
  rfl
theorem run_deleteK (h : KeyOk P kT enc) (hT : P.underlying T = some (.map kT eT)) (hb : w.heap[b]? = some (MK enc l clock)) :
  (Builtin.delete_ #[T, kT] ty #[.map (some b), enc k]).run P w = .ok (.tuple #[]) (w.putObj b (MK enc (delK k l) clock)) := by
 have hf := run_findKeyK h k w l
 have hb' : w.heap[b]? = some (.map (l.map (mK enc)).toArray clock) := hb
 cases hr : fndK k l 0 with
 | none =>
  rw [hr] at hf
  rw [fndK_none hr]
  simp [Builtin.delete_, run_underlying hT, MapKept.run_getObj_map hb', h.chk, hf, MapKept.run_setObj_map _ hb', Result.andThen]
  rfl
 | some p =>
  obtain ⟨j, u⟩ := p
  rw [hr] at hf
  have h5 := fndK_del hr
  rw [Nat.sub_zero] at h5
  have h6 : MK enc (delK k l) clock = .map ((l.map (mK enc)).toArray.eraseIdxIfInBounds j) clock := by
   unfold MK
   rw [← h5]
   congr 1
   rw [map_eraseIdx]; simp
  rw [h6]
  simp [Builtin.delete_, run_underlying hT, MapKept.run_getObj_map hb', h.chk, hf, MapKept.run_setObj_map _ hb', Result.andThen]
  rfl
theorem run_lookupK {z : Value} (h : KeyOk P kT enc) (hT : P.underlying T = some (.map kT eT)) (hb : w.heap[b]? = some (MK enc l clock)) (hz : ∀ w, (zeroValue eT).run P w = .ok z w) :
  (Instr.lookup T (.map (some b)) (enc k) true).run P w = .ok (lookV z (lookK k l)) w := by
 have hf := run_findKeyK h k w l
 have hl := fndK_look k l 0
 have hb' : w.heap[b]? = some (.map (l.map (mK enc)).toArray clock) := hb
 rw [← hl]
 cases hr : fndK k l 0 with
 | none => rw [hr] at hf; simp [Instr.lookup, run_underlying hT, MapKept.run_getObj_map hb', h.chk, hf, hz, Result.andThen, lookV]
 | some p => rw [hr] at hf; simp [Instr.lookup, run_underlying hT, MapKept.run_getObj_map hb', h.chk, hf, Result.andThen, lookV]
end
end
section
variable {K : Type} [DecidableEq K]
variable {C : Ctx} {F : Fence} {n : Nat} {ds : List Deferred} {all : Array Oper} {Q : Exit → Env → List Blk → Prop} {rest : List Oper} {e : Env} {H : List Blk}
variable {d : Option Tmp} {ty : TypeId} {pos : String} {af : Array Edge} {g : Option (Nat × Bool)}
variable {kT T eT : TypeId} {enc : K → Value} {k : K} {b clock i : Nat} {l : List (EntK K)}
theorem WS_mapUpdK (hF : Wide F) {x y v : Operand} {u : Value} (h : KeyOk C.P kT enc) (hx : ev e x = .map (some b)) (hy : ev e y = enc k) (hv : ev e v = u) (hT : C.P.underlying T = some (.map kT eT))
  (hi : H[i]? = some (b, MK enc l clock)) (hq : WS C F n ds all Q rest e (H.set i (b, MK enc (putL k u l clock) (putC k l clock)))) :
  WS C F n ds all Q (⟨none, .mapUpdate T x y v, ty, pos, af, none⟩ :: rest) e H := fun w hw a ha => by
 have hb := hw.get hi
 unfold wpListIn
 rw [if_pos rf]
 refine ⟨fun f _ => hF.fn f, ?_⟩
 have : (execOp (ev e) ⟨none, .mapUpdate T x y v, ty, pos, af, none⟩).run C.P w = .ok .skip (w.putObj b (MK enc (putL k u l clock) (putC k l clock))) := by
  simp [execOp, hx, hy, hv, run_mapUpdK h hT hb]
 rw [semAt_of rfl, ha.eval, this]
 exact hq _ (hw.set hi (swap_put hb (fun h => by cases h))) _ ha
theorem WS_insertK (hF : Wide F) {x y v : Operand} {u : Value} (h : KeyOk C.P kT enc) (hx : ev e x = .map (some b)) (hy : ev e y = enc k) (hv : ev e v = u) (hT : C.P.underlying T = some (.map kT eT))
  (hi : H[i]? = some (b, MK enc l clock)) (hq : WS C F n ds all Q rest e (H.set i (b, MK enc (putL k u l clock) (putC k l clock)))) :
  WS C F n ds all Q (⟨none, .insert T x y v, ty, pos, af, none⟩ :: rest) e H := fun w hw a ha => by
 have hb := hw.get hi
 unfold wpListIn
 rw [if_pos rf]
 refine ⟨fun f _ => hF.fn f, ?_⟩
 have : (execOp (ev e) ⟨none, .insert T x y v, ty, pos, af, none⟩).run C.P w = .ok .skip (w.putObj b (MK enc (putL k u l clock) (putC k l clock))) := by
  simp [execOp, hx, hy, hv, run_mapUpdK h hT hb]
 rw [semAt_of rfl, ha.eval, this]
 exact hq _ (hw.set hi (swap_put hb (fun h => by cases h))) _ ha
theorem WS_deleteK (hF : Wide F) {x y : Operand} (h : KeyOk C.P kT enc) (hx : ev e x = .map (some b)) (hy : ev e y = enc k) (hT : C.P.underlying T = some (.map kT eT))
  (hi : H[i]? = some (b, MK enc l clock)) (hq : WS C F n ds all Q rest e (H.set i (b, MK enc (delK k l) clock))) :
  WS C F n ds all Q (⟨none, .call ⟨.builtin .delete, #[x, y], #[T, kT]⟩, ty, pos, af, none⟩ :: rest) e H := fun w hw a ha => by
 have hb := hw.get hi
 unfold wpListIn
 rw [if_pos rf]
 refine ⟨fun f _ => hF.fn f, ?_⟩
 have : (execOp (ev e) ⟨none, .call ⟨.builtin .delete, #[x, y], #[T, kT]⟩, ty, pos, af, none⟩).run C.P w = .ok (.value (.tuple #[])) (w.putObj b (MK enc (delK k l) clock)) := by
  simp [execOp, resolve, invoke, builtin, hx, hy, run_deleteK h hT hb]
 rw [semAt_of rfl, ha.eval, this]
 exact hq _ (hw.set hi (swap_put hb (fun h => by cases h))) _ ha
theorem y_lookupK {x y : Operand} {z c : Value} (h : KeyOk C.P kT enc) (hx : ev e x = .map (some b)) (hy : ev e y = enc k) (hT : C.P.underlying T = some (.map kT eT))
  (hz : ∀ w, (zeroValue eT).run C.P w = .ok z w) (hi : H[i]? = some (b, MK enc l clock)) (hr : lookV z (lookK k l) = c) : YD C ⟨d, .lookup T x y true, ty, pos, af, g⟩ e H c := yd_of fun w hw => by
 subst hr
 simp [execOp, hx, hy, run_lookupK h hT (hw.get hi) hz]
end
section
variable {K : Type}
variable {C : Ctx} {F : Fence} {n : Nat} {ds : List Deferred} {all : Array Oper} {Q : Exit → Env → List Blk → Prop} {rest : List Oper} {e : Env} {H : List Blk}
variable {d : Option Tmp} {ty : TypeId} {pos : String} {af : Array Edge} {g : Option (Nat × Bool)}
variable {kT T eT : TypeId} {enc : K → Value} {k : K} {b clock i : Nat} {l : List (EntK K)}
def NewMapK (enc : K → Value) (v : Value) (Hn : List Blk) : Prop := ∃ b, v = .map (some b) ∧ Hn = [(b, MK enc [] 0)]
theorem y_lenK {x : Operand} (hx : ev e x = .map (some b)) (hT : C.P.underlying T = some (.map kT eT)) (hi : H[i]? = some (b, MK enc l clock)) :
  YD C ⟨d, .call ⟨.builtin .len, #[x], #[T]⟩, ty, pos, af, g⟩ e H (.int .i64 l.length) := yd_of fun w hw => by
 have hb' : w.heap[b]? = some (.map (l.map (mK enc)).toArray clock) := hw.get hi
 simp [execOp, resolve, invoke, builtin, Builtin.len_, hx, run_underlying hT, MapKept.run_getObj_map hb', goInt]
theorem y_makeMapK {T : TypeId} (enc : K → Value) : YR C ⟨d, .makeMap T none, ty, pos, af, g⟩ e H (NewMapK enc) := fun w _ => by
 have : (execOp (ev e) ⟨d, .makeMap T none, ty, pos, af, g⟩).run C.P w = .ok (.value (.map (some w.heap.size))) (w.alloc (MK enc [] 0)) := by
  simp [execOp, Instr.makeMap, newObj, MK]; rfl
 rw [this]; exact out_new (fun h => by cases h) ⟨_, rfl, rfl⟩
theorem y_rangeK {x : Operand} (hx : ev e x = .map (some b)) (hT : C.P.underlying T = some (.map kT eT)) (hi : H[i]? = some (b, MK enc l clock)) :
  YR C ⟨d, .range T x, ty, pos, af, g⟩ e H (NewPtr (.mapIter (some b) clock #[] clock)) := fun w hw => by
 have hb' : w.heap[b]? = some (.map (l.map (mK enc)).toArray clock) := hw.get hi
 have : (execOp (ev e) ⟨d, .range T x, ty, pos, af, g⟩).run C.P w = .ok (.value (.pointer (some ⟨w.heap.size, 0, none⟩))) (w.alloc (.mapIter (some b) clock #[] clock)) := by
  simp [execOp, Instr.range, hx, run_underlying hT, MapKept.run_getObj_map hb', newObj]
  rfl
 rw [this]; exact out_new (fun h => by cases h) ⟨_, rfl, rfl⟩
theorem WS_nextK (hF : Wide F) {x : Operand} {r since c0 j : Nat} {seen : Array Nat} (hc : chk n all e ⟨d, .next x false, ty, pos, af, g⟩ = true) (hx : ev e x = .pointer (some ⟨r, 0, none⟩))
  (hi : H[i]? = some (r, .mapIter (some b) since seen c0)) (hj : H[j]? = some (b, MK enc l clock)) (hold : ∀ x ∈ l, x.2.2 < since) (hsc : since ≤ c0)
  (hover : (∀ x ∈ l, x.2.2 ∈ seen) → WS C F n ds all Q rest (updo e d (.tuple #[.bool false])) H)
  (hnext : ∀ x ∈ l, x.2.2 ∉ seen → WS C F n ds all Q rest (updo e d (.tuple #[.bool true, enc x.1, x.2.1])) (H.set i (r, .mapIter (some b) since (seen.push x.2.2) clock))) :
  WS C F n ds all Q (⟨d, .next x false, ty, pos, af, g⟩ :: rest) e H := fun w hw act ha => by
 have hck := chk_spec hc
 have hwant := gd_wanted ha hck.2.1 (gOk_lt hck.2.2.1)
 unfold wpListIn
 rw [if_pos hwant]
 refine ⟨fun f _ => hF.fn f, ?_⟩
 rw [semAt_of hck.1, ha.eval]
 have hr := hw.get hi
 have hb : w.heap[b]? = some (.map (l.map (mK enc)).toArray clock) := hw.get hj
 rcases run_next_at (P := C.P) w ty r b since c0 seen (l.map (mK enc)).toArray clock hr hb (fun x hx => by
   obtain ⟨y, hy, rfl⟩ := List.mem_map.1 (show x ∈ l.map (mK enc) from hx)
   exact hold y hy) hsc with ⟨h0, hrun⟩ | ⟨x', hx', w1, hw1, hrun⟩
 ·have : (execOp (ev e) ⟨d, .next x false, ty, pos, af, g⟩).run C.P w = .ok (.value (.tuple #[.bool false])) w := by
   simp [execOp, hx, hrun]
  rw [this]
  refine hover (fun y hy => ?_) w hw _ (ha.put d hck.2.2.2)
  have h2 : leftOf (l.map (mK enc)).toArray seen = #[] := Array.eq_empty_of_size_eq_zero h0
  unfold leftOf at h2
  rw [Array.filter_eq_empty_iff] at h2
  have := h2 (mK enc y) (List.mem_toArray.2 (List.mem_map.2 ⟨y, hy, rfl⟩))
  simpa [mK] using this
 ·unfold leftOf at hx'
  simp only [Array.toList_filter, List.mem_filter, List.mem_map, Bool.not_eq_true'] at hx'
  obtain ⟨⟨y, hy, rfl⟩, hns⟩ := hx'
  have : (execOp (ev e) ⟨d, .next x false, ty, pos, af, g⟩).run C.P w = .ok (.value (.tuple #[.bool true, enc y.1, y.2.1])) (w1.putObj r (.mapIter (some b) since (seen.push y.2.2) clock)) := by
   have hrun' : (Instr.next (.pointer (some ⟨r, 0, none⟩)) false ty).run C.P w = .ok (.tuple #[.bool true, enc y.1, y.2.1]) (w1.putObj r (.mapIter (some b) since (seen.push y.2.2) clock)) := hrun
   simp [execOp, hx, hrun']
  rw [this]
  have hns' : y.2.2 ∉ seen := by simpa [mK] using hns
  have hst : St C H w1 := by rcases hw1 with rfl | rfl; exact hw; exact hw.drew
  refine hnext y hy hns' _ (hst.set hi (swap_put (hst.get hi) (fun h => by cases h))) _ (ha.put d hck.2.2.2)
theorem y_entryK {x : Operand} {r since j : Nat} {seen : Array Nat} {y : EntK K} (hx : ev e x = .pointer (some ⟨r, 0, none⟩)) (hi : H[i]? = some (r, .mapIter (some b) since (seen.push y.2.2) clock)) (hj : H[j]? = some (b, MK enc l clock))
  (hy : y ∈ l) (hn : (l.map (·.2.2)).Nodup) : YD C ⟨d, .entry x, ty, pos, af, g⟩ e H (.tuple #[enc y.1, y.2.1]) := yd_of fun w hw => by
 have hr := hw.get hi
 have hb : w.heap[b]? = some (.map (l.map (mK enc)).toArray clock) := hw.get hj
 have := run_entry_at (P := C.P) w r b since seen (l.map (mK enc)).toArray clock (mK enc y) hr hb (show mK enc y ∈ l.map (mK enc) from List.mem_map.2 ⟨y, hy, rfl⟩) (by simpa [mK, Function.comp_def] using hn)
 have h2 : (Instr.entry (.pointer (some ⟨r, 0, none⟩))).run C.P w = .ok (.tuple #[enc y.1, y.2.1]) w := this
 simp [execOp, hx, h2]
end
end Go.Eng
namespace Go.Eng
open Go.RowKit
theorem GoodM.nil {K : Type} : GoodM ([] : List (EntK K)) 0 := ⟨fun _ h => (by cases h), List.nodup_nil, List.nodup_nil⟩
section
variable {K : Type} [DecidableEq K]
theorem lookK_nil (k : K) : lookK k ([] : List (EntK K)) = none := rfl
theorem lookK_cons (k : K) (x : EntK K) (l : List (EntK K)) : lookK k (x :: l) = if x.1 = k then some x.2.1 else lookK k l := by
 unfold lookK
 rw [List.find?_cons]
 split
 ·rename_i h; simp only [decide_eq_true_eq] at h; rw [if_pos h]; rfl
 ·rename_i h; simp only [decide_eq_false_iff_not] at h; rw [if_neg h]
theorem lookK_append (k : K) (l m : List (EntK K)) : lookK k (l ++ m) = (lookK k l).or (lookK k m) := by
 induction l with
 | nil => simp [lookK_nil]
 | cons x l ih =>
  rw [List.cons_append, lookK_cons, lookK_cons, ih]
  split <;> simp
theorem lookK_set (k k' : K) (v : Value) (l : List (EntK K)) : lookK k' (setK k v l) = if k' = k then (lookK k l).map fun _ => v else lookK k' l := by
 induction l with
 | nil => simp [setK, lookK_nil]
 | cons x l ih =>
  unfold setK
  by_cases hx : x.1 = k
  ·rw [if_pos hx, lookK_cons, lookK_cons, lookK_cons, if_pos hx]
   by_cases hk : k' = k
   ·subst hk; simp
   ·rw [if_neg (Ne.symm hk), if_neg hk, if_neg (by rw [hx]; exact Ne.symm hk)]
  ·rw [if_neg hx, lookK_cons, lookK_cons, lookK_cons, if_neg hx, ih]
   by_cases hk : k' = k
   ·subst hk; simp [hx]
   ·simp only [if_neg hk]
theorem lookK_put (k k' : K) (v : Value) (l : List (EntK K)) (c : Nat) : lookK k' (putL k v l c) = if k' = k then some v else lookK k' l := by
 unfold putL
 split
 ·rename_i h
  rw [lookK_set]
  obtain ⟨u, hu⟩ := Option.isSome_iff_exists.1 h
  rw [hu]; rfl
 ·rename_i h
  have h0 : lookK k l = none := by
   cases hl : lookK k l with
   | none => rfl
   | some u => rw [hl] at h; exact absurd rfl h
  rw [lookK_append, lookK_cons, lookK_nil]
  by_cases hk : k' = k
  ·subst hk; simp [h0]
  ·rw [if_neg hk, if_neg (Ne.symm hk)]; simp
theorem lookK_some {k : K} {l : List (EntK K)} {v : Value} (h : lookK k l = some v) : ∃ x ∈ l, x.1 = k ∧ x.2.1 = v := by
 unfold lookK at h
 simp only [Option.map_eq_some_iff] at h
 obtain ⟨x, h1, h2⟩ := h
 exact ⟨x, List.mem_of_find?_eq_some h1, by simpa using List.find?_some h1, h2⟩
theorem lookK_mem {l : List (EntK K)} {x : EntK K} (hn : (l.map (·.1)).Nodup) (hx : x ∈ l) : lookK x.1 l = some x.2.1 := by
 induction l with
 | nil => cases hx
 | cons y l ih =>
  rw [List.map_cons, List.nodup_cons] at hn
  rw [lookK_cons]
  rcases List.mem_cons.1 hx with rfl | hx
  ·rw [if_pos rfl]
  ·rw [if_neg fun he => hn.1 (by rw [he]; exact List.mem_map.2 ⟨x, hx, rfl⟩)]
   exact ih hn.2 hx
theorem lookK_none {k : K} {l : List (EntK K)} : lookK k l = none ↔ k ∉ l.map (·.1) := by
 induction l with
 | nil => simp [lookK_nil]
 | cons x l ih =>
  rw [lookK_cons, List.map_cons, List.mem_cons]
  by_cases hx : x.1 = k
  ·simp [hx]
  ·rw [if_neg hx, ih]; simp [Ne.symm hx]
theorem setK_born (k : K) (v : Value) (l : List (EntK K)) : (setK k v l).map (·.2.2) = l.map (·.2.2) := by
 induction l with
 | nil => rfl
 | cons x l ih => unfold setK; split <;> simp [ih]
theorem setK_keys (k : K) (v : Value) (l : List (EntK K)) : (setK k v l).map (·.1) = l.map (·.1) := by
 induction l with
 | nil => rfl
 | cons x l ih =>
  unfold setK
  split
  ·rename_i h; simp [h]
  ·simp [ih]
theorem GoodM.put {l : List (EntK K)} {c : Nat} (h : GoodM l c) (k : K) (v : Value) : GoodM (putL k v l c) (putC k l c) := by
 unfold putL putC
 split
 ·refine ⟨fun x hx => ?_, by rw [setK_born]; exact h.born, by rw [setK_keys]; exact h.keys⟩
  have : x.2.2 ∈ (setK k v l).map (·.2.2) := List.mem_map.2 ⟨x, hx, rfl⟩
  rw [setK_born] at this
  obtain ⟨y, hy, he⟩ := List.mem_map.1 this
  have := h.old y hy
  omega
 ·rename_i h0
  have h0 : lookK k l = none := by
   cases hl : lookK k l with
   | none => rfl
   | some u => rw [hl] at h0; exact absurd rfl h0
  rw [lookK_none] at h0
  refine ⟨fun x hx => ?_, ?_, ?_⟩
  ·rcases List.mem_append.1 hx with hx | hx
   ·have := h.old x hx; omega
   ·simp only [List.mem_singleton] at hx; subst hx; exact Nat.lt_succ_self _
  ·rw [List.map_append, List.nodup_append]
   refine ⟨h.born, by simp, fun a ha b hb => ?_⟩
   simp only [List.map_cons, List.map_nil, List.mem_singleton] at hb
   subst hb
   obtain ⟨y, hy, rfl⟩ := List.mem_map.1 ha
   exact Nat.ne_of_lt (h.old y hy)
  ·rw [List.map_append, List.nodup_append]
   refine ⟨h.keys, by simp, fun a ha b hb => ?_⟩
   simp only [List.map_cons, List.map_nil, List.mem_singleton] at hb
   subst hb
   exact fun he => h0 (he ▸ ha)
theorem delK_sub (k : K) (l : List (EntK K)) : (delK k l).Sublist l := List.eraseP_sublist
theorem GoodM.del {l : List (EntK K)} {c : Nat} (h : GoodM l c) (k : K) : GoodM (delK k l) c :=
 ⟨fun x hx => h.old x ((delK_sub k l).subset hx), ((delK_sub k l).map _).nodup h.born, ((delK_sub k l).map _).nodup h.keys⟩
theorem mem_delK {k : K} {l : List (EntK K)} (hn : (l.map (·.1)).Nodup) {x : EntK K} : x ∈ delK k l ↔ x ∈ l ∧ x.1 ≠ k := by
 induction l with
 | nil => simp [delK]
 | cons y l ih =>
  rw [List.map_cons, List.nodup_cons] at hn
  unfold delK at ih ⊢
  rw [List.eraseP_cons]
  by_cases hy : y.1 = k
  ·rw [decide_eq_true hy, cond_true]
   constructor
   ·intro hx
    exact ⟨List.mem_cons_of_mem _ hx, fun he => hn.1 (by rw [hy, ← he]; exact List.mem_map.2 ⟨x, hx, rfl⟩)⟩
   ·rintro ⟨hx, hk⟩
    rcases List.mem_cons.1 hx with rfl | hx
    ·exact absurd hy hk
    ·exact hx
  ·rw [decide_eq_false hy, cond_false, List.mem_cons, ih hn.2, List.mem_cons]
   constructor
   ·rintro (rfl | ⟨h1, h2⟩)
    ·exact ⟨.inl rfl, hy⟩
    ·exact ⟨.inr h1, h2⟩
   ·rintro ⟨rfl | h1, h2⟩
    ·exact .inl rfl
    ·exact .inr ⟨h1, h2⟩
end
end Go.Eng
namespace Go.Proofs.YtjekjehgmljbgaaGreatDoor.T
open Go.RowKit Go.Proofs Go.Eng
set_option maxRecDepth 100000
set_option maxHeartbeats 1000000
theorem Ct_eq {P : Program} {f : FuncId} {args : Array Value} {w : World} {c c' : Value} (hc : Ct P f args w fun v _ => v = c) (h : c = c') : Ct P f args w fun v _ => v = c' := h ▸ hc
def iv (xs : List Int) : List Value := xs.map (Value.int .i64)
theorem Ints.row {w : World} {b o n cap : Nat} {xs : List Int} (h : Ints w (some ⟨b, o, none⟩) n cap xs) : At w b o (iv xs) := At.of fun j v hv => by
 have hj : j < xs.length := by have := (List.getElem?_eq_some_iff.1 hv).1; simpa [iv] using this
 have h1 := h.at (k := j) (by rw [← h.len]; exact hj)
 have h2 : v = .int .i64 (xs.getD j 0) := by
  rw [iv, List.getElem?_map, List.getElem?_eq_getElem hj] at hv
  simp only [Option.map_some, Option.some.injEq] at hv
  rw [← hv]; simp [List.getD_eq_getElem?_getD, hj]
 rw [h2]
 have := h1.1
 rwa [show o + j * 1 = o + j by omega] at this
theorem Ints.src {C : Ctx} {H : List Blk} {a : Option Addr} {n cap : Nat} {xs : List Int} (h : Ints C.w0 a n cap xs) : Src C H a n (iv xs) := by
 by_cases hn : n = 0
 ·refine .inl ⟨hn, ?_⟩
  have := h.len
  rw [hn] at this
  rw [List.length_eq_zero_iff.1 this]; rfl
 ·obtain ⟨b, o, rfl⟩ := h.adr om0
  exact .inr ⟨b, o, rfl, Mem.old h.row⟩
theorem NewRow.ints {C : Ctx} {H Hn : List Blk} {a : Option Addr} {n cap : Nat} {xs : List Int} {T : TypeId} (h : NewRow T 1 n (iv xs) (.slice a n cap) Hn) (hl : xs.length = n) (hs : Hn.Sublist H) (w : World) (hw : St C H w) : Ints w a n cap xs := by
 obtain ⟨a', cap', he, hle, hc⟩ := h
 cases he
 rcases hc with ⟨hn, b, junk, rfl, rfl, hlen⟩ | ⟨hn, rfl, rfl⟩
 ·exact Ints.mem (rest := junk) 0 rfl hl hle w (hw.sub hs)
 ·subst hn
  rw [List.length_eq_zero_iff.1 hl]
  exact Ints.nil _ _ _
theorem infInt : (Tryz.prog.info? 3).map (fun i => (i.zero, i.size, i.bytes)) = some (some (.int .i64 0), 1, 8) := by kernel_rfl
structure Rws {α : Type} (enc : α → List Value) (sz : Nat) (d : α) (w : World) (a : Option Addr) (n cap : Nat) (xs : List α) : Prop where
 len : xs.length = n
 le : n ≤ cap
 cell : ∀ k, k < n → ∃ b o, a = some ⟨b, o, none⟩ ∧ At w b (o + k * sz) (enc (xs.getD k d))
section
variable {α : Type} {enc : α → List Value} {sz : Nat} {d : α} {w w' : World} {a : Option Addr} {n cap : Nat} {xs : List α}
theorem Rws.below (h : Rws enc sz d w a n cap xs) (hb : Below w.heap.size w w') : Rws enc sz d w' a n cap xs :=
 ⟨h.len, h.le, fun k hk => by obtain ⟨b, o, h1, h2⟩ := h.cell k hk; exact ⟨b, o, h1, At.old hb h2⟩⟩
theorem Rws.st {C : Ctx} {H : List Blk} (h : Rws enc sz d C.w0 a n cap xs) (w : World) (hw : St C H w) : Rws enc sz d w a n cap xs := h.below hw.1
theorem Rws.at {b o : Nat} (h : Rws enc sz d w (some ⟨b, o, none⟩) n cap xs) {k : Nat} (hk : k < n) : At w b (o + k * sz) (enc (xs.getD k d)) := by
 obtain ⟨b', o', h1, h2⟩ := h.cell k hk
 simp only [Option.some.injEq, Addr.mk.injEq] at h1
 obtain ⟨rfl, rfl, _⟩ := h1
 exact h2
theorem Rws.adr (h : Rws enc sz d w a n cap xs) (hn : 0 < n) : ∃ b o, a = some ⟨b, o, none⟩ := by
 obtain ⟨b, o, h1, _⟩ := h.cell 0 hn
 exact ⟨b, o, h1⟩
theorem Rws.nil (w : World) (a : Option Addr) (cap : Nat) : Rws enc sz d w a 0 cap [] := ⟨rfl, Nat.zero_le _, fun k hk => by omega⟩
end
theorem At.app {w : World} {b : Nat} : ∀ {us vs : List Value} {o : Nat}, At w b o us → At w b (o + us.length) vs → At w b o (us ++ vs)
 | [], vs, o, _, h => by simpa using h
 | u :: us, vs, o, h, h' => ⟨h.1, At.app (us := us) h.2 (by rw [show o + 1 + us.length = o + (u :: us).length by simp; omega]; exact h')⟩
section
variable {α : Type} {enc : α → List Value} {sz : Nat} {d : α} {w : World} {a : Option Addr} {n cap : Nat} {xs : List α}
theorem Rws.row (hz : ∀ x, (enc x).length = sz) {b o : Nat} (h : Rws enc sz d w (some ⟨b, o, none⟩) n cap xs) : ∀ m, m ≤ n → At w b o (rowOf enc (fun k => xs.getD k d) m)
 | 0, _ => trivial
 | m + 1, hm => by
  rw [rowOf_succ]
  refine At.app (Rws.row hz h m om0) ?_
  rw [rowOf_len hz]
  exact h.at (k := m) om0
theorem Rws.src (hz : ∀ x, (enc x).length = sz) {C : Ctx} {H : List Blk} (h : Rws enc sz d C.w0 a n cap xs) : Src C H a n (rowOf enc (fun k => xs.getD k d) n) := by
 by_cases hn : n = 0
 ·subst hn; exact .inl ⟨rfl, rfl⟩
 ·obtain ⟨b, o, rfl⟩ := h.adr om0
  exact .inr ⟨b, o, rfl, Mem.old (Rws.row hz h n (Nat.le_refl _))⟩
theorem NewRow.rws (hz : ∀ x, (enc x).length = sz) {C : Ctx} {H Hn : List Blk} {T : TypeId} (h : NewRow T sz n (rowOf enc (fun k => xs.getD k d) n) (.slice a n cap) Hn) (hl : xs.length = n) (hs : Hn.Sublist H) (w : World) (hw : St C H w) : Rws enc sz d w a n cap xs := by
 obtain ⟨a', cap', he, hle, hc⟩ := h
 cases he
 refine ⟨hl, hle, fun k hk => ?_⟩
 rcases hc with ⟨hn, b, junk, rfl, rfl, hlen⟩ | ⟨hn, rfl, rfl⟩
 ·refine ⟨b, 0, rfl, ?_⟩
  exact Mem.rowJ (junk := junk) (k := k) (o := 0 + k * sz) hz 0 rfl hk rfl (Nat.zero_add _) w (hw.sub hs)
 ·omega
end
theorem NewRow.head {T : TypeId} {sz m cap : Nat} {us : List Value} {a : Option Addr} {Hn : List Blk} (h : NewRow T sz m us (.slice a m cap) Hn) (h0 : 0 < m) : ∃ b junk, a = some ⟨b, 0, none⟩ ∧ Hn = [(b, CB (us ++ junk) T)] ∧ (us ++ junk).length = cap * sz ∧ m ≤ cap := by
 obtain ⟨a', cap', hv, hle, ⟨_, b, junk, rfl, rfl, hlen⟩ | ⟨h1, _⟩⟩ := h
 ·cases hv; exact ⟨b, junk, rfl, rfl, hlen, hle⟩
 ·omega
theorem NewRow.mk {T : TypeId} {sz m cap : Nat} {us ws : List Value} {b : Nat} {junk : List Value} (hw : ws = us ++ junk) (hl : ws.length = cap * sz) (hle : m ≤ cap) (h0 : 0 < m) : NewRow T sz m us (.slice (some ⟨b, 0, none⟩) m cap) [(b, CB ws T)] :=
 ⟨_, _, rfl, hle, .inl ⟨h0, b, junk, rfl, by rw [hw], by rw [← hw]; exact hl⟩⟩
theorem Row.ints {C : Ctx} {H Hn : List Blk} {T : TypeId} {a : Option Addr} {n cap : Nat} {xs : List Int} (h : Row T 1 a n cap (iv xs) Hn) (hl : xs.length = n) (hs : Hn.Sublist H) (w : World) (hw : St C H w) : Ints w a n cap xs := by
 rcases h with ⟨rfl, rfl, rfl, _, rfl⟩ | ⟨b, junk, rfl, rfl, h1, h2, h3⟩
 ·rw [List.length_eq_zero_iff.1 hl]; exact Ints.nil _ _ _
 ·exact Ints.mem (rest := junk) 0 rfl hl h3 w (hw.sub hs)
theorem Row.rws {α : Type} {enc : α → List Value} {sz : Nat} {d : α} (hz : ∀ x, (enc x).length = sz) {C : Ctx} {H Hn : List Blk} {T : TypeId} {a : Option Addr} {n cap : Nat} {xs : List α} (h : Row T sz a n cap (rowOf enc (fun k => xs.getD k d) n) Hn) (hl : xs.length = n) (hs : Hn.Sublist H) (w : World) (hw : St C H w) : Rws enc sz d w a n cap xs := by
 rcases h with ⟨rfl, rfl, rfl, _, rfl⟩ | ⟨b, junk, rfl, rfl, h1, h2, h3⟩
 ·rw [List.length_eq_zero_iff.1 hl]; exact Rws.nil _ _ _
 ·refine ⟨hl, h3, fun k hk => ⟨b, 0, rfl, ?_⟩⟩
  exact Mem.rowJ (junk := junk) (k := k) (o := 0 + k * sz) hz 0 rfl hk rfl (Nat.zero_add _) w (hw.sub hs)
theorem Row.newRow {T : TypeId} {sz n cap : Nat} {us : List Value} {a : Option Addr} {Hn : List Blk} (h : Row T sz a n cap us Hn) (hn : 0 < n) : NewRow T sz n us (.slice a n cap) Hn := by
 obtain ⟨_, h, _⟩ | ⟨b, junk, rfl, rfl, h1, h2, h3⟩ := h
 ·omega
 ·exact ⟨_, _, rfl, h3, .inl ⟨hn, b, junk, rfl, rfl, h2⟩⟩
section
variable {C : Ctx} {e : Env} {H : List Blk} {d : Option Tmp} {ty : TypeId} {pos : String} {af : Array Edge} {g : Option (Nat × Bool)}
theorem y_eqlNil {x y : Operand} {T E T' : TypeId} {a : Option Addr} {n c : Nat} (hx : ev e x = .slice a n c) (hy : ev e y = .slice none 0 0) (hT : ∀ w, (underlying T).run C.P w = .ok (.slice E) w) : YD C ⟨d, .binOp .eql T x y T', ty, pos, af, g⟩ e H (.bool a.isNone) := yd_of fun w _ => by
 have h : (Op.equalIn Op.maxDepth T (.slice a n c) (.slice none 0 0)).run C.P w = .ok a.isNone w := by
  unfold Op.maxDepth Op.equalIn
  rw [Sem.run_bind, hT]
  cases a <;> simp
 simp [execOp, hx, hy, eqGuard, binOp, Op.equal, h]
end
set_option maxRecDepth 100000
set_option maxHeartbeats 1000000
def TwinV (t : Tk) (v : Value) (Hn : List Blk) : Prop := ∃ a cap, v = .agg #[.slice a t.n cap, .int .i64 t.leak, .int .i64 t.foot] ∧ NewRow 3 1 t.n (iv t.pints) (.slice a t.n cap) Hn
theorem bd138_0_1_2 {x0f : Go.Fn} {x0x x0y : Array Value} {x1f : Go.Fn} {x1x x1y : Array Value} {x2f : Go.Fn} {x2x x2y : Array Value} : ∀ w, (Instr.build 138 #[(0, .func x0f x0x x0y), (1, .func x1f x1x x1y), (2, .func x2f x2x x2y)]).run Tryz.prog w = .ok (.agg #[.func x0f x0x x0y, .func x1f x1x x1y, .func x2f x2x x2y]) w := fun w => by kernel_rfl
theorem bd139_1_2_3 {x1_0 : Value} {x1_1 : Value} {x1_2 : Value} {x2_0 : Value} {x2_1 : Value} {x2_2 : Value} {x3_0 : Value} {x3_1 : Value} {x3_2 : Value} : ∀ w, (Instr.build 139 #[(1, .agg #[x1_0, x1_1, x1_2]), (2, .agg #[x2_0, x2_1, x2_2]), (3, .agg #[x3_0, x3_1, x3_2])]).run Tryz.prog w = .ok (.agg #[.nilFunc, .nilFunc, .nilFunc, x1_0, x1_1, x1_2, x2_0, x2_1, x2_2, x3_0, x3_1, x3_2]) w := fun w => by kernel_rfl
theorem bd59_1 {x1 : Int} : ∀ w, (Instr.build 59 #[(1, .int .i64 x1)]).run Tryz.prog w = .ok (.agg #[.int .i64 0, .int .i64 x1]) w := fun w => by kernel_rfl
theorem fa143_1 : ∀ b o w, (Instr.fieldAt 143 (.pointer (some ⟨b, o, none⟩)) 1).run Tryz.prog w = .ok (.pointer (some ⟨b, o + 3, none⟩)) w := fun b o w => by kernel_rfl
structure Sn where
 lo : Int
 hi : Int
deriving DecidableEq
def Sn.cells (s : Sn) : List Value := [.int .i64 s.lo, .int .i64 s.hi]
def Sn.z : Sn := ⟨0, 0⟩
structure En where
 day : Int
 kind : Int
 size : Sn
deriving DecidableEq
def En.cells (x : En) : List Value := [.int .i64 x.day, .int .i64 x.kind, .int .i64 x.size.lo, .int .i64 x.size.hi]
def En.z : En := ⟨0, 0, Sn.z⟩
abbrev Ens := Rws En.cells 4 En.z
abbrev Sns := Rws Sn.cells 2 Sn.z
structure Lg where
 tk : Tk
 start : Sn
 es : List En
def Sn.met (a b : Sn) : Sn := ⟨max a.lo b.lo, min a.hi b.hi⟩
def Sn.inB (s : Sn) (m : Int) : Bool := T.inB 0 m [s.lo, s.hi] && decide (s.lo ≤ s.hi)
def Tk.dip (t : Tk) (s : Sn) : Sn := ⟨t.up s.lo, t.down s.hi⟩
def Tk.all (t : Tk) : Sn := ⟨0, t.full⟩
def Sn.add (a b : Sn) : Sn := ⟨a.lo + b.lo, a.hi + b.hi⟩
def Sn.sub (a b : Sn) : Sn := ⟨a.lo - b.hi, a.hi - b.lo⟩
def Sn.Sm (s : Sn) : Prop := -1000000000 ≤ s.lo ∧ s.lo ≤ 1000000000 ∧ -1000000000 ≤ s.hi ∧ s.hi ≤ 1000000000
def formsV : List Value := [.nilFunc, .nilFunc, .nilFunc, .func (.func 158) #[] #[], .func (.func 159) #[] #[], .func (.func 160) #[] #[],
 .func (.func 158) #[] #[], .func (.func 160) #[] #[], .func (.func 159) #[] #[], .func (.func 161) #[] #[], .func (.func 162) #[] #[], .func (.func 162) #[] #[]]
theorem forms_any (w : World) : Ct Tryz.prog 137 #[] w fun v _ => v = .agg formsV.toArray := by
 have hF := wide_wide
 refine Ct_start (args := []) Tryz.func137 rf Tryz.ntmps137 rf ?_
 refine zR fun ds => ?_
 refine WS_new hF rf (y_alloc Tryz.zeroValue139 rf) (fun b1 => ?_)
 refine zP fun ds => ?_
 refine za (_) hF ?_
 refine zP fun ds => ?_
 refine zm (_) hF ?_
 refine zD hF (y_buildL bd138_0_1_2 rf) ?_
 refine zm (_) hF ?_
 refine zD hF (y_buildL bd138_0_1_2 rf) ?_
 refine zD hF (y_buildL bd138_0_1_2 rf) ?_
 refine zD hF (y_buildL bd139_1_2_3 rf) ?_
 refine WS_store hF (i := 0) rf rf Tryz.sizeOf139 rf rf rf d20 ?_
 refine zN ?_
 refine W_ret ?_
 refine Fin_ret [_] [] Tryz.results137 ⟨lvN rf Tryz.isAgg139 Tryz.sizeOf139 (Mem.own (us := [_, _, _, _, _, _, _, _, _, _, _, _]) 0 rf rf) rf, trivial⟩ HSub.nil ?_
 rfl
theorem forms1_any (g og : Nat) (t : Tk) (x y : Int) (w : World) (hG : Gg w g og t) :
  Ct Tryz.prog 158 #[.pointer (some ⟨g, og, none⟩), .agg #[.int .i64 x, .int .i64 y]] w fun v _ => v = .bool (Sn.inB ⟨x, y⟩ t.full) := by
 obtain ⟨hok, a, cap, hg, hx⟩ := hG
 have hF := wide_wide
 refine Ct_start (args := [_, _]) Tryz.func158 rf Tryz.ntmps158 rf ?_
 refine zR fun ds => ?_
 refine WS_new hF rf (y_box rf) (fun b1 => ?_)
 refine za (.bool _) hF ?_
 refine zO ?_
 refine W_draw0 hF Tryzmixed [] dk0 (fun ds => ?_)
 refine P_det rf (Over_nil (y_loadN rf Tryz.isAgg59 Tryz.sizeOf59 (Mem.own (us := [.int .i64 _, .int .i64 _]) 0 rf rf) rf)) ?_
 refine P_det rf (Over_nil (y_move (c := .pointer _) rf)) ?_
 refine P_det rf (Over_nil znk) ?_
 refine P_det rf (Over_nil (y_fieldAddr rf fa143_1)) ?_
 refine P_det rf (Over_nil (y_load1 rf Tryz.isAgg3 zo)) ?_
 refine P_det rf (Over_nil (y_callL rf rf Tryz.call138 (fun w hw => span_any _ _ _ w))) ?_
 refine P_det rf (Over_nil (y_assign (c := .bool _) rf)) ?_
 refine PW_end rf ?_
 refine OverAll_nil ?_
 rintro -
 refine Then_normal ?_
 refine W_ret ?_
 refine Fin_ret [.bool _] [] Tryz.results158 ⟨by rfl, trivial⟩ HSub.nil ?_
 rfl
theorem forms2_any (g og : Nat) (t : Tk) (x y : Int) (w : World) (hG : Gg w g og t) :
  Ct Tryz.prog 161 #[.pointer (some ⟨g, og, none⟩), .agg #[.int .i64 x, .int .i64 y]] w fun v _ => v = .bool (Sn.inB ⟨x, y⟩ t.height) := by
 obtain ⟨hok, a, cap, hg, hx⟩ := hG
 have hF := wide_wide
 refine Ct_start (args := [_, _]) Tryz.func161 rf Tryz.ntmps161 rf ?_
 refine zR fun ds => ?_
 refine WS_new hF rf (y_box rf) (fun b1 => ?_)
 refine za (.bool _) hF ?_
 refine zO ?_
 refine W_draw0 hF Tryzmixed [] dk0 (fun ds => ?_)
 refine P_det rf (Over_nil (y_loadN rf Tryz.isAgg59 Tryz.sizeOf59 (Mem.own (us := [.int .i64 _, .int .i64 _]) 0 rf rf) rf)) ?_
 refine P_det rf (Over_nil (y_move (c := .pointer _) rf)) ?_
 refine P_det rf (Over_nil znk) ?_
 refine P_det rf (Over_nil (y_fieldAddr rf fa143_2)) ?_
 refine P_det rf (Over_nil (y_load1 rf Tryz.isAgg3 zo)) ?_
 refine P_det rf (Over_nil (y_callL rf rf Tryz.call138 (fun w hw => span_any _ _ _ w))) ?_
 refine P_det rf (Over_nil (y_assign (c := .bool _) rf)) ?_
 refine PW_end rf ?_
 refine OverAll_nil ?_
 rintro -
 refine Then_normal ?_
 refine W_ret ?_
 refine Fin_ret [.bool _] [] Tryz.results161 ⟨by rfl, trivial⟩ HSub.nil ?_
 rfl
theorem more_any (g og : Nat) (t : Tk) (s h : Sn) (w : World) (hG : Gg w g og t) (hs : s.Sm) (hh : h.Sm) :
  Ct Tryz.prog 159 #[.pointer (some ⟨g, og, none⟩), .agg s.cells.toArray, .agg h.cells.toArray] w fun v _ => v = .agg ((h.add s).met t.all).cells.toArray := by
 obtain ⟨hok, a, cap, hg, hx⟩ := hG
 unfold Sn.Sm at hs hh
 have hF := wide_wide
 refine Ct_start (args := [_, _, _]) Tryz.func159 rf Tryz.ntmps159 rf ?_
 refine zR fun ds => ?_
 refine WS_new hF rf (y_box rf) (fun b1 => ?_)
 refine WS_new hF rf (y_box rf) (fun b2 => ?_)
 refine WS_new hF rf (y_alloc Tryz.zeroValue59 rf) (fun b3 => ?_)
 refine zO ?_
 apply W_draw1 hF Tryzmixed [1000000] (i := 0) rf dk0
 intro ds
 refine P_det rf (Over_out rf (Over_nil (y_fieldAddr rf fa59_0))) ?_
 refine P_det rf (Over_out rf (Over_nil (y_load1 rf Tryz.isAgg3 (Mem.own1 0 rf rf)))) ?_
 refine P_det rf (Over_out rf (Over_nil (y_fieldAddr rf fa59_0))) ?_
 refine P_det rf (Over_out rf (Over_nil (y_load1 rf Tryz.isAgg3 (Mem.own1 1 rf rf)))) ?_
 refine P_det rf (Over_out rf (Over_nil (y_add rf rf ui))) ?_
 refine P_det rf (Over_out rf (Over_nil (y_fieldAddr rf fa59_1))) ?_
 refine P_det rf (Over_out rf (Over_nil (y_load1 rf Tryz.isAgg3 (Mem.own1 0 rf rf)))) ?_
 refine P_det rf (Over_out rf (Over_nil (y_fieldAddr rf fa59_1))) ?_
 refine P_det rf (Over_out rf (Over_nil (y_load1 rf Tryz.isAgg3 (Mem.own1 1 rf rf)))) ?_
 refine P_det rf (Over_out rf (Over_nil (y_add rf rf ui))) ?_
 refine P_det rf (Over_out rf (Over_nil (y_buildL bd59_0_1 rf))) ?_
 refine P_det rf (Over_out rf (Over_nil (y_move (c := .pointer _) rf))) ?_
 refine P_det rf (Over_out rf (Over_nil znk)) ?_
 refine P_det rf (Over_out rf (Over_nil (y_fieldAddr rf fa143_1))) ?_
 refine P_det rf (Over_out rf (Over_nil (y_load1 rf Tryz.isAgg3 zo))) ?_
 refine P_det rf (Over_out rf (Over_nil (y_buildL bd59_1 rf))) ?_
 refine P_det rf (Over_out rf (Over_nil (y_callL rf rf Tryz.call116 (fun w hw => met_any _ _ _ _ w)))) ?_
 refine P_st 1000000 0 rf rf rf rf rf (Over_nil (st_pre (fun _ => by rfl) (fun _ => by rfl) Tryz.sizeOf59 rf rf d20)) ?_
 refine PW_end rf ?_
 refine OverAll_cons (fun w1000000 l1000000 => ?_)
 refine OverAll_nil ?_
 rintro ⟨-, h1000000⟩
 obtain rfl := h1000000
 refine Then_normal ?_
 refine W_ret ?_
 refine Fin_ret [_] [] Tryz.results159 ⟨lvN rf Tryz.isAgg59 Tryz.sizeOf59 (Mem.own (us := [.int .i64 _, .int .i64 _]) 0 rf rf) rf, trivial⟩ HSub.nil ?_
 rfl
theorem tless_any (g og : Nat) (t : Tk) (s h : Sn) (w : World) (hG : Gg w g og t) (hs : s.Sm) (hh : h.Sm) :
  Ct Tryz.prog 160 #[.pointer (some ⟨g, og, none⟩), .agg s.cells.toArray, .agg h.cells.toArray] w fun v _ => v = .agg ((h.sub s).met t.all).cells.toArray := by
 obtain ⟨hok, a, cap, hg, hx⟩ := hG
 unfold Sn.Sm at hs hh
 have hF := wide_wide
 refine Ct_start (args := [_, _, _]) Tryz.func160 rf Tryz.ntmps160 rf ?_
 refine zR fun ds => ?_
 refine WS_new hF rf (y_box rf) (fun b1 => ?_)
 refine WS_new hF rf (y_box rf) (fun b2 => ?_)
 refine WS_new hF rf (y_alloc Tryz.zeroValue59 rf) (fun b3 => ?_)
 refine zO ?_
 apply W_draw1 hF Tryzmixed [1000000] (i := 0) rf dk0
 intro ds
 refine P_det rf (Over_out rf (Over_nil (y_fieldAddr rf fa59_0))) ?_
 refine P_det rf (Over_out rf (Over_nil (y_load1 rf Tryz.isAgg3 (Mem.own1 0 rf rf)))) ?_
 refine P_det rf (Over_out rf (Over_nil (y_fieldAddr rf fa59_1))) ?_
 refine P_det rf (Over_out rf (Over_nil (y_load1 rf Tryz.isAgg3 (Mem.own1 1 rf rf)))) ?_
 refine P_det rf (Over_out rf (Over_nil (y_sub rf rf ui))) ?_
 refine P_det rf (Over_out rf (Over_nil (y_fieldAddr rf fa59_1))) ?_
 refine P_det rf (Over_out rf (Over_nil (y_load1 rf Tryz.isAgg3 (Mem.own1 0 rf rf)))) ?_
 refine P_det rf (Over_out rf (Over_nil (y_fieldAddr rf fa59_0))) ?_
 refine P_det rf (Over_out rf (Over_nil (y_load1 rf Tryz.isAgg3 (Mem.own1 1 rf rf)))) ?_
 refine P_det rf (Over_out rf (Over_nil (y_sub rf rf ui))) ?_
 refine P_det rf (Over_out rf (Over_nil (y_buildL bd59_0_1 rf))) ?_
 refine P_det rf (Over_out rf (Over_nil (y_move (c := .pointer _) rf))) ?_
 refine P_det rf (Over_out rf (Over_nil znk)) ?_
 refine P_det rf (Over_out rf (Over_nil (y_fieldAddr rf fa143_1))) ?_
 refine P_det rf (Over_out rf (Over_nil (y_load1 rf Tryz.isAgg3 zo))) ?_
 refine P_det rf (Over_out rf (Over_nil (y_buildL bd59_1 rf))) ?_
 refine P_det rf (Over_out rf (Over_nil (y_callL rf rf Tryz.call116 (fun w hw => met_any _ _ _ _ w)))) ?_
 refine P_st 1000000 0 rf rf rf rf rf (Over_nil (st_pre (fun _ => by rfl) (fun _ => by rfl) Tryz.sizeOf59 rf rf d20)) ?_
 refine PW_end rf ?_
 refine OverAll_cons (fun w1000000 l1000000 => ?_)
 refine OverAll_nil ?_
 rintro ⟨-, h1000000⟩
 obtain rfl := h1000000
 refine Then_normal ?_
 refine W_ret ?_
 refine Fin_ret [_] [] Tryz.results160 ⟨lvN rf Tryz.isAgg59 Tryz.sizeOf59 (Mem.own (us := [.int .i64 _, .int .i64 _]) 0 rf rf) rf, trivial⟩ HSub.nil ?_
 rfl
theorem seen_any (g og : Nat) (t : Tk) (s h : Sn) (w : World) (hG : Gg w g og t) (hs : s.inB t.height = true) :
  Ct Tryz.prog 162 #[.pointer (some ⟨g, og, none⟩), .agg s.cells.toArray, .agg h.cells.toArray] w fun v _ => v = .agg (h.met (t.dip s)).cells.toArray := by
 obtain ⟨s0, s1⟩ := s
 obtain ⟨h0, h1⟩ := h
 unfold Sn.inB at hs
 rw [Bool.and_eq_true, inB2] at hs
 have hF := wide_wide
 refine Ct_start (args := [_, _, _]) Tryz.func162 rf Tryz.ntmps162 rf ?_
 refine zR fun ds => ?_
 refine WS_new hF rf (y_box rf) (fun b1 => ?_)
 refine WS_new hF rf (y_box rf) (fun b2 => ?_)
 refine WS_new hF rf (y_alloc Tryz.zeroValue59 rf) (fun b3 => ?_)
 refine zO ?_
 apply W_draw1 hF Tryzmixed [1000000] (i := 0) rf dk0
 intro ds
 refine P_det rf (Over_out rf (Over_nil (y_loadN rf Tryz.isAgg59 Tryz.sizeOf59 (Mem.own (us := [.int .i64 _, .int .i64 _]) 0 rf rf) rf))) ?_
 refine P_det rf (Over_out rf (Over_nil (y_move (c := .pointer _) rf))) ?_
 refine P_det rf (Over_out rf (Over_nil (y_loadN rf Tryz.isAgg59 Tryz.sizeOf59 (Mem.own (us := [.int .i64 _, .int .i64 _]) 1 rf rf) rf))) ?_
 refine P_det rf (Over_out rf (Over_nil (y_callL rf rf Tryz.call169 (fun w hw => dip_any _ _ t s0 s1 w (hG.st w hw) hs.1.1.1 hs.1.1.2 hs.1.2.1 hs.1.2.2)))) ?_
 refine P_det rf (Over_out rf (Over_nil (y_callL rf rf Tryz.call116 (fun w hw => met_any _ _ _ _ w)))) ?_
 refine P_st 1000000 0 rf rf rf rf rf (Over_nil (st_pre (fun _ => by rfl) (fun _ => by rfl) Tryz.sizeOf59 rf rf d20)) ?_
 refine PW_end rf ?_
 refine OverAll_cons (fun w1000000 l1000000 => ?_)
 refine OverAll_nil ?_
 rintro ⟨-, h1000000⟩
 obtain rfl := h1000000
 refine Then_normal ?_
 refine W_ret ?_
 refine Fin_ret [_] [] Tryz.results162 ⟨lvN rf Tryz.isAgg59 Tryz.sizeOf59 (Mem.own (us := [.int .i64 _, .int .i64 _]) 0 rf rf) rf, trivial⟩ HSub.nil ?_
 rfl
theorem fa138_1 : ∀ b o w, (Instr.fieldAt 138 (.pointer (some ⟨b, o, none⟩)) 1).run Tryz.prog w = .ok (.pointer (some ⟨b, o + 1, none⟩)) w := fun b o w => by kernel_rfl
theorem fa141_0 : ∀ b o w, (Instr.fieldAt 141 (.pointer (some ⟨b, o, none⟩)) 0).run Tryz.prog w = .ok (.pointer (some ⟨b, o + 0, none⟩)) w := fun b o w => by kernel_rfl
theorem fa141_1 : ∀ b o w, (Instr.fieldAt 141 (.pointer (some ⟨b, o, none⟩)) 1).run Tryz.prog w = .ok (.pointer (some ⟨b, o + 1, none⟩)) w := fun b o w => by kernel_rfl
theorem fa141_2 : ∀ b o w, (Instr.fieldAt 141 (.pointer (some ⟨b, o, none⟩)) 2).run Tryz.prog w = .ok (.pointer (some ⟨b, o + 7, none⟩)) w := fun b o w => by kernel_rfl
theorem fa62_2 : ∀ b o w, (Instr.fieldAt 62 (.pointer (some ⟨b, o, none⟩)) 2).run Tryz.prog w = .ok (.pointer (some ⟨b, o + 5, none⟩)) w := fun b o w => by kernel_rfl
theorem fa90_0 : ∀ b o w, (Instr.fieldAt 90 (.pointer (some ⟨b, o, none⟩)) 0).run Tryz.prog w = .ok (.pointer (some ⟨b, o + 0, none⟩)) w := fun b o w => by kernel_rfl
theorem fa90_1 : ∀ b o w, (Instr.fieldAt 90 (.pointer (some ⟨b, o, none⟩)) 1).run Tryz.prog w = .ok (.pointer (some ⟨b, o + 1, none⟩)) w := fun b o w => by kernel_rfl
theorem fa90_2 : ∀ b o w, (Instr.fieldAt 90 (.pointer (some ⟨b, o, none⟩)) 2).run Tryz.prog w = .ok (.pointer (some ⟨b, o + 2, none⟩)) w := fun b o w => by kernel_rfl
def Lg.e (l : Lg) (k : Nat) : En := l.es.getD k En.z
def Tk.most (t : Tk) (kind : Int) : Int := if kind = 3 then t.height else t.full
def Tk.entB (t : Tk) (day : Int) (x : En) : Bool := inB day 3652 [x.day] && inB 1 3 [x.kind] && x.size.inB (t.most x.kind)
def Tk.entsB (t : Tk) : Int → List En → Bool
 | _, [] => true
 | day, x :: l => t.entB day x && t.entsB x.day l
def Lg.okB (l : Lg) : Bool := l.start.inB l.tk.full && decide (l.es.length ≤ 12) && l.tk.entsB 0 l.es
structure Lg.Ok (l : Lg) : Prop where
 tk : l.tk.Ok
 start : l.start.inB l.tk.full = true
 n12 : l.es.length ≤ 12
 day : ∀ k, k < l.es.length → 0 ≤ (l.e k).day ∧ (l.e k).day ≤ 3652
 mono : ∀ k, k + 1 < l.es.length → (l.e k).day ≤ (l.e (k + 1)).day
 kind : ∀ k, k < l.es.length → 1 ≤ (l.e k).kind ∧ (l.e k).kind ≤ 3
 size : ∀ k, k < l.es.length → (l.e k).size.inB (l.tk.most (l.e k).kind) = true
theorem Sn.inB_iff {s : Sn} {m : Int} : s.inB m = true ↔ 0 ≤ s.lo ∧ s.lo ≤ s.hi ∧ s.hi ≤ m := by
 unfold Sn.inB
 rw [Bool.and_eq_true, inB2, decide_eq_true_eq]; omega
theorem Lg.Ok.sm {l : Lg} (h : l.Ok) {k : Nat} (hk : k < l.es.length) : (l.e k).size.Sm := by
 have h1 := Sn.inB_iff.1 (h.size k hk)
 have h2 := h.tk.full_bd
 have h3 := h.tk.n21
 have h4 := h.tk.n2
 unfold Tk.most Tk.height at h1
 unfold Sn.Sm
 split at h1 <;> omega
def Lg.drip (l : Lg) (i : Nat) : Int := if i = 0 then 0 else l.tk.leak * ((l.e i).day - (l.e (i - 1)).day)
def Lg.before (l : Lg) (i : Nat) (s : Sn) : Sn := ⟨max 0 (s.lo - l.drip i), s.hi⟩
def Tk.forth (t : Tk) (x : En) (s : Sn) : Sn := if x.kind = 1 then (s.add x.size).met t.all else if x.kind = 2 then (s.sub x.size).met t.all else s.met (t.dip x.size)
def Tk.back (t : Tk) (x : En) (s : Sn) : Sn := if x.kind = 1 then (s.sub x.size).met t.all else if x.kind = 2 then (s.add x.size).met t.all else s.met (t.dip x.size)
def Lg.after (l : Lg) (i : Nat) (s : Sn) : Sn := l.tk.forth (l.e i) (l.before i s)
theorem Lg.Ok.drip_bd {l : Lg} (h : l.Ok) {i : Nat} (hi : i < l.es.length) : 0 ≤ l.drip i ∧ l.drip i ≤ 182600 := by
 unfold Lg.drip
 split
 ·omega
 ·have h1 := h.mono (i - 1) om0
  rw [show i - 1 + 1 = i by omega] at h1
  have h2 := h.day i hi
  have h3 := h.day (i - 1) om0
  have := mul_bd h.tk.leak0 h.tk.leak1 (show 0 ≤ (l.e i).day - (l.e (i - 1)).day by omega) (show (l.e i).day - (l.e (i - 1)).day ≤ 3652 by omega)
  omega
def bookCells (g : Nat) (l : Lg) (a : Option Addr) (cap : Nat) (ae : Option Addr) (cape : Nat) : List Value :=
 [.pointer (some ⟨g, 0, none⟩), .slice a l.tk.n cap, .int .i64 l.tk.leak, .int .i64 l.tk.foot, .int .i64 l.start.lo, .int .i64 l.start.hi, .slice ae l.es.length cape] ++ formsV
structure Bk (w : World) (bk : Nat) (l : Lg) : Prop where
 ok : l.Ok
 ex : ∃ g a cap ae cape, At w bk 0 (bookCells g l a cap ae cape) ∧ Gg w g 0 l.tk ∧ Ens w ae l.es.length cape l.es
theorem Bk.below {w w' : World} {bk : Nat} {l : Lg} (h : Bk w bk l) (hb : Below w.heap.size w w') : Bk w' bk l := by
 obtain ⟨hok, g, a, cap, ae, cape, h1, h2, h3⟩ := h
 exact ⟨hok, g, a, cap, ae, cape, At.old hb h1, h2.below hb, h3.below hb⟩
theorem Bk.st {C : Ctx} {H : List Blk} {bk : Nat} {l : Lg} (h : Bk C.w0 bk l) (w : World) (hw : St C H w) : Bk w bk l := h.below hw.1
theorem drip_any (bk : Nat) (l : Lg) (i : Nat) (w : World) (hB : Bk w bk l) (hi : i < l.es.length) :
  Ct Tryz.prog 142 #[.pointer (some ⟨bk, 0, none⟩), .int .i64 (i : Int)] w fun v _ => v = .int .i64 (l.drip i) := by
 obtain ⟨hok, g, a, cap, ae, cape, h1, ⟨_, a2, cap2, hg, _⟩, h3⟩ := hB
 obtain ⟨b, o, rfl⟩ := h3.adr om0
 have hd := hok.drip_bd hi
 have h12 := hok.n12
 have hF := wide_wide
 refine Ct_start (args := [_, _]) Tryz.func142 rf Tryz.ntmps142 rf ?_
 refine zR fun ds => ?_
 refine za (.int .i64 _) hF ?_
 refine zO ?_
 refine zR fun ds => ?_
 refine zm (.int .i64 _) hF ?_
 refine zD hF (y_eql rf rf) ?_
 refine zN ?_
 refine W_cond rf (fun c1 => ?_) (fun c1 => ?_)
 ·
  try simp only [qz1, qz2, qz3, qz4, qz5, qz6, qz7, qz8] at c1
  refine zR fun ds => ?_
  refine za (.int .i64 _) hF ?_
  refine zN ?_
  refine W_ret ?_
  refine Then_ret ?_
  refine Fin_ret [.int .i64 _] [] Tryz.results142 ⟨by rfl, trivial⟩ HSub.nil ?_
  have hi0 : i = 0 := by omega
  subst hi0
  show Value.int _ _ = _
  rfl
 ·
  try simp only [qz1, qz2, qz3, qz4, qz5, qz6, qz7, qz8] at c1
  have hi0 : ¬ i = 0 := by omega
  have e1 : At w b (o + i * 4) (l.e i).cells := h3.at hi
  have e0 : At w b (o + (i - 1) * 4) (l.e (i - 1)).cells := h3.at (k := i - 1) om0
  have d1 := hok.day i hi
  have d0 := hok.day (i - 1) om0
  rw [Lg.drip, if_neg hi0] at hd ⊢
  refine zU ?_
  refine W_seq ?_
  refine W_draw0 hF Tryzmixed [] dk0 (fun ds => ?_)
  refine P_det rf (Over_nil (y_move (c := .pointer _) rf)) ?_
  refine P_det rf (Over_nil znk) ?_
  refine P_det rf (Over_nil (y_fieldAddr rf fa141_0)) ?_
  refine P_det rf (Over_nil (y_load1 rf Tryz.isAgg134 zo)) ?_
  refine P_det rf (Over_nil znk) ?_
  refine P_det rf (Over_nil (y_fieldAddr rf fa143_0)) ?_
  refine P_det rf (Over_nil (y_fieldAddr rf fa57_1)) ?_
  refine P_det rf (Over_nil (y_load1 rf Tryz.isAgg3 zo)) ?_
  refine P_det rf (Over_nil (y_move (c := .pointer _) rf)) ?_
  refine P_det rf (Over_nil znk) ?_
  refine P_det rf (Over_nil (y_fieldAddr rf fa141_1)) ?_
  refine P_det rf (Over_nil (y_fieldAddr rf fa62_2)) ?_
  refine P_det rf (Over_nil (y_load1 rf Tryz.isAgg60 zo)) ?_
  refine P_det rf (Over_nil (y_move (c := .int .i64 _) rf)) ?_
  refine P_det rf (Over_nil (y_index (k := i) rf rf r1 d10 Tryz.runUnderlying60 Tryz.sizeOf90)) ?_
  refine P_det rf (Over_nil (y_fieldAddr rf fa90_0)) ?_
  refine P_det rf (Over_nil (y_load1 rf Tryz.isAgg3 zo)) ?_
  refine P_det rf (Over_nil (y_move (c := .pointer _) rf)) ?_
  refine P_det rf (Over_nil znk) ?_
  refine P_det rf (Over_nil (y_fieldAddr rf fa141_1)) ?_
  refine P_det rf (Over_nil (y_fieldAddr rf fa62_2)) ?_
  refine P_det rf (Over_nil (y_load1 rf Tryz.isAgg60 zo)) ?_
  refine P_det rf (Over_nil (y_move (c := .int .i64 _) rf)) ?_
  refine P_det rf (Over_nil (y_sub rf rf ui)) ?_
  refine P_det rf (Over_nil (y_index (k := i - 1) rf rf r1 d10 Tryz.runUnderlying60 Tryz.sizeOf90)) ?_
  refine P_det rf (Over_nil (y_fieldAddr rf fa90_0)) ?_
  refine P_det rf (Over_nil (y_load1 rf Tryz.isAgg3 zo)) ?_
  refine P_det rf (Over_nil (y_sub rf rf ui)) ?_
  refine P_det rf (Over_nil (y_mul rf rf ui)) ?_
  refine P_det rf (Over_nil (y_assign (c := .int .i64 _) rf)) ?_
  refine PW_end rf ?_
  refine OverAll_nil ?_
  rintro -
  refine Then_normal ?_
  refine W_ret ?_
  refine Fin_ret [.int .i64 _] [] Tryz.results142 ⟨by rfl, trivial⟩ HSub.nil ?_
  rfl
theorem before_any (bk : Nat) (l : Lg) (i : Nat) (s : Sn) (w : World) (hB : Bk w bk l) (hi : i < l.es.length) (hs : s.Sm) :
  Ct Tryz.prog 163 #[.pointer (some ⟨bk, 0, none⟩), .int .i64 (i : Int), .agg s.cells.toArray] w fun v _ => v = .agg (l.before i s).cells.toArray := by
 have hd := hB.ok.drip_bd hi
 unfold Sn.Sm at hs
 have hF := wide_wide
 refine Ct_start (args := [_, _, _]) Tryz.func163 rf Tryz.ntmps163 rf ?_
 refine zR fun ds => ?_
 refine WS_new hF rf (y_box rf) (fun b1 => ?_)
 refine WS_new hF rf (y_alloc Tryz.zeroValue59 rf) (fun b2 => ?_)
 refine zO ?_
 apply W_draw1 hF Tryzmixed [1000000] (i := 0) rf dk0
 intro ds
 refine P_det rf (Over_out rf (Over_nil (y_fieldAddr rf fa59_0))) ?_
 refine P_det rf (Over_out rf (Over_nil (y_load1 rf Tryz.isAgg3 (Mem.own1 0 rf rf)))) ?_
 refine P_det rf (Over_out rf (Over_nil (y_move (c := .pointer _) rf))) ?_
 refine P_det rf (Over_out rf (Over_nil (y_move (c := .int .i64 _) rf))) ?_
 refine P_det rf (Over_out rf (Over_nil (y_callL rf rf Tryz.call142 (fun w hw => drip_any bk l i w (hB.st w hw) hi)))) ?_
 refine P_det rf (Over_out rf (Over_nil (y_sub rf rf ui))) ?_
 refine P_det rf (Over_out rf (Over_nil (y_max rf rf))) ?_
 refine P_det rf (Over_out rf (Over_nil (y_fieldAddr rf fa59_1))) ?_
 refine P_det rf (Over_out rf (Over_nil (y_load1 rf Tryz.isAgg3 (Mem.own1 0 rf rf)))) ?_
 refine P_det rf (Over_out rf (Over_nil (y_buildL bd59_0_1 rf))) ?_
 refine P_st 1000000 0 rf rf rf rf rf (Over_nil (st_pre (fun _ => by rfl) (fun _ => by rfl) Tryz.sizeOf59 rf rf d20)) ?_
 refine PW_end rf ?_
 refine OverAll_cons (fun w1000000 l1000000 => ?_)
 refine OverAll_nil ?_
 rintro ⟨-, h1000000⟩
 obtain rfl := h1000000
 refine Then_normal ?_
 refine W_ret ?_
 refine Fin_ret [_] [] Tryz.results163 ⟨lvN rf Tryz.isAgg59 Tryz.sizeOf59 (Mem.own (us := [.int .i64 _, .int .i64 _]) 0 rf rf) rf, trivial⟩ HSub.nil ?_
 rfl
theorem after_any (bk : Nat) (l : Lg) (i : Nat) (s : Sn) (w : World) (hB : Bk w bk l) (hi : i < l.es.length) (hs : s.Sm) :
  Ct Tryz.prog 140 #[.pointer (some ⟨bk, 0, none⟩), .int .i64 (i : Int), .agg s.cells.toArray] w fun v _ => v = .agg (l.after i s).cells.toArray := by
 have hb : (l.before i s).Sm := by
  have hd := hB.ok.drip_bd hi
  unfold Sn.Sm at hs ⊢
  unfold Lg.before
  simp only
  omega
 have hk := hB.ok.kind i hi
 have hz := hB.ok.sm hi
 have hq := hB.ok.size i hi
 have hL0 : l.after i s = l.tk.forth (l.e i) (l.before i s) := rfl
 obtain ⟨g, a, cap, ae, cape, h1, hG, h3⟩ := hB.ex
 obtain ⟨b, o, rfl⟩ := h3.adr om0
 have e1 : At w b (o + i * 4) (l.e i).cells := h3.at hi
 generalize l.e i = x at *
 obtain ⟨d0, k0, z⟩ := x
 simp only at hk hz hq
 obtain rfl | rfl | rfl : k0 = 1 ∨ k0 = 2 ∨ k0 = 3 := by omega
 ·
  have hF := wide_wide
  refine Ct_start (args := [_, _, _]) Tryz.func140 rf Tryz.ntmps140 rf ?_
  refine zR fun ds => ?_
  refine WS_new hF rf (y_box rf) (fun b1 => ?_)
  refine WS_new hF rf (y_alloc Tryz.zeroValue59 rf) (fun b2 => ?_)
  refine zP fun ds => ?_
  refine zm (.pointer _) hF ?_
  refine zD hF znk ?_
  refine zD hF (y_fieldAddr rf fa141_1) ?_
  refine zD hF (y_fieldAddr rf fa62_2) ?_
  refine zD hF (y_load1 rf Tryz.isAgg60 zo) ?_
  refine zm (.int .i64 _) hF ?_
  refine zD hF (y_index (k := i) rf rf r1 d10 Tryz.runUnderlying60 Tryz.sizeOf90) ?_
  refine zD hF (y_loadN rf Tryz.isAgg90 Tryz.sizeOf90 (zq [.int .i64 _, .int .i64 _, .int .i64 _, .int .i64 _]) rf) ?_
  refine WS_new hF rf (y_alloc Tryz.zeroValue90 rf) (fun b3 => ?_)
  refine WS_store hF (i := 0) rf rf Tryz.sizeOf90 rf rf rf d20 ?_
  refine zO ?_
  apply W_draw1 hF Tryzmixed [1000000] (i := 1) rf dk0
  intro ds
  refine P_det rf (Over_out rf (Over_nil (y_move (c := .pointer _) rf))) ?_
  refine P_det rf (Over_out rf (Over_nil (y_fieldAddr rf fa90_1))) ?_
  refine P_det rf (Over_out rf (Over_nil (y_load1 rf Tryz.isAgg3 (Mem.own1 0 rf rf)))) ?_
  refine P_det rf (Over_out rf (Over_nil znk)) ?_
  refine P_det rf (Over_out rf (Over_nil (y_fieldAddr rf fa141_2))) ?_
  refine P_det rf (Over_out rf (Over_nil (y_indexA (k := 1) rf rf r1 d10 Tryz.runUnderlying139 Tryz.sizeOf138))) ?_
  refine P_det rf (Over_out rf (Over_nil (y_fieldAddr rf fa138_1))) ?_
  refine P_det rf (Over_out rf (Over_nil (y_load1 rf Tryz.isAgg136 zo))) ?_
  refine P_det rf (Over_out rf (Over_nil (y_move (c := .pointer _) rf))) ?_
  refine P_det rf (Over_out rf (Over_nil znk)) ?_
  refine P_det rf (Over_out rf (Over_nil (y_fieldAddr rf fa141_0))) ?_
  refine P_det rf (Over_out rf (Over_nil (y_load1 rf Tryz.isAgg134 zo))) ?_
  refine P_det rf (Over_out rf (Over_nil (y_fieldAddr rf fa90_2))) ?_
  refine P_det rf (Over_out rf (Over_nil (y_loadN rf Tryz.isAgg59 Tryz.sizeOf59 (Mem.own (us := [.int .i64 _, .int .i64 _]) 0 rf rf) rf))) ?_
  refine P_det rf (Over_out rf (Over_nil (y_move (c := .pointer _) rf))) ?_
  refine P_det rf (Over_out rf (Over_nil (y_move (c := .int .i64 _) rf))) ?_
  refine P_det rf (Over_out rf (Over_nil (y_loadN rf Tryz.isAgg59 Tryz.sizeOf59 (Mem.own (us := [.int .i64 _, .int .i64 _]) 1 rf rf) rf))) ?_
  refine P_det rf (Over_out rf (Over_nil (y_callL rf rf Tryz.call163 (fun w hw => before_any bk l i s w (hB.st w hw) hi hs)))) ?_
  refine P_det rf (Over_out rf (Over_nil (y_callL rf rf Tryz.call159 (fun w hw => more_any g 0 l.tk z (l.before i s) w (hG.st w hw) hz hb)))) ?_
  refine P_st 1000000 0 rf rf rf rf rf (Over_nil (st_pre (fun _ => by rfl) (fun _ => by rfl) Tryz.sizeOf59 rf rf d20)) ?_
  refine PW_end rf ?_
  refine OverAll_cons (fun w1000000 l1000000 => ?_)
  refine OverAll_nil ?_
  rintro ⟨-, h1000000⟩
  obtain rfl := h1000000
  refine Then_normal ?_
  refine W_ret ?_
  refine Fin_ret [_] [] Tryz.results140 ⟨lvN rf Tryz.isAgg59 Tryz.sizeOf59 (Mem.own (us := [.int .i64 _, .int .i64 _]) 0 rf rf) rf, trivial⟩ HSub.nil ?_
  show Value.agg _ = _
  rw [hL0]; rfl
 ·
  have hF := wide_wide
  refine Ct_start (args := [_, _, _]) Tryz.func140 rf Tryz.ntmps140 rf ?_
  refine zR fun ds => ?_
  refine WS_new hF rf (y_box rf) (fun b1 => ?_)
  refine WS_new hF rf (y_alloc Tryz.zeroValue59 rf) (fun b2 => ?_)
  refine zP fun ds => ?_
  refine zm (.pointer _) hF ?_
  refine zD hF znk ?_
  refine zD hF (y_fieldAddr rf fa141_1) ?_
  refine zD hF (y_fieldAddr rf fa62_2) ?_
  refine zD hF (y_load1 rf Tryz.isAgg60 zo) ?_
  refine zm (.int .i64 _) hF ?_
  refine zD hF (y_index (k := i) rf rf r1 d10 Tryz.runUnderlying60 Tryz.sizeOf90) ?_
  refine zD hF (y_loadN rf Tryz.isAgg90 Tryz.sizeOf90 (zq [.int .i64 _, .int .i64 _, .int .i64 _, .int .i64 _]) rf) ?_
  refine WS_new hF rf (y_alloc Tryz.zeroValue90 rf) (fun b3 => ?_)
  refine WS_store hF (i := 0) rf rf Tryz.sizeOf90 rf rf rf d20 ?_
  refine zO ?_
  apply W_draw1 hF Tryzmixed [1000000] (i := 1) rf dk0
  intro ds
  refine P_det rf (Over_out rf (Over_nil (y_move (c := .pointer _) rf))) ?_
  refine P_det rf (Over_out rf (Over_nil (y_fieldAddr rf fa90_1))) ?_
  refine P_det rf (Over_out rf (Over_nil (y_load1 rf Tryz.isAgg3 (Mem.own1 0 rf rf)))) ?_
  refine P_det rf (Over_out rf (Over_nil znk)) ?_
  refine P_det rf (Over_out rf (Over_nil (y_fieldAddr rf fa141_2))) ?_
  refine P_det rf (Over_out rf (Over_nil (y_indexA (k := 2) rf rf r1 d10 Tryz.runUnderlying139 Tryz.sizeOf138))) ?_
  refine P_det rf (Over_out rf (Over_nil (y_fieldAddr rf fa138_1))) ?_
  refine P_det rf (Over_out rf (Over_nil (y_load1 rf Tryz.isAgg136 zo))) ?_
  refine P_det rf (Over_out rf (Over_nil (y_move (c := .pointer _) rf))) ?_
  refine P_det rf (Over_out rf (Over_nil znk)) ?_
  refine P_det rf (Over_out rf (Over_nil (y_fieldAddr rf fa141_0))) ?_
  refine P_det rf (Over_out rf (Over_nil (y_load1 rf Tryz.isAgg134 zo))) ?_
  refine P_det rf (Over_out rf (Over_nil (y_fieldAddr rf fa90_2))) ?_
  refine P_det rf (Over_out rf (Over_nil (y_loadN rf Tryz.isAgg59 Tryz.sizeOf59 (Mem.own (us := [.int .i64 _, .int .i64 _]) 0 rf rf) rf))) ?_
  refine P_det rf (Over_out rf (Over_nil (y_move (c := .pointer _) rf))) ?_
  refine P_det rf (Over_out rf (Over_nil (y_move (c := .int .i64 _) rf))) ?_
  refine P_det rf (Over_out rf (Over_nil (y_loadN rf Tryz.isAgg59 Tryz.sizeOf59 (Mem.own (us := [.int .i64 _, .int .i64 _]) 1 rf rf) rf))) ?_
  refine P_det rf (Over_out rf (Over_nil (y_callL rf rf Tryz.call163 (fun w hw => before_any bk l i s w (hB.st w hw) hi hs)))) ?_
  refine P_det rf (Over_out rf (Over_nil (y_callL rf rf Tryz.call160 (fun w hw => tless_any g 0 l.tk z (l.before i s) w (hG.st w hw) hz hb)))) ?_
  refine P_st 1000000 0 rf rf rf rf rf (Over_nil (st_pre (fun _ => by rfl) (fun _ => by rfl) Tryz.sizeOf59 rf rf d20)) ?_
  refine PW_end rf ?_
  refine OverAll_cons (fun w1000000 l1000000 => ?_)
  refine OverAll_nil ?_
  rintro ⟨-, h1000000⟩
  obtain rfl := h1000000
  refine Then_normal ?_
  refine W_ret ?_
  refine Fin_ret [_] [] Tryz.results140 ⟨lvN rf Tryz.isAgg59 Tryz.sizeOf59 (Mem.own (us := [.int .i64 _, .int .i64 _]) 0 rf rf) rf, trivial⟩ HSub.nil ?_
  show Value.agg _ = _
  rw [hL0]; rfl
 ·
  have hF := wide_wide
  refine Ct_start (args := [_, _, _]) Tryz.func140 rf Tryz.ntmps140 rf ?_
  refine zR fun ds => ?_
  refine WS_new hF rf (y_box rf) (fun b1 => ?_)
  refine WS_new hF rf (y_alloc Tryz.zeroValue59 rf) (fun b2 => ?_)
  refine zP fun ds => ?_
  refine zm (.pointer _) hF ?_
  refine zD hF znk ?_
  refine zD hF (y_fieldAddr rf fa141_1) ?_
  refine zD hF (y_fieldAddr rf fa62_2) ?_
  refine zD hF (y_load1 rf Tryz.isAgg60 zo) ?_
  refine zm (.int .i64 _) hF ?_
  refine zD hF (y_index (k := i) rf rf r1 d10 Tryz.runUnderlying60 Tryz.sizeOf90) ?_
  refine zD hF (y_loadN rf Tryz.isAgg90 Tryz.sizeOf90 (zq [.int .i64 _, .int .i64 _, .int .i64 _, .int .i64 _]) rf) ?_
  refine WS_new hF rf (y_alloc Tryz.zeroValue90 rf) (fun b3 => ?_)
  refine WS_store hF (i := 0) rf rf Tryz.sizeOf90 rf rf rf d20 ?_
  refine zO ?_
  apply W_draw1 hF Tryzmixed [1000000] (i := 1) rf dk0
  intro ds
  refine P_det rf (Over_out rf (Over_nil (y_move (c := .pointer _) rf))) ?_
  refine P_det rf (Over_out rf (Over_nil (y_fieldAddr rf fa90_1))) ?_
  refine P_det rf (Over_out rf (Over_nil (y_load1 rf Tryz.isAgg3 (Mem.own1 0 rf rf)))) ?_
  refine P_det rf (Over_out rf (Over_nil znk)) ?_
  refine P_det rf (Over_out rf (Over_nil (y_fieldAddr rf fa141_2))) ?_
  refine P_det rf (Over_out rf (Over_nil (y_indexA (k := 3) rf rf r1 d10 Tryz.runUnderlying139 Tryz.sizeOf138))) ?_
  refine P_det rf (Over_out rf (Over_nil (y_fieldAddr rf fa138_1))) ?_
  refine P_det rf (Over_out rf (Over_nil (y_load1 rf Tryz.isAgg136 zo))) ?_
  refine P_det rf (Over_out rf (Over_nil (y_move (c := .pointer _) rf))) ?_
  refine P_det rf (Over_out rf (Over_nil znk)) ?_
  refine P_det rf (Over_out rf (Over_nil (y_fieldAddr rf fa141_0))) ?_
  refine P_det rf (Over_out rf (Over_nil (y_load1 rf Tryz.isAgg134 zo))) ?_
  refine P_det rf (Over_out rf (Over_nil (y_fieldAddr rf fa90_2))) ?_
  refine P_det rf (Over_out rf (Over_nil (y_loadN rf Tryz.isAgg59 Tryz.sizeOf59 (Mem.own (us := [.int .i64 _, .int .i64 _]) 0 rf rf) rf))) ?_
  refine P_det rf (Over_out rf (Over_nil (y_move (c := .pointer _) rf))) ?_
  refine P_det rf (Over_out rf (Over_nil (y_move (c := .int .i64 _) rf))) ?_
  refine P_det rf (Over_out rf (Over_nil (y_loadN rf Tryz.isAgg59 Tryz.sizeOf59 (Mem.own (us := [.int .i64 _, .int .i64 _]) 1 rf rf) rf))) ?_
  refine P_det rf (Over_out rf (Over_nil (y_callL rf rf Tryz.call163 (fun w hw => before_any bk l i s w (hB.st w hw) hi hs)))) ?_
  refine P_det rf (Over_out rf (Over_nil (y_callL rf rf Tryz.call162 (fun w hw => seen_any g 0 l.tk z (l.before i s) w (hG.st w hw) hq)))) ?_
  refine P_st 1000000 0 rf rf rf rf rf (Over_nil (st_pre (fun _ => by rfl) (fun _ => by rfl) Tryz.sizeOf59 rf rf d20)) ?_
  refine PW_end rf ?_
  refine OverAll_cons (fun w1000000 l1000000 => ?_)
  refine OverAll_nil ?_
  rintro ⟨-, h1000000⟩
  obtain rfl := h1000000
  refine Then_normal ?_
  refine W_ret ?_
  refine Fin_ret [_] [] Tryz.results140 ⟨lvN rf Tryz.isAgg59 Tryz.sizeOf59 (Mem.own (us := [.int .i64 _, .int .i64 _]) 0 rf rf) rf, trivial⟩ HSub.nil ?_
  show Value.agg _ = _
  rw [hL0]; rfl
theorem bd141_0_1_2 {x0 : Option Addr} {x1_0a : Option Addr} {x1_0l x1_0c : Nat} {x1_1 : Int} {x1_2 : Int} {x1_3 : Int} {x1_4 : Int} {x1_5a : Option Addr} {x1_5l x1_5c : Nat} {x2_0 : Value} {x2_1 : Value} {x2_2 : Value} {x2_3 : Value} {x2_4 : Value} {x2_5 : Value} {x2_6 : Value} {x2_7 : Value} {x2_8 : Value} {x2_9 : Value} {x2_10 : Value} {x2_11 : Value} : ∀ w, (Instr.build 141 #[(0, .pointer x0), (1, .agg #[.slice x1_0a x1_0l x1_0c, .int .i64 x1_1, .int .i64 x1_2, .int .i64 x1_3, .int .i64 x1_4, .slice x1_5a x1_5l x1_5c]), (2, .agg #[x2_0, x2_1, x2_2, x2_3, x2_4, x2_5, x2_6, x2_7, x2_8, x2_9, x2_10, x2_11])]).run Tryz.prog w = .ok (.agg #[.pointer x0, .slice x1_0a x1_0l x1_0c, .int .i64 x1_1, .int .i64 x1_2, .int .i64 x1_3, .int .i64 x1_4, .slice x1_5a x1_5l x1_5c, x2_0, x2_1, x2_2, x2_3, x2_4, x2_5, x2_6, x2_7, x2_8, x2_9, x2_10, x2_11]) w := fun w => by kernel_rfl
theorem fa138_0 : ∀ b o w, (Instr.fieldAt 138 (.pointer (some ⟨b, o, none⟩)) 0).run Tryz.prog w = .ok (.pointer (some ⟨b, o + 0, none⟩)) w := fun b o w => by kernel_rfl
theorem fa62_0 : ∀ b o w, (Instr.fieldAt 62 (.pointer (some ⟨b, o, none⟩)) 0).run Tryz.prog w = .ok (.pointer (some ⟨b, o + 0, none⟩)) w := fun b o w => by kernel_rfl
theorem fa62_1 : ∀ b o w, (Instr.fieldAt 62 (.pointer (some ⟨b, o, none⟩)) 1).run Tryz.prog w = .ok (.pointer (some ⟨b, o + 3, none⟩)) w := fun b o w => by kernel_rfl
def gaugeCells (t : Tk) (a : Option Addr) (cap : Nat) : List Value := [.slice a t.n cap, .int .i64 t.leak, .int .i64 t.foot, .int .i64 t.full, .int .i64 t.height]
def Lg.err (l : Lg) : Int := if l.tk.okB then if l.okB then 0 else 31 else 30
def BookV (l : Lg) (a : Option Addr) (cap : Nat) (ae : Option Addr) (cape : Nat) (v : Value) (Hn : List Blk) : Prop :=
 ∃ p, v = .tuple #[.pointer p, .int .i64 l.err] ∧ (l.err = 0 → ∃ g b, p = some ⟨b, 0, none⟩ ∧ Hn = [(b, CB (bookCells g l a cap ae cape) 141), (g, CB (gaugeCells l.tk a cap) 143)]) ∧ (l.err ≠ 0 → Hn = [])
theorem Tk.entsB_take (t : Tk) : ∀ (es : List En) (day : Int) (k : Nat) (h : k < es.length), t.entsB day es = (t.entsB day (es.take k) && t.entsB (if k = 0 then day else (es.getD (k - 1) En.z).day) (es.drop k))
 | [], _, k, h => by simp at h
 | x :: es, day, 0, _ => by simp [Tk.entsB]
 | x :: es, day, k + 1, h => by
  rw [List.take_succ_cons, List.drop_succ_cons, Tk.entsB, Tk.entsB]
  cases k with
  | zero => simp [Tk.entsB]
  | succ k =>
   rw [Tk.entsB_take t es x.day (k + 1) (by simpa using h), Bool.and_assoc]
   simp
theorem Tk.entsB_succ (t : Tk) : ∀ (es : List En) (day : Int) (k : Nat) (h : k < es.length), t.entsB day (es.take (k + 1)) = (t.entsB day (es.take k) && t.entB (if k = 0 then day else (es.getD (k - 1) En.z).day) (es.getD k En.z))
 | [], _, k, h => by simp at h
 | x :: es, day, 0, _ => by simp [Tk.entsB]
 | x :: es, day, k + 1, h => by
  have hk : k < es.length := by simpa using h
  rw [List.take_succ_cons, List.take_succ_cons, Tk.entsB, Tk.entsB, Tk.entsB_succ t es x.day k hk, Bool.and_assoc]
  congr 2
  cases k with
  | zero => simp
  | succ k => simp
theorem Tk.entsB_bad (t : Tk) {es : List En} {day : Int} {k : Nat} (h : k < es.length) (hb : t.entB (if k = 0 then day else (es.getD (k - 1) En.z).day) (es.getD k En.z) = false) : t.entsB day es = false := by
 rw [t.entsB_take es day k h]
 have : es.drop k = es.getD k En.z :: es.drop (k + 1) := by
  rw [List.drop_eq_getElem_cons h]; simp [List.getD_eq_getElem?_getD, h]
 rw [this, Tk.entsB, hb]; simp
def Lg.dayAt (l : Lg) (k : Nat) : Int := if k = 0 then 0 else (l.e (k - 1)).day
def rightF (kind : Int) : FuncId := if kind = 3 then 161 else 158
theorem right_call (kind : Int) : ∀ args w, (callFunc (rightF kind) args).run Tryz.prog w = .ok (.enter (rightF kind) args) w := by
 unfold rightF
 split
 ·exact Tryz.call161
 ·exact Tryz.call158
theorem right_any (kind : Int) (g og : Nat) (t : Tk) (s : Sn) (w : World) (hG : Gg w g og t) :
  Ct Tryz.prog (rightF kind) #[.pointer (some ⟨g, og, none⟩), .agg s.cells.toArray] w fun v _ => v = .bool (s.inB (t.most kind)) := by
 unfold rightF Tk.most
 split
 ·exact forms2_any g og t s.lo s.hi w hG
 ·exact forms1_any g og t s.lo s.hi w hG
theorem right_cell (g : Nat) (l : Lg) (a : Option Addr) (cap : Nat) (ae : Option Addr) (cape : Nat) (k : Nat) (h : 1 ≤ k ∧ k ≤ 3) : (bookCells g l a cap ae cape)[7 + k * 3]? = some (.func (.func (rightF (k : Int))) #[] #[]) := by
 obtain rfl | rfl | rfl : k = 1 ∨ k = 2 ∨ k = 3 := by omega
 ·rfl
 ·rfl
 ·rfl
theorem opened_any (l : Lg) (a : Option Addr) (cap : Nat) (ae : Option Addr) (cape : Nat) (w : World) (hn : l.tk.n ≤ 1000000) (hx : Ints w a l.tk.n cap l.tk.pints) (he : Ens w ae l.es.length cape l.es) :
  Ct Tryz.prog 108 #[.agg #[.slice a l.tk.n cap, .int .i64 l.tk.leak, .int .i64 l.tk.foot, .int .i64 l.start.lo, .int .i64 l.start.hi, .slice ae l.es.length cape]] w (BookV l a cap ae cape) := by
 have hF := wide_wide
 refine Ct_start (args := [_]) Tryz.func108 rf Tryz.ntmps108 rf ?_
 refine zR fun ds => ?_
 refine WS_new hF rf (y_box rf) (fun b1 => ?_)
 refine za (.pointer _) hF ?_
 refine za (.int .i64 _) hF ?_
 refine zP fun ds => ?_
 refine zD hF (y_fieldAddr rf fa62_0) ?_
 refine zD hF (y_loadN rf Tryz.isAgg57 Tryz.sizeOf57 (Mem.own (us := [.slice _ _ _, .int .i64 _, .int .i64 _]) 0 rf rf) rf) ?_
 refine WS_gen hF rf (y_callL rf rf Tryz.call136 (fun w hw => gauged_any l.tk a cap w hn (hx.st w hw))) ?_
 rintro _ Hg ⟨p, rfl, hg1, hg2⟩
 refine zm (.tuple _) hF ?_
 refine zD hF (y_extract (c := .pointer _) rf rf) ?_
 refine zD hF (y_extract (c := .bool _) rf rf) ?_
 refine za (.pointer _) hF ?_
 refine za (.bool _) hF ?_
 refine zO ?_
 refine zR fun ds => ?_
 refine zm (.bool _) hF ?_
 refine zD hF (y_not rf) ?_
 refine zN ?_
 refine W_cond rf (fun c2 => ?_) (fun c2 => ?_)
 ·
  try simp only [qz1, qz2, qz3, qz4, qz5, qz6, qz7, qz8] at c2
  obtain rfl := hg2 c2
  refine zR fun ds => ?_
  refine za (.pointer _) hF ?_
  refine za (.int .i64 _) hF ?_
  refine zN ?_
  refine W_ret ?_
  refine Then_ret ?_
  refine Fin_ret [.pointer _, .int .i64 _] [] Tryz.results108 ⟨by rfl, by rfl, trivial⟩ HSub.nil ?_
  have h30 : l.err = 30 := by simp [Lg.err, c2]
  refine ⟨none, ?_, fun h => by omega, fun _ => rfl⟩
  rw [h30]; rfl
 ·
  try simp only [qz1, qz2, qz3, qz4, qz5, qz6, qz7, qz8] at c2
  obtain ⟨g, rfl, rfl⟩ := hg1 c2
  refine zU ?_
  refine W_seq ?_
  refine W_draw0 hF Tryzmixed [] dk0 (fun ds => ?_)
  refine P_det rf (Over_nil (y_move (c := .pointer _) rf)) ?_
  refine P_det rf (Over_nil (y_loadN rf Tryz.isAgg62 Tryz.sizeOf62 (Mem.own (us := [.slice _ _ _, .int .i64 _, .int .i64 _, .int .i64 _, .int .i64 _, .slice _ _ _]) 1 rf rf) rf)) ?_
  refine P_det rf (Over_nil (y_callL rf rf Tryz.call137 (fun w hw => forms_any w))) ?_
  refine P_det rf (Over_nil (y_buildL bd141_0_1_2 rf)) ?_
  refine P_new rf rf (Over_nil (y_box rf)) ?_
  refine P_ali [22] (fun e => e 22) rf rf rf (fun _ _ h => h 22 (List.mem_singleton.2 rfl)) (Over_in rf (Over_nil (by rintro _ _ ⟨b2, rfl, rfl⟩; exact (YD0_of (y_assign (c := .pointer _) rf))))) ?_
  refine PW_end rf ?_
  refine OverAll_cons (fun w6 l6 => ?_)
  refine OverAll_cons (fun w22 l22 => ?_)
  refine OverAll_nil ?_
  rintro ⟨⟨-, h6⟩, h22⟩
  obtain ⟨bk, rfl, rfl⟩ := h22
  obtain ⟨h6, rfl⟩ := h6
  replace h6 : w6 = .pointer _ := h6
  subst h6
  refine Then_normal ?_
  refine W_seq ?_
  refine W_seq ?_
  refine W_draw0 hF Tryzmixed [] dk0 (fun ds => ?_)
  refine P_det rf (Over_nil (y_fieldAddr rf fa62_1)) ?_
  refine P_det rf (Over_nil (y_loadN rf Tryz.isAgg59 Tryz.sizeOf59 (Mem.own (us := [.int .i64 _, .int .i64 _]) 2 rf rf) rf)) ?_
  refine P_det rf (Over_nil (y_move (c := .pointer _) rf)) ?_
  refine P_det rf (Over_nil znk) ?_
  refine P_det rf (Over_nil (y_fieldAddr rf fa143_1)) ?_
  refine P_det rf (Over_nil (y_load1 rf Tryz.isAgg3 (Mem.own1 1 rf rf))) ?_
  refine P_det rf (Over_nil (y_callL rf rf Tryz.call138 (fun w hw => span_any _ _ _ w))) ?_
  refine P_det rf (Over_nil (y_not rf)) ?_
  refine P_det rf (Over_nil (y_move (c := .bool _) rf)) ?_
  refine P_split 31 rf (fun g5_8 => ?_) (fun g5_8 => ?_)
  ·
   try simp only [qz1, qz2, qz3, qz4, qz5, qz6, qz7, qz8] at g5_8
   refine P_no rf ?_
   refine P_no rf ?_
   refine P_no rf ?_
   refine P_no rf ?_
   refine P_det rf (Over_nil (by first | exact y_pick_t (c := .bool _) rf rf | exact y_pick_f (c := .bool _) rf rf)) ?_
   refine PW_end rf ?_
   refine OverAll_nil ?_
   rintro -
   refine Then_normal ?_
   refine W_cond rf (fun c5 => ?_) (fun c5 => ?_)
   ·
    try simp only [qz1, qz2, qz3, qz4, qz5, qz6, qz7, qz8] at c5
    refine zR fun ds => ?_
    refine za (.pointer _) hF ?_
    refine za (.int .i64 _) hF ?_
    refine zN ?_
    refine W_ret ?_
    refine Then_ret ?_
    refine Fin_ret [.pointer _, .int .i64 _] [] Tryz.results108 ⟨by rfl, by rfl, trivial⟩ HSub.nil ?_
    have hs : l.start.inB l.tk.full = false := g5_8
    have h31 : l.err = 31 := by simp [Lg.err, Lg.okB, c2, hs]
    refine ⟨none, ?_, fun h => by omega, fun _ => rfl⟩
    rw [h31]; rfl
   ·cases c5
  ·
   try simp only [qz1, qz2, qz3, qz4, qz5, qz6, qz7, qz8] at g5_8
   refine P_det rf (Over_nil (y_fieldAddr rf fa62_2)) ?_
   refine P_det rf (Over_nil (y_load1 rf Tryz.isAgg60 (Mem.own1 2 rf rf))) ?_
   refine P_det rf (Over_nil (y_len rf Tryz.runUnderlying60)) ?_
   refine P_det rf (Over_nil (y_gtr rf rf)) ?_
   refine P_det rf (Over_nil (by first | exact y_pick_t (c := .bool _) rf rf | exact y_pick_f (c := .bool _) rf rf)) ?_
   refine PW_end rf ?_
   refine OverAll_nil ?_
   rintro -
   refine Then_normal ?_
   refine W_cond rf (fun c5 => ?_) (fun c5 => ?_)
   ·
    try simp only [qz1, qz2, qz3, qz4, qz5, qz6, qz7, qz8] at c5
    refine zR fun ds => ?_
    refine za (.pointer _) hF ?_
    refine za (.int .i64 _) hF ?_
    refine zN ?_
    refine W_ret ?_
    refine Then_ret ?_
    refine Fin_ret [.pointer _, .int .i64 _] [] Tryz.results108 ⟨by rfl, by rfl, trivial⟩ HSub.nil ?_
    have h31 : l.err = 31 := by
     have : decide (l.es.length ≤ 12) = false := by simp; omega
     simp [Lg.err, Lg.okB, c2, this]
    refine ⟨none, ?_, fun h => by omega, fun _ => rfl⟩
    rw [h31]; rfl
   ·
    try simp only [qz1, qz2, qz3, qz4, qz5, qz6, qz7, qz8] at c5
    refine W_skip ?_
    refine zS fun ds => ?_
    refine za (.int .i64 _) hF ?_
    refine zO ?_
    refine zR fun ds => ?_
    refine zD hF (y_fieldAddr rf fa62_2) ?_
    refine zD hF (y_load1 rf Tryz.isAgg60 (Mem.own1 2 rf rf)) ?_
    refine zD hF (y_len rf Tryz.runUnderlying60) ?_
    refine zm (.int .i64 _) hF ?_
    refine zN ?_
    refine W_block ?_
    refine W_loop (γ := Nat) (fun k => k ≤ l.es.length ∧ l.tk.entsB 0 (l.es.take k) = true) (fun k => [(40, .int .i64 (k : Int)), (39, .int .i64 (l.es.length : Int)), (38, .slice ae l.es.length cape), (7, .int .i64 (l.dayAt k)), (1, .pointer (some ⟨b1, 0, none⟩)), (4, .pointer (some ⟨g, 0, none⟩)), (6, .pointer (some ⟨bk, 0, none⟩))]) (fun _ => _) (fun k => l.es.length - k) (0) ⟨Nat.zero_le _, rfl⟩ s10 (List.Sublist.refl _) ?_
    rintro k e ⟨hk, hent⟩
    refine zR fun ds => ?_
    refine zD hF (y_lss rf rf) ?_
    refine zO ?_
    refine W_cond rf (fun c9 => ?_) (fun c9 => ?_)
    ·
     try simp only [qz1, qz2, qz3, qz4, qz5, qz6, qz7, qz8] at c9
     obtain ⟨b, o, rfl, hc⟩ := he.cell k om0
     change At w b _ (l.e k).cells at hc
     refine zU ?_
     refine W_seq ?_
     refine W_block ?_
     refine zR fun ds => ?_
     refine zD hF (y_index (k := k) rf rf r1 d10 Tryz.runUnderlying60 Tryz.sizeOf90) ?_
     refine zD hF (y_loadN rf Tryz.isAgg90 Tryz.sizeOf90 (zq [.int .i64 _, .int .i64 _, .int .i64 _, .int .i64 _]) rf) ?_
     refine WS_new hF rf (y_alloc Tryz.zeroValue90 rf) (fun b4 => ?_)
     refine WS_store hF (i := 0) rf rf Tryz.sizeOf90 rf rf rf d20 ?_
     refine zO ?_
     refine W_seq ?_
     refine W_draw0 hF Tryzmixed [] dk0 (fun ds => ?_)
     refine P_det rf (Over_nil (y_move (c := .int .i64 _) rf)) ?_
     refine P_det rf (Over_nil (y_fieldAddr rf fa90_0)) ?_
     refine P_det rf (Over_nil (y_load1 rf Tryz.isAgg3 (Mem.own1 0 rf rf))) ?_
     refine P_new rf rf (Over_nil (y_buildSliceL bs22_1_0 rf)) ?_
     refine P_det rf (Over_in rf (Over_nil (by rintro _ _ ⟨b6, rfl, rfl⟩; exact (y_callL rf rf Tryz.call80 (fun w hw => in_any _ _ _ _ _ _ w dc (by first | exact Ints.one 0 rfl w hw | exact Ints.two 0 rfl w hw)))))) ?_
     refine P_det rf (Over_out rf (Over_nil (y_not rf))) ?_
     refine P_det rf (Over_out rf (Over_nil (y_move (c := .bool _) rf))) ?_
     refine P_split 50 rf (fun g11_6 => ?_) (fun g11_6 => ?_)
     ·
      try simp only [qz1, qz2, qz3, qz4, qz5, qz6, qz7, qz8] at g11_6
      refine P_no rf ?_
      refine P_no rf ?_
      refine P_no rf ?_
      refine P_no rf ?_
      refine P_no rf ?_
      refine P_det rf (Over_out rf (Over_nil (by first | exact y_pick_t (c := .bool _) rf rf | exact y_pick_f (c := .bool _) rf rf))) ?_
      refine P_det rf (Over_out rf (Over_nil (y_move (c := .bool _) rf))) ?_
      refine P_no rf ?_
      refine P_no rf ?_
      refine P_no rf ?_
      refine P_no rf ?_
      refine P_no rf ?_
      refine P_no rf ?_
      refine P_no rf ?_
      refine P_no rf ?_
      refine P_no rf ?_
      refine P_no rf ?_
      refine P_no rf ?_
      refine P_no rf ?_
      refine P_no rf ?_
      refine P_det rf (Over_out rf (Over_nil (by first | exact y_pick_t (c := .bool _) rf rf | exact y_pick_f (c := .bool _) rf rf))) ?_
      refine PW_end rf ?_
      refine OverAll_cons (fun w47 l47 => ?_)
      refine OverAll_nil ?_
      rintro ⟨-, h47⟩
      obtain ⟨b5, rfl, rfl⟩ := h47
      refine Then_normal ?_
      refine W_cond rf (fun c11 => ?_) (fun c11 => ?_)
      ·
       try simp only [qz1, qz2, qz3, qz4, qz5, qz6, qz7, qz8] at c11
       refine zR fun ds => ?_
       refine za (.pointer _) hF ?_
       refine za (.int .i64 _) hF ?_
       refine zN ?_
       refine W_ret ?_
       refine Then_ret ?_
       refine InB_ret ?_
       refine Then_ret ?_
       refine Loop_ret ?_
       refine InB_ret ?_
       refine Then_ret ?_
       refine Fin_ret [.pointer _, .int .i64 _] [] Tryz.results108 ⟨by rfl, by rfl, trivial⟩ HSub.nil ?_
       have hbad : l.tk.entB (if k = 0 then 0 else (l.es.getD (k - 1) En.z).day) (l.es.getD k En.z) = false := by
        show l.tk.entB (l.dayAt k) (l.e k) = false
        unfold Tk.entB
        rw [show inB (l.dayAt k) 3652 [(l.e k).day] = false from g11_6]; rfl
       have h31 : l.err = 31 := by simp [Lg.err, Lg.okB, c2, l.tk.entsB_bad om0 hbad]
       refine ⟨none, ?_, fun h => by omega, fun _ => rfl⟩
       rw [h31]; rfl
      ·cases c11
     ·
      try simp only [qz1, qz2, qz3, qz4, qz5, qz6, qz7, qz8] at g11_6
      refine P_det rf (Over_out rf (Over_nil (y_fieldAddr rf fa90_1))) ?_
      refine P_det rf (Over_out rf (Over_nil (y_load1 rf Tryz.isAgg3 (Mem.own1 0 rf rf)))) ?_
      refine P_new rf rf (Over_out rf (Over_nil (y_buildSliceL bs22_1_0 rf))) ?_
      refine P_det rf (Over_in rf (Over_out rf (Over_nil (by rintro _ _ ⟨b8, rfl, rfl⟩; exact (y_callL rf rf Tryz.call80 (fun w hw => in_any _ _ _ _ _ _ w dc (by first | exact Ints.one 0 rfl w hw | exact Ints.two 0 rfl w hw))))))) ?_
      refine P_det rf (Over_out rf (Over_out rf (Over_nil (y_not rf)))) ?_
      refine P_det rf (Over_out rf (Over_out rf (Over_nil (by first | exact y_pick_t (c := .bool _) rf rf | exact y_pick_f (c := .bool _) rf rf)))) ?_
      refine P_det rf (Over_out rf (Over_out rf (Over_nil (y_move (c := .bool _) rf)))) ?_
      refine P_split 57 rf (fun g11_13 => ?_) (fun g11_13 => ?_)
      ·
       try simp only [qz1, qz2, qz3, qz4, qz5, qz6, qz7, qz8] at g11_13
       refine P_no rf ?_
       refine P_no rf ?_
       refine P_no rf ?_
       refine P_no rf ?_
       refine P_no rf ?_
       refine P_no rf ?_
       refine P_no rf ?_
       refine P_no rf ?_
       refine P_no rf ?_
       refine P_no rf ?_
       refine P_no rf ?_
       refine P_no rf ?_
       refine P_no rf ?_
       refine P_det rf (Over_out rf (Over_out rf (Over_nil (by first | exact y_pick_t (c := .bool _) rf rf | exact y_pick_f (c := .bool _) rf rf)))) ?_
       refine PW_end rf ?_
       refine OverAll_cons (fun w53 l53 => ?_)
       refine OverAll_cons (fun w47 l47 => ?_)
       refine OverAll_nil ?_
       rintro ⟨⟨-, h53⟩, h47⟩
       obtain ⟨b5, rfl, rfl⟩ := h47
       obtain ⟨b7, rfl, rfl⟩ := h53
       refine Then_normal ?_
       refine W_cond rf (fun c11 => ?_) (fun c11 => ?_)
       ·
        try simp only [qz1, qz2, qz3, qz4, qz5, qz6, qz7, qz8] at c11
        refine zR fun ds => ?_
        refine za (.pointer _) hF ?_
        refine za (.int .i64 _) hF ?_
        refine zN ?_
        refine W_ret ?_
        refine Then_ret ?_
        refine InB_ret ?_
        refine Then_ret ?_
        refine Loop_ret ?_
        refine InB_ret ?_
        refine Then_ret ?_
        refine Fin_ret [.pointer _, .int .i64 _] [] Tryz.results108 ⟨by rfl, by rfl, trivial⟩ HSub.nil ?_
        have hbad : l.tk.entB (if k = 0 then 0 else (l.es.getD (k - 1) En.z).day) (l.es.getD k En.z) = false := by
         show l.tk.entB (l.dayAt k) (l.e k) = false
         unfold Tk.entB
         rw [show inB 1 3 [(l.e k).kind] = false from g11_13, Bool.and_false]; rfl
        have h31 : l.err = 31 := by simp [Lg.err, Lg.okB, c2, l.tk.entsB_bad om0 hbad]
        refine ⟨none, ?_, fun h => by omega, fun _ => rfl⟩
        rw [h31]; rfl
       ·cases c11
      ·
       try simp only [qz1, qz2, qz3, qz4, qz5, qz6, qz7, qz8] at g11_13
       have hkd := inB1.1 g11_13
       obtain ⟨kk, hkk⟩ : ∃ kk : Nat, (l.e k).kind = (kk : Int) := Int.eq_ofNat_of_zero_le om0
       refine P_det rf (Over_out rf (Over_out rf (Over_nil (y_move (c := .pointer _) rf)))) ?_
       refine P_det rf (Over_out rf (Over_out rf (Over_nil (y_fieldAddr rf fa90_1)))) ?_
       refine P_det rf (Over_out rf (Over_out rf (Over_nil (y_load1 rf Tryz.isAgg3 (Mem.own1 0 rf rf))))) ?_
       refine P_det rf (Over_out rf (Over_out rf (Over_nil znk))) ?_
       refine P_det rf (Over_out rf (Over_out rf (Over_nil (y_fieldAddr rf fa141_2)))) ?_
       refine P_det rf (Over_out rf (Over_out rf (Over_nil (y_indexA (k := kk) rf rf r1 d10 Tryz.runUnderlying139 Tryz.sizeOf138)))) ?_
       refine P_det rf (Over_out rf (Over_out rf (Over_nil (y_fieldAddr rf fa138_0)))) ?_
       refine P_det rf (Over_out rf (Over_out rf (Over_nil (y_load1 rf Tryz.isAgg135 (by first | exact Mem.own1 0 rf (right_cell _ l _ cap _ cape kk om0) | exact Mem.own1 1 rf (right_cell _ l _ cap _ cape kk om0) | exact Mem.own1 2 rf (right_cell _ l _ cap _ cape kk om0)))))) ?_
       refine P_det rf (Over_out rf (Over_out rf (Over_nil (y_move (c := .pointer _) rf)))) ?_
       refine P_det rf (Over_out rf (Over_out rf (Over_nil (y_fieldAddr rf fa90_2)))) ?_
       refine P_det rf (Over_out rf (Over_out rf (Over_nil (y_loadN rf Tryz.isAgg59 Tryz.sizeOf59 (Mem.own (us := [.int .i64 _, .int .i64 _]) 0 rf rf) rf)))) ?_
       refine P_det rf (Over_out rf (Over_out rf (Over_nil (y_callL rf rf (right_call _) (fun w hw => right_any _ g 0 l.tk (l.e k).size w (Gg.own (by repeat (first | exact List.mem_cons_self | apply List.mem_cons_of_mem)) c2 hx w hw)))))) ?_
       refine P_det rf (Over_out rf (Over_out rf (Over_nil (y_not rf)))) ?_
       refine P_det rf (Over_out rf (Over_out rf (Over_nil (by first | exact y_pick_t (c := .bool _) rf rf | exact y_pick_f (c := .bool _) rf rf)))) ?_
       refine PW_end rf ?_
       refine OverAll_cons (fun w53 l53 => ?_)
       refine OverAll_cons (fun w47 l47 => ?_)
       refine OverAll_nil ?_
       rintro ⟨⟨-, h53⟩, h47⟩
       obtain ⟨b5, rfl, rfl⟩ := h47
       obtain ⟨b7, rfl, rfl⟩ := h53
       refine Then_normal ?_
       refine W_cond rf (fun c11 => ?_) (fun c11 => ?_)
       ·
        try simp only [qz1, qz2, qz3, qz4, qz5, qz6, qz7, qz8] at c11
        refine zR fun ds => ?_
        refine za (.pointer _) hF ?_
        refine za (.int .i64 _) hF ?_
        refine zN ?_
        refine W_ret ?_
        refine Then_ret ?_
        refine InB_ret ?_
        refine Then_ret ?_
        refine Loop_ret ?_
        refine InB_ret ?_
        refine Then_ret ?_
        refine Fin_ret [.pointer _, .int .i64 _] [] Tryz.results108 ⟨by rfl, by rfl, trivial⟩ HSub.nil ?_
        have hbad : l.tk.entB (if k = 0 then 0 else (l.es.getD (k - 1) En.z).day) (l.es.getD k En.z) = false := by
         show l.tk.entB (l.dayAt k) (l.e k) = false
         unfold Tk.entB
         rw [show (l.e k).size.inB (l.tk.most (l.e k).kind) = false by rw [hkk]; exact c11, Bool.and_false]
        have h31 : l.err = 31 := by simp [Lg.err, Lg.okB, c2, l.tk.entsB_bad om0 hbad]
        refine ⟨none, ?_, fun h => by omega, fun _ => rfl⟩
        rw [h31]; rfl
       ·
        try simp only [qz1, qz2, qz3, qz4, qz5, qz6, qz7, qz8] at c11
        have hgood : (true && l.tk.entB (if k = 0 then 0 else (l.es.getD (k - 1) En.z).day) (l.es.getD k En.z)) = true := by
         rw [Bool.true_and]
         show l.tk.entB (l.dayAt k) (l.e k) = true
         unfold Tk.entB
         rw [show inB (l.dayAt k) 3652 [(l.e k).day] = true from g11_6, show inB 1 3 [(l.e k).kind] = true from g11_13, show (l.e k).size.inB (l.tk.most (l.e k).kind) = true by rw [hkk]; exact c11]; rfl
        refine W_skip ?_
        refine zT fun ds => ?_
        refine zD hF (y_fieldAddr rf fa90_0) ?_
        refine zD hF (y_load1 rf Tryz.isAgg3 (Mem.own1 2 rf rf)) ?_
        refine za (.int .i64 _) hF ?_
        refine WS_nil ?_
        refine InB_normal ?_
        refine zT fun ds => ?_
        refine zD hF (y_add rf rf ui) ?_
        refine zm (.int .i64 _) hF ?_
        refine WS_nil ?_
        exact Loop_next (k + 1) ⟨by omega, by rw [l.tk.entsB_succ l.es 0 k om0, hent]; exact hgood⟩ s10 s20 om0
    ·
     try simp only [qz1, qz2, qz3, qz4, qz5, qz6, qz7, qz8] at c9
     refine W_exit ?_
     refine Then_exit ?_
     refine Loop_exit ?_
     refine InB_same ?_
     refine zS fun ds => ?_
     refine zm (.pointer _) hF ?_
     refine za (.pointer _) hF ?_
     refine za (.int .i64 _) hF ?_
     refine zN ?_
     refine W_ret ?_
     have h0 : l.err = 0 := by
      have hkn : k = l.es.length := by omega
      rw [hkn, List.take_length] at hent
      have hs : l.start.inB l.tk.full = true := g5_8
      have h12 : decide (l.es.length ≤ 12) = true := by simp; omega
      simp [Lg.err, Lg.okB, c2, hs, hent, h12]
     refine Fin_ret [.pointer _, .int .i64 _] [(bk, _), (g, _)] Tryz.results108 ⟨by rfl, by rfl, trivial⟩ (HSub.sub (by repeat (first | exact List.nil_sublist _ | apply List.Sublist.cons_cons | apply List.Sublist.cons))) ?_
     refine ⟨_, by rw [h0]; rfl, fun _ => ⟨g, bk, rfl, rfl⟩, fun h => absurd h0 h⟩
theorem holding_any (bk : Nat) (w : World) : Ct Tryz.prog 109 #[.pointer (some ⟨bk, 0, none⟩)] w fun v Hn => ∃ bx, v = .func (.func 139) #[] #[.pointer (some ⟨bx, 0, none⟩)] ∧ Hn = [(bx, CB [.pointer (some ⟨bk, 0, none⟩)] 130)] := by
 have hF := wide_wide
 refine Ct_start (args := [_]) Tryz.func109 rf Tryz.ntmps109 rf ?_
 refine zR fun ds => ?_
 refine WS_new hF rf (y_box rf) (fun b1 => ?_)
 refine za (_) hF ?_
 refine zP fun ds => ?_
 refine zD hF (y_makeFuncL rf rf) ?_
 refine za (_) hF ?_
 refine zN ?_
 refine W_ret ?_
 refine Fin_ret [_] [(b1, _)] Tryz.results109 ⟨by rfl, trivial⟩ (HSub.sub (by repeat (first | exact List.nil_sublist _ | apply List.Sublist.cons_cons | apply List.Sublist.cons))) ?_
 exact ⟨_, rfl, rfl⟩
theorem Bk.own {C : Ctx} {H : List Blk} {bk g : Nat} {l : Lg} {a : Option Addr} {cap : Nat} {ae : Option Addr} {cape : Nat} (hb : (bk, CB (bookCells g l a cap ae cape) 141) ∈ H) (hg : (g, CB (gaugeCells l.tk a cap) 143) ∈ H) (hok : l.Ok) (hx : Ints C.w0 a l.tk.n cap l.tk.pints) (he : Ens C.w0 ae l.es.length cape l.es)
  (w : World) (hw : St C H w) : Bk w bk l := by
 obtain ⟨i, hi, hii⟩ := List.mem_iff_getElem.1 hb
 exact ⟨hok, g, a, cap, ae, cape, Mem.own (rest := []) i ((List.getElem?_eq_getElem hi).trans (congrArg some hii)) (by rw [List.append_nil]; rfl) w hw, Gg.own hg (Tk.ok_iff.2 hok.tk) hx w hw, he.st w hw⟩
def Lg.hold (l : Lg) : Nat → Sn
 | 0 => l.start
 | k + 1 => l.after k (l.hold k)
def Sn.empty (s : Sn) : Bool := decide (s.hi < s.lo)
def Lg.steps (l : Lg) (k : Nat) : Nat → Nat
 | 0 => 1
 | m + 1 => if (l.hold k).empty then 1 else 1 + l.steps (k + 1) m
theorem Lg.Ok.hold_bd {l : Lg} (h : l.Ok) : ∀ k, k ≤ l.es.length → (∀ j, j < k → (l.hold j).empty = false) → 0 ≤ (l.hold k).lo ∧ (l.hold k).hi ≤ l.tk.full ∧ (l.hold k).lo ≤ 700000 ∧ -700000 ≤ (l.hold k).hi
 | 0, _, _ => by
  have := Sn.inB_iff.1 h.start
  have := h.tk.full_bd
  show 0 ≤ l.start.lo ∧ l.start.hi ≤ _ ∧ _ ∧ _
  refine ⟨by omega, by omega, ?_, ?_⟩
  ·show l.start.lo ≤ _; omega
  ·show _ ≤ l.start.hi; omega
 | k + 1, hk, hj => by
  have ih := Lg.Ok.hold_bd h k om0 fun j hjk => hj j om0
  have he := hj k om0
  unfold Sn.empty at he
  simp only [decide_eq_false_iff_not, Int.not_lt] at he
  have hd := h.drip_bd (i := k) om0
  have hf := h.tk.full_bd
  have hz := Sn.inB_iff.1 (h.size k om0)
  have hhb : l.tk.height ≤ 160 := by have := h.tk.n21; unfold Tk.height; omega
  have hup := h.tk.eight_bd (x := (l.e k).size.lo)
  have hdn := h.tk.eight_bd (x := (l.e k).size.hi)
  show 0 ≤ (l.after k (l.hold k)).lo ∧ (l.after k (l.hold k)).hi ≤ _ ∧ (l.after k (l.hold k)).lo ≤ 700000 ∧ -700000 ≤ (l.after k (l.hold k)).hi
  generalize l.hold k = s at *
  unfold Lg.after Tk.forth Lg.before
  unfold Tk.most at hz
  split
  ·rename_i h1
   rw [if_neg om0] at hz
   simp only [Sn.met, Sn.add, Tk.all]
   omega
  ·split
   ·rename_i h1 h2
    rw [if_neg om0] at hz
    simp only [Sn.met, Sn.sub, Tk.all]
    omega
   ·rename_i h1 h2
    have hk := h.kind k om0
    rw [if_pos om0] at hz
    have hup := hup om0 om0
    have hdn := hdn om0 om0
    simp only [Sn.met, Tk.dip, Tk.up, Tk.down]
    omega
theorem Lg.Ok.hold_sm {l : Lg} (h : l.Ok) {k : Nat} (hk : k ≤ l.es.length) (hj : ∀ j, j < k → (l.hold j).empty = false) (he : (l.hold k).empty = false) : (l.hold k).Sm := by
 have h1 := h.hold_bd k hk hj
 have hf := h.tk.full_bd
 unfold Sn.empty at he
 simp only [decide_eq_false_iff_not, Int.not_lt] at he
 unfold Sn.Sm
 omega
def Lg.times (l : Lg) : Nat := l.steps 0 l.es.length
theorem Lg.steps_pos (l : Lg) (k m : Nat) : 1 ≤ l.steps k m := by
 cases m with
 | zero => exact Nat.le_refl _
 | succ m => unfold Lg.steps; split <;> omega
theorem Lg.steps_more (l : Lg) {k m : Nat} (he : (l.hold k).empty = false) : l.steps k (m + 1) = 1 + l.steps (k + 1) m := by
 rw [Lg.steps, he]; rfl
theorem Lg.steps_end (l : Lg) {k m : Nat} (he : (l.hold k).empty = true) : l.steps k m = 1 := by
 cases m with
 | zero => rfl
 | succ m => rw [Lg.steps, he]; rfl
theorem holding_it (l : Lg) (w0 : World) (ds0 out0 : List Deferred) (bx bk g : Nat) (a : Option Addr) (cap : Nat) (ae : Option Addr) (cape : Nat) (hok : l.Ok) (hx : Ints w0 a l.tk.n cap l.tk.pints) (he : Ens w0 ae l.es.length cape l.es) :
  It ⟨Tryz.prog, w0, ds0, out0⟩ 139 [.pointer (some ⟨bx, 0, none⟩)] (fun k => [.int .i64 (k : Int), .agg (l.hold k).cells.toArray]) l.times
   [(bx, CB [.pointer (some ⟨bk, 0, none⟩)] 130), (bk, CB (bookCells g l a cap ae cape) 141), (g, CB (gaugeCells l.tk a cap) 143)] := by
 intro lp J Jx hY G hJ
 have h0 : 0 < l.times := l.steps_pos 0 _
 have hn := hok.n12
 have he0 : (l.hold 0).empty = false := by
  have := Sn.inB_iff.1 hok.start
  show decide (l.start.hi < l.start.lo) = false
  simp only [decide_eq_false_iff_not]; omega
 have hF := wide_wide
 refine Cs_start (args := [_, _]) Tryz.func139 rf Tryz.ntmps139 rf ?_
 refine zR fun ds => ?_
 refine zD hF (y_load1 rf Tryz.isAgg130 (Mem.own1 0 rf rf)) ?_
 refine zD hF znk ?_
 refine zD hF (y_fieldAddr rf fa141_1) ?_
 refine zD hF (y_fieldAddr rf fa62_1) ?_
 refine zD hF (y_loadN rf Tryz.isAgg59 Tryz.sizeOf59 (Mem.own (us := [.int .i64 _, .int .i64 _]) 1 rf rf) rf) ?_
 refine WS_new hF rf (y_alloc Tryz.zeroValue59 rf) (fun b1 => ?_)
 refine WS_store hF (i := 0) rf rf Tryz.sizeOf59 rf rf rf d20 ?_
 refine zO ?_
 refine zR fun ds => ?_
 refine zm (_) hF ?_
 refine zD hF (y_loadN rf Tryz.isAgg59 Tryz.sizeOf59 (Mem.own (us := [.int .i64 _, .int .i64 _]) 0 rf rf) rf) ?_
 refine WS_yield rf rf rf (hY 0 h0 ds [_, _, _, _] G hJ) ?_
 rintro yb _ ⟨G1, rfl, hb⟩
 refine zD hF (y_not rf) ?_
 refine zN ?_
 refine W_cond rf (fun c1 => ?_) (fun c1 => ?_)
 ·
  try simp only [qz1, qz2, qz3, qz4, qz5, qz6, qz7, qz8] at c1
  obtain ⟨rfl, hj⟩ | ⟨_, hj⟩ := hb
  ·cases c1
  refine W_ret ?_
  refine Then_ret ?_
  refine Fin_ret [] ((bx, _) :: (bk, _) :: (g, _) :: G1) Tryz.results139 trivial (HSub.sub s20) ?_
  exact ⟨G1, rfl, .inr ⟨0, h0, hj⟩⟩
 ·
  try simp only [qz1, qz2, qz3, qz4, qz5, qz6, qz7, qz8] at c1
  obtain ⟨_, hj⟩ | ⟨rfl, hj⟩ := hb
  case inr => cases c1
  refine W_skip ?_
  refine zS fun ds => ?_
  refine zD hF (y_load1 rf Tryz.isAgg130 (Mem.own1 1 rf rf)) ?_
  refine zD hF znk ?_
  refine zD hF (y_fieldAddr rf fa141_1) ?_
  refine zD hF (y_fieldAddr rf fa62_2) ?_
  refine zD hF (y_load1 rf Tryz.isAgg60 (Mem.own1 2 rf rf)) ?_
  refine zD hF (y_len rf Tryz.runUnderlying60) ?_
  refine zm (.int .i64 _) hF ?_
  refine zN ?_
  refine W_block ?_
  refine W_loop (γ := Nat × List Blk) (fun p => p.1 ≤ l.es.length ∧ (∀ j, j ≤ p.1 → (l.hold j).empty = false) ∧ l.times = p.1 + l.steps p.1 (l.es.length - p.1) ∧ J (p.1 + 1) p.2) (fun p => [(0, .func (.yield lp) #[] #[]), (1, .pointer (some ⟨bx, 0, none⟩)), (3, .pointer (some ⟨b1, 0, none⟩)), (19, .int .i64 (l.es.length : Int)), (20, .int .i64 (p.1 : Int))]) (fun p => (b1, CB (l.hold p.1).cells 59) :: (bx, CB [.pointer (some ⟨bk, 0, none⟩)] 130) :: (bk, CB (bookCells g l a cap ae cape) 141) :: (g, CB (gaugeCells l.tk a cap) 143) :: p.2) (fun p => l.es.length - p.1) ((0, G1)) ⟨Nat.zero_le _, fun j hj => by obtain rfl : j = 0 := om0; exact he0, by show l.times = 0 + l.times; omega, hj⟩ s10 (List.Sublist.refl _) ?_
  rintro ⟨k, G2⟩ e ⟨hk, hne, htm, hj2⟩
  refine zR fun ds => ?_
  refine zD hF (y_lss rf rf) ?_
  refine zO ?_
  refine W_cond rf (fun c3 => ?_) (fun c3 => ?_)
  ·
   try simp only [qz1, qz2, qz3, qz4, qz5, qz6, qz7, qz8] at c3
   have hk1 : k + 1 < l.times := by
    rw [htm, show l.es.length - k = (l.es.length - (k + 1)) + 1 by omega, l.steps_more (hne k (Nat.le_refl _))]
    have := l.steps_pos (k + 1) (l.es.length - (k + 1))
    omega
   refine zU ?_
   refine W_seq ?_
   refine W_block ?_
   refine zR fun ds => ?_
   refine zm (.int .i64 _) hF ?_
   refine za (.int .i64 _) hF ?_
   refine zP fun ds => ?_
   refine zD hF (y_load1 rf Tryz.isAgg130 (Mem.own1 1 rf rf)) ?_
   refine zm (.int .i64 _) hF ?_
   refine zD hF (y_loadN rf Tryz.isAgg59 Tryz.sizeOf59 (Mem.own (us := [.int .i64 _, .int .i64 _]) 0 rf rf) rf) ?_
   refine zD hF (y_callL rf rf Tryz.call140 (fun w hw => after_any bk l k (l.hold k) w (Bk.own (by repeat (first | exact List.mem_cons_self | apply List.mem_cons_of_mem)) (by repeat (first | exact List.mem_cons_self | apply List.mem_cons_of_mem)) hok hx he w hw) om0 (hok.hold_sm om0 (fun j hj => hne j om0) (hne k (Nat.le_refl _))))) ?_
   refine WS_store hF (i := 0) rf rf Tryz.sizeOf59 rf rf rf d20 ?_
   refine zP fun ds => ?_
   refine zm (_) hF ?_
   refine zm (.int .i64 _) hF ?_
   refine zD hF (y_add rf rf ui) ?_
   refine zD hF (y_loadN rf Tryz.isAgg59 Tryz.sizeOf59 (Mem.own (us := [.int .i64 _, .int .i64 _]) 0 rf rf) rf) ?_
   refine WS_yield rf rf rf (hY (k + 1) hk1 ds [_, _, _, _] G2 hj2) ?_
   rintro yb _ ⟨G3, rfl, hb⟩
   refine zD hF (y_not rf) ?_
   refine zm (.bool _) hF ?_
   refine WS_split 33 rf (fun g6_6 => ?_) (fun g6_6 => ?_)
   ·
    try simp only [qz1, qz2, qz3, qz4, qz5, qz6, qz7, qz8] at g6_6
    obtain ⟨rfl, hj3⟩ | ⟨_, hj3⟩ := hb
    ·cases g6_6
    refine zno hF ?_
    refine zno hF ?_
    refine zD hF (zpk (.bool _)) ?_
    refine zN ?_
    refine W_cond rf (fun c6 => ?_) (fun c6 => ?_)
    ·
     try simp only [qz1, qz2, qz3, qz4, qz5, qz6, qz7, qz8] at c6
     refine W_ret ?_
     refine InB_ret ?_
     refine Then_ret ?_
     refine Loop_ret ?_
     refine InB_ret ?_
     refine Fin_ret [] ((bx, _) :: (bk, _) :: (g, _) :: G3) Tryz.results139 trivial (HSub.sub s20) ?_
     exact ⟨G3, rfl, .inr ⟨k + 1, hk1, hj3⟩⟩
    ·cases c6
   ·
    try simp only [qz1, qz2, qz3, qz4, qz5, qz6, qz7, qz8] at g6_6
    obtain ⟨_, hj3⟩ | ⟨rfl, hj3⟩ := hb
    case inr => cases g6_6
    refine zD hF (y_loadN rf Tryz.isAgg59 Tryz.sizeOf59 (Mem.own (us := [.int .i64 _, .int .i64 _]) 0 rf rf) rf) ?_
    refine zD hF (y_callL rf rf Tryz.call110 (fun w hw => empty_any (l.hold (k + 1)).lo (l.hold (k + 1)).hi w)) ?_
    refine zD hF (zpk (.bool _)) ?_
    refine zN ?_
    refine W_cond rf (fun c6 => ?_) (fun c6 => ?_)
    ·
     try simp only [qz1, qz2, qz3, qz4, qz5, qz6, qz7, qz8] at c6
     refine W_ret ?_
     refine InB_ret ?_
     refine Then_ret ?_
     refine Loop_ret ?_
     refine InB_ret ?_
     refine Fin_ret [] ((bx, _) :: (bk, _) :: (g, _) :: G3) Tryz.results139 trivial (HSub.sub s20) ?_
     refine ⟨G3, rfl, .inl ?_⟩
     rw [htm, show l.es.length - k = (l.es.length - (k + 1)) + 1 by omega, l.steps_more (hne k (Nat.le_refl _)), l.steps_end (by unfold Sn.empty; simp only [decide_eq_true_eq]; omega)]
     rw [show k + (1 + 1) = k + 1 + 1 by omega]
     exact hj3
    ·
     try simp only [qz1, qz2, qz3, qz4, qz5, qz6, qz7, qz8] at c6
     have hne1 : ∀ j, j ≤ k + 1 → (l.hold j).empty = false := fun j hj => by
      obtain hj | rfl : j ≤ k ∨ j = k + 1 := by omega
      ·exact hne j hj
      ·unfold Sn.empty; simp only [decide_eq_false_iff_not]; omega
     have htm1 : l.times = (k + 1) + l.steps (k + 1) (l.es.length - (k + 1)) := by
      rw [htm, show l.es.length - k = (l.es.length - (k + 1)) + 1 by omega, l.steps_more (hne k (Nat.le_refl _))]; omega
     refine W_skip ?_
     refine InB_normal ?_
     refine zT fun ds => ?_
     refine zD hF (y_add rf rf ui) ?_
     refine zm (.int .i64 _) hF ?_
     refine WS_nil ?_
     exact Loop_next (k + 1, G3) ⟨by omega, hne1, htm1, hj3⟩ s10 s20 (by simp only; omega)
  ·
   try simp only [qz1, qz2, qz3, qz4, qz5, qz6, qz7, qz8] at c3
   refine W_exit ?_
   refine Then_exit ?_
   refine Loop_exit ?_
   refine InB_same ?_
   refine Fin_norm [] ((bx, _) :: (bk, _) :: (g, _) :: G2) Tryz.results139 trivial (HSub.sub s20) ?_
   refine ⟨G2, rfl, .inl ?_⟩
   obtain rfl : k = l.es.length := by omega
   rw [htm, Nat.sub_self]; exact hj2
def Lg.aftR (l : Lg) : Nat → Sn
 | 0 => l.tk.all
 | m + 1 => ⟨(l.tk.back (l.e (l.es.length - (m + 1))) (l.aftR m)).lo, min l.tk.full ((l.tk.back (l.e (l.es.length - (m + 1))) (l.aftR m)).hi + l.drip (l.es.length - (m + 1)))⟩
def Lg.aft (l : Lg) (i : Nat) : Sn := l.aftR (l.es.length - i)
def Lg.ahd (l : Lg) (i : Nat) : Sn := l.tk.back (l.e i) (l.aft (i + 1))
theorem Lg.aft_n (l : Lg) : l.aft l.es.length = l.tk.all := by unfold Lg.aft; rw [Nat.sub_self]; rfl
theorem Lg.aft_lt (l : Lg) {i : Nat} (h : i < l.es.length) : l.aft i = ⟨(l.ahd i).lo, min l.tk.full ((l.ahd i).hi + l.drip i)⟩ := by
 unfold Lg.ahd Lg.aft
 obtain ⟨m, hm⟩ : ∃ m, l.es.length - i = m + 1 := ⟨l.es.length - i - 1, by omega⟩
 rw [hm, Lg.aftR, show l.es.length - (m + 1) = i by omega, show l.es.length - (i + 1) = m by omega]
def Sn.BB (s : Sn) (f k : Int) : Prop := 0 ≤ s.lo ∧ s.hi ≤ f ∧ s.lo ≤ 700000 * k ∧ -(700000 * k) ≤ s.hi
theorem Lg.Ok.back_bd {l : Lg} (h : l.Ok) {i : Nat} (hi : i < l.es.length) {s : Sn} {k : Int} (hk : 1 ≤ k) (hs : s.BB l.tk.full k) : (l.tk.back (l.e i) s).BB l.tk.full (k + 1) := by
 have hf := h.tk.full_bd
 have hz := Sn.inB_iff.1 (h.size i hi)
 have hhb : l.tk.height ≤ 160 := by have := h.tk.n21; unfold Tk.height; omega
 have hup := h.tk.eight_bd (x := (l.e i).size.lo)
 have hdn := h.tk.eight_bd (x := (l.e i).size.hi)
 have hkd := h.kind i hi
 unfold Sn.BB at hs ⊢
 unfold Tk.back
 unfold Tk.most at hz
 split
 ·rename_i h1
  rw [if_neg om0] at hz
  simp only [Sn.met, Sn.sub, Tk.all]
  omega
 ·split
  ·rename_i h1 h2
   rw [if_neg om0] at hz
   simp only [Sn.met, Sn.add, Tk.all]
   omega
  ·rename_i h1 h2
   rw [if_pos om0] at hz
   have hup := hup om0 om0
   have hdn := hdn om0 om0
   simp only [Sn.met, Tk.dip, Tk.up, Tk.down]
   omega
theorem Lg.Ok.aftR_bd {l : Lg} (h : l.Ok) : ∀ m, m ≤ l.es.length → (l.aftR m).BB l.tk.full (m + 1)
 | 0, _ => by
  have hf := h.tk.full_bd
  unfold Lg.aftR Sn.BB Tk.all
  simp only
  omega
 | m + 1, hm => by
  have hb := h.back_bd (i := l.es.length - (m + 1)) om0 (k := m + 1) om0 (Lg.Ok.aftR_bd h m om0)
  have hd := h.drip_bd (i := l.es.length - (m + 1)) om0
  have hf := h.tk.full_bd
  unfold Lg.aftR
  unfold Sn.BB at hb ⊢
  push_cast
  omega
theorem Lg.Ok.aft_bd {l : Lg} (h : l.Ok) {i : Nat} (hi : i ≤ l.es.length) : 0 ≤ (l.aft i).lo ∧ (l.aft i).hi ≤ l.tk.full ∧ (l.aft i).lo ≤ 10000000 ∧ -10000000 ≤ (l.aft i).hi := by
 have := h.aftR_bd (l.es.length - i) om0
 have h12 := h.n12
 unfold Sn.BB at this
 unfold Lg.aft
 omega
theorem Lg.Ok.ahd_bd {l : Lg} (h : l.Ok) {i : Nat} (hi : i < l.es.length) : 0 ≤ (l.ahd i).lo ∧ (l.ahd i).hi ≤ l.tk.full ∧ (l.ahd i).lo ≤ 10000000 ∧ -10000000 ≤ (l.ahd i).hi := by
 have := h.back_bd hi (k := (l.es.length - (i + 1) : Nat) + 1) om0 (h.aftR_bd (l.es.length - (i + 1)) om0)
 have h12 := h.n12
 unfold Sn.BB at this
 unfold Lg.ahd Lg.aft
 omega
end Go.Proofs.YtjekjehgmljbgaaGreatDoor.T
