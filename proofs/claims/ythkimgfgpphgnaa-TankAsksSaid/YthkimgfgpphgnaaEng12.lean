/- A region whose order is open, with operations at its end whose order is not. No project text. -/
import Derived.Test.YthkimgfgpphgnaaEng11
namespace Go.Eng
open Go.RowKit
section
variable {P : Program} {F : Fence}

theorem uponIn_to {o : Oper} {a : Act} {K K' : Act → World → Prop} {Q Q' : Exit → Act → World → Prop} (hk : ∀ a w, K a w → K' a w) (hq : ∀ x, x ≠ .normal → ∀ a w, Q x a w → Q' x a w) :
    ∀ {r : Result Next}, o.uponIn F 0 P a K Q r → o.uponIn F 0 P a K' Q' r := by
  have hl : LetsOut Q → LetsOut Q' := fun ⟨a, w, h⟩ => ⟨a, w, hq _ (by simp) _ _ h⟩
  intro r h
  cases r with
  | ok x w =>
    cases x
    case value v => exact hk _ _ h
    case skip => exact hk _ _ h
    case defer d => exact hk _ _ h
    case enter f args =>
      refine ⟨h.1, CallsIn.mono h.2 fun en w' h => ?_⟩
      cases en with
      | returned v => exact hk _ _ h
      | panicked c => exact hq _ (by simp) _ _ h
      | outgrown => exact hl h
    case round l f tmps asg b =>
      refine ⟨h.1, RoundIn.mono h.2 fun en w' h => ?_⟩
      cases en with
      | returned v => exact hk _ _ h
      | panicked c => exact hq _ (by simp) _ _ h
      | outgrown => exact hl h
    case row r args => exact ⟨h.1, RowsIn.mono h.2 fun _ _ h => hk _ _ h⟩
    all_goals exact h.elim
  | halt x w =>
    cases x
    case panic v => exact hq _ (by simp) _ _ h
    all_goals exact h.elim

theorem wpIn_to {o : Oper} {a : Act} {w : World} {K K' : Act → World → Prop} {Q Q' : Exit → Act → World → Prop} (hk : ∀ a w, K a w → K' a w) (hq : ∀ x, x ≠ .normal → ∀ a w, Q x a w → Q' x a w)
    (h : o.wpIn F 0 P a w K Q) : o.wpIn F 0 P a w K' Q' := ⟨h.1, uponIn_to hk hq h.2⟩

/-- The last operations, from m on, go one behind the other, behind all others. -/
structure Tail (ops : Array Oper) (m : Nat) : Prop where
  down : ∀ i k, edge ops i k = true → k < i
  chain : ∀ i, m < i → i < ops.size → edge ops i (i - 1) = true
  all : ∀ j, j < m → ∃ k, j < k ∧ k ≤ m ∧ edge ops k j = true
  guard : ∀ (i : Nat) (o : Oper), i < m → ops[i]? = some o → ∀ j b, o.guard = some (j, b) → j < m
def tailB (ops : Array Oper) (m : Nat) : Bool :=
  ((List.range ops.size).all fun i => (ops[i]?.map fun o => o.after.all fun e => !Region.binds .any e || Nat.blt e.on i).getD true) &&
  ((List.range ops.size).all fun i => !Nat.blt m i || edge ops i (i - 1)) &&
  ((List.range m).all fun j => (List.range (m + 1)).any fun k => Nat.blt j k && edge ops k j) &&
  ((List.range m).all fun i => (ops[i]?.map fun o => match o.guard with | some (j, _) => Nat.blt j m | none => true).getD true)
theorem edge_lt {ops : Array Oper} {i k : Nat} (h : edge ops i k = true) : i < ops.size := by
  unfold edge at h
  cases ho : ops[i]? with
  | none => rw [ho] at h; cases h
  | some o => exact (Array.getElem?_eq_some_iff.1 ho).1
theorem tail_of {ops : Array Oper} {m : Nat} (h : tailB ops m = true) : Tail ops m := by
  unfold tailB at h
  simp only [Bool.and_eq_true, List.all_eq_true, List.mem_range] at h
  obtain ⟨⟨⟨h1, h2⟩, h3⟩, h4⟩ := h
  refine ⟨fun i k hk => ?_, fun i hi hs => ?_, fun j hj => ?_, fun i o hi ho j b hg => ?_⟩
  · have hi := edge_lt hk
    have := h1 i hi
    unfold edge at hk
    rw [Array.getElem?_eq_getElem hi] at hk this
    simp only [Option.map_some, Option.getD_some, Array.any_eq_true, Array.all_eq_true, Bool.and_eq_true, beq_iff_eq] at hk this
    obtain ⟨x, hx, he, hb⟩ := hk
    have := this x hx
    rw [he, hb] at this
    simpa using this
  · have := h2 i hs
    have hb : Nat.blt m i = true := by rw [Nat.blt_eq]; exact hi
    simpa [hb] using this
  · have := h3 j hj
    simp only [List.any_eq_true, List.mem_range, Bool.and_eq_true, Nat.blt_eq] at this
    obtain ⟨k, hk, hjk, he⟩ := this
    exact ⟨k, hjk, by omega, he⟩
  · have := h4 i hi
    rw [ho] at this
    simp only [Option.map_some, Option.getD_some, hg, Nat.blt_eq] at this
    exact this

/-- The operations at the end, in their order. -/
theorem tail_run {ops : Array Oper} {m : Nat} {Q : Exit → Act → World → Prop} (ht : Tail ops m) : ∀ (rest : List Oper) (i fuel : Nat) (listed : Array Bool) (a : Act) (w : World),
    (∀ j, rest[j]? = ops[i + j]?) → m ≤ i → i + rest.length = ops.size → listed.size = ops.size → (∀ j, Lst listed j ↔ j < i) → rest.length ≤ fuel → wpListIn F 0 P ops Q rest a w →
    wpAnyIn F 0 P .any ops Q fuel listed a w := by
  intro rest
  induction rest with
  | nil =>
    intro i fuel listed a w _ _ hsz hls hl _ h
    have hr : Region.ready .any ops listed = [] := by
      refine List.eq_nil_iff_forall_not_mem.2 fun j hj => ?_
      obtain ⟨h1, h2, _⟩ := ready_mem.1 hj
      have : Lst listed j := (hl j).2 (by simp at hsz; omega)
      unfold Lst at this
      rw [Array.getD_eq_getD_getElem?, Array.getElem?_eq_getElem (by rw [hls]; exact h1)] at this h2
      simp only [Option.getD_some] at this h2
      rw [this] at h2; cases h2
    cases fuel with
    | zero => exact ⟨hr, h⟩
    | succ f => exact ⟨fun _ => h, fun j hj => (by rw [hr] at hj; cases hj)⟩
  | cons o rest ih =>
    intro i fuel listed a w hget hm hsz hls hl hf h
    obtain ⟨f, rfl⟩ : ∃ f, fuel = f + 1 := ⟨fuel - 1, by simp at hf; omega⟩
    have hi : i < ops.size := by simp at hsz; omega
    have ho : ops[i]? = some o := by have := hget 0; simpa using this.symm
    have hni : listed.getD i true = false := by
      cases hb : listed.getD i true with
      | false => rfl
      | true =>
        have : Lst listed i := by
          unfold Lst
          rw [Array.getD_eq_getD_getElem?, Array.getElem?_eq_getElem (by rw [hls]; exact hi)] at hb ⊢
          exact hb
        have := (hl i).1 this
        omega
    have hin : i ∈ Region.ready .any ops listed := ready_mem.2 ⟨hi, hni, o, ho, fun e he hb => by
      have hed : edge ops i e.on = true := by
        unfold edge
        rw [ho]
        simp only [Option.map_some, Option.getD_some, Array.any_eq_true]
        obtain ⟨k, hk, rfl⟩ := Array.mem_iff_getElem.1 he
        exact ⟨k, hk, by simp [hb]⟩
      exact (hl e.on).2 (ht.down i e.on hed)⟩
    refine ⟨fun hr => (by rw [hr] at hin; cases hin), fun j hj => ?_⟩
    have hji : j = i := by
      obtain ⟨h1, h2, _⟩ := ready_mem.1 hj
      have hnl : ¬ Lst listed j := fun hlj => by
        unfold Lst at hlj
        rw [Array.getD_eq_getD_getElem?, Array.getElem?_eq_getElem (by rw [hls]; exact h1)] at hlj h2
        simp only [Option.getD_some] at hlj h2
        rw [hlj] at h2; cases h2
      rw [hl] at hnl
      refine Classical.byContradiction fun hne => ?_
      have := edge_of_ready hj (j - 1) (ht.chain j (by omega) h1)
      rw [hl] at this
      omega
    subst hji
    unfold wpOpIn
    rw [ho]
    simp only []
    have hrec : ∀ a w, wpListIn F 0 P ops Q rest a w → wpAnyIn F 0 P .any ops Q f (listed.setIfInBounds j true) a w := fun a w h => by
      refine ih (j + 1) f _ a w (fun t => ?_) (by omega) (by simp at hsz ⊢; omega) (by simp [hls]) (fun t => ?_) (by simp at hf; omega) h
      · have := hget (t + 1)
        rw [List.getElem?_cons_succ] at this
        rw [this]; congr 1; omega
      · rw [lst_set (by rw [hls]; exact hi), hl]; omega
    unfold wpListIn at h
    split at h
    · rename_i hw
      rw [if_pos hw]
      exact wpIn_to hrec (fun _ _ _ _ h => h) h
    · rename_i hw
      rw [if_neg hw]
      exact ⟨h.1, hrec _ _ h.2⟩

/-- The operations ahead of these, in whatever order; then these. -/
theorem tail_any {pre post : List Oper} {Q Q' : Exit → Act → World → Prop} (ht : Tail (pre ++ post).toArray pre.length) (hd : ∀ i k, edge pre.toArray i k = true → k < i)
    (hq : ∀ x, x ≠ .normal → ∀ a w, Q' x a w → Q x a w) (hn : ∀ a w, Q' .normal a w → wpListIn F 0 P (pre ++ post).toArray Q post a w) :
    ∀ (fuel fuel2 : Nat) (listed : Array Bool) (a : Act) (w : World), listed.size = pre.length → (∀ j k, Lst listed j → edge pre.toArray j k = true → Lst listed k) → fuel + post.length ≤ fuel2 →
      wpAnyIn F 0 P .any pre.toArray Q' fuel listed a w → wpAnyIn F 0 P .any (pre ++ post).toArray Q fuel2 (listed ++ Array.replicate post.length false) a w := by
  have hgetl : ∀ (listed : Array Bool) (j : Nat) (b : Bool), listed.size = pre.length → j < pre.length → (listed ++ Array.replicate post.length false).getD j b = listed.getD j b := fun listed j b hs hj => by
    rw [Array.getD_eq_getD_getElem?, Array.getD_eq_getD_getElem?, Array.getElem?_append_left (by omega)]
  have hgetr : ∀ (listed : Array Bool) (j : Nat), listed.size = pre.length → pre.length ≤ j → (listed ++ Array.replicate post.length false).getD j false = false := fun listed j hs hj => by
    rw [Array.getD_eq_getD_getElem?, Array.getElem?_append_right (by omega), Array.getElem?_replicate]
    split <;> rfl
  have hop : ∀ j, j < pre.length → (pre ++ post).toArray[j]? = pre.toArray[j]? := fun j hj => by simp [List.getElem?_append_left hj]
  have hedge : ∀ j k, j < pre.length → edge (pre ++ post).toArray j k = edge pre.toArray j k := fun j k hj => by unfold edge; rw [hop j hj]
  -- all that is ahead is done
  have full : ∀ (fuel2 : Nat) (listed : Array Bool) (a : Act) (w : World), listed.size = pre.length → (∀ j, j < pre.length → Lst listed j) → post.length ≤ fuel2 → Q' .normal a w →
      wpAnyIn F 0 P .any (pre ++ post).toArray Q fuel2 (listed ++ Array.replicate post.length false) a w := fun fuel2 listed a w hs hl hf h => by
    refine tail_run ht post pre.length fuel2 _ a w (fun j => by simp [List.getElem?_append_right]) (Nat.le_refl _) (by simp) (by simp [hs]) (fun j => ?_) hf (hn a w h)
    unfold Lst
    by_cases hj : j < pre.length
    · rw [hgetl listed j false hs hj]; exact ⟨fun _ => hj, fun _ => hl j hj⟩
    · rw [hgetr listed j hs (by omega)]; exact ⟨fun h => (by cases h), fun h => absurd h hj⟩
  intro fuel
  induction fuel with
  | zero =>
    intro fuel2 listed a w hs _ hf h
    exact full fuel2 listed a w hs (fun j hj => all_of_ready_nil hd (by simp [hs]) h.1 j (by simpa using hj)) (by omega) h.2
  | succ fuel ih =>
    intro fuel2 listed a w hs hdc hf h
    by_cases hr : Region.ready .any pre.toArray listed = []
    · exact full fuel2 listed a w hs (fun j hj => all_of_ready_nil hd (by simp [hs]) hr j (by simpa using hj)) (by omega) (h.1 hr)
    · obtain ⟨f2, rfl⟩ : ∃ f2, fuel2 = f2 + 1 := ⟨fuel2 - 1, by omega⟩
      have hiff : ∀ i, i ∈ Region.ready .any (pre ++ post).toArray (listed ++ Array.replicate post.length false) → i ∈ Region.ready .any pre.toArray listed := fun i hi => by
        have hed := edge_of_ready hi
        obtain ⟨h1, h2, o, ho, h3⟩ := ready_mem.1 hi
        have him : i < pre.length := by
          refine Classical.byContradiction fun hge => ?_
          by_cases hm : i = pre.length
          · subst hm
            -- all ahead of it are done: none is ready
            have hall : ∀ t, ∀ j, pre.length - t ≤ j → j < pre.length → Lst listed j := by
              intro t
              induction t with
              | zero => intro j h1 h2; omega
              | succ t iht =>
                intro j hj1 hj2
                by_cases hlt : pre.length - t ≤ j
                · exact iht j hlt hj2
                · obtain ⟨k, hk1, hk2, hk3⟩ := ht.all j hj2
                  by_cases hkm : k = pre.length
                  · subst hkm
                    have := hed j hk3
                    unfold Lst at this ⊢
                    rwa [hgetl listed j false hs hj2] at this
                  · have hk := iht k (by omega) (by omega)
                    rw [hedge k j (by omega)] at hk3
                    exact hdc k j hk hk3
            refine hr (List.eq_nil_iff_forall_not_mem.2 fun j hj => ?_)
            obtain ⟨g1, g2, _⟩ := ready_mem.1 hj
            have hjl : j < pre.length := by simpa using g1
            have := hall pre.length j (by omega) hjl
            unfold Lst at this
            rw [Array.getD_eq_getD_getElem?, Array.getElem?_eq_getElem (by omega)] at this g2
            simp only [Option.getD_some] at this g2
            rw [this] at g2; cases g2
          · have := hed (i - 1) (ht.chain i (by omega) h1)
            unfold Lst at this
            rw [hgetr listed (i - 1) hs (by omega)] at this
            cases this
        rw [hop i him] at ho
        refine ready_mem.2 ⟨by simpa using him, by rwa [hgetl listed i true hs him] at h2, o, ho, fun e he hb => ?_⟩
        have hek := h3 e he hb
        have hlt : e.on < i := hd i e.on (by
          unfold edge
          rw [ho]
          simp only [Option.map_some, Option.getD_some, Array.any_eq_true]
          obtain ⟨k, hk, rfl⟩ := Array.mem_iff_getElem.1 he
          exact ⟨k, hk, by simp [hb]⟩)
        rwa [hgetl listed e.on false hs (by omega)] at hek
      refine ⟨fun hr2 => ?_, fun i hi => ?_⟩
      · -- some operation is ready
        exfalso
        obtain ⟨i, hi⟩ := List.exists_mem_of_ne_nil _ hr
        obtain ⟨h1, h2, o, ho, h3⟩ := ready_mem.1 hi
        have him : i < pre.length := by simpa using h1
        have : i ∈ Region.ready .any (pre ++ post).toArray (listed ++ Array.replicate post.length false) := ready_mem.2 ⟨by simp; omega, by rw [hgetl listed i true hs him]; exact h2, o, by rw [hop i him]; exact ho, fun e he hb => by
          have hlt : e.on < i := hd i e.on (by
            unfold edge
            rw [ho]
            simp only [Option.map_some, Option.getD_some, Array.any_eq_true]
            obtain ⟨k, hk, rfl⟩ := Array.mem_iff_getElem.1 he
            exact ⟨k, hk, by simp [hb]⟩)
          rw [hgetl listed e.on false hs (by omega)]
          exact h3 e he hb⟩
        rw [hr2] at this; cases this
      · have hi' := hiff i hi
        have hh := h.2 i hi'
        have hpre := edge_of_ready hi'
        obtain ⟨h1, h2, o, ho, h3⟩ := ready_mem.1 hi'
        have him : i < pre.length := by simpa using h1
        have hset : (listed ++ Array.replicate post.length false).setIfInBounds i true = listed.setIfInBounds i true ++ Array.replicate post.length false := by
          refine Array.ext_getElem? fun t => ?_
          rw [Array.getElem?_setIfInBounds, Array.getElem?_append, Array.getElem?_append, Array.getElem?_setIfInBounds]
          simp only [Array.size_append, Array.size_setIfInBounds]
          by_cases hit : i = t
          · subst hit; simp [hs, him]; omega
          · simp [hit]
        have hrec : ∀ a w, wpAnyIn F 0 P .any pre.toArray Q' fuel (listed.setIfInBounds i true) a w → wpAnyIn F 0 P .any (pre ++ post).toArray Q f2 ((listed ++ Array.replicate post.length false).setIfInBounds i true) a w := fun a w h => by
          rw [hset]
          refine ih f2 _ a w (by simp [hs]) (fun j k hj he => ?_) (by omega) h
          rw [lst_set (by omega)] at hj ⊢
          rcases hj with rfl | hj
          · exact .inr (hpre k he)
          · exact .inr (hdc j k hj he)
        unfold wpOpIn at hh ⊢
        rw [hop i him, ho]
        rw [ho] at hh
        simp only [] at hh ⊢
        have hwant : Region.wanted o (yielded (pre ++ post).toArray a.tmps) = Region.wanted o (yielded pre.toArray a.tmps) := by
          unfold Region.wanted
          cases hg : o.guard with
          | none => rfl
          | some gg =>
            obtain ⟨j, b⟩ := gg
            have hj := ht.guard i o him (by rw [hop i him]; exact ho) j b hg
            simp only [yielded, hop j hj]
        rw [hwant]
        split at hh
        · rename_i hw
          rw [if_pos hw]
          exact wpIn_to hrec hq hh
        · rename_i hw
          rw [if_neg hw]
          exact ⟨hh.1, hrec _ _ hh.2⟩

section
variable {C : Ctx} {n : Nat} {ds : List Deferred} {Q : Exit → Env → List Blk → Prop} {e : Env} {H : List Blk}
def tailQ (C : Ctx) (F : Fence) (n : Nat) (ds : List Deferred) (all : Array Oper) (post : List Oper) (Q : Exit → Env → List Blk → Prop) : Exit → Env → List Blk → Prop
  | .normal, e, H => WS C F n ds all Q post e H
  | x, e, H => Q x e H
theorem W_drawT {id : Nat} {l : List Oper} {H0 : List Blk} (m : Nat) (hF : Wide F) (hm : C.P.follows .mixedOrders = true) (pres : List Pre) (S : List Nat)
    (hH : HSub H (pres.map (fun p => (p.b, p.o)) ++ H0))
    (hph : (phased (l.take m).toArray (pres.map (·.slot)) && ((l.take m).all fun o => dOk n o.dst && gOk n (l.take m).toArray o) && (pres.all fun p => S.contains p.slot) && tailB l.toArray m && Nat.ble m l.length) = true) (hnd : (pres.map (·.slot)).Nodup)
    (hp : ∀ ds, PW (C.at ds) (l.take m).toArray S (fun us e => OverAll (fun e H => WS (C.at ds) F n ds l.toArray Q (l.drop m) e H) (fun _ => True) us e H0) H0 (l.take m) [] (pres.map Pre.un) e) :
    W C F n ds (.region id l.toArray true) Q e H := fun dd w hw a ha => by
  simp only [Bool.and_eq_true] at hph
  obtain ⟨⟨⟨⟨hph, hdk⟩, hsub⟩, ht⟩, hml⟩ := hph
  have hml : m ≤ l.length := Nat.le_of_ble_eq_true hml
  have hlen : (l.take m).length = m := by simp; omega
  have hl : l.take m ++ l.drop m = l := List.take_append_drop m l
  have ht' : Tail (l.take m ++ l.drop m).toArray (l.take m).length := by rw [hl, hlen]; exact tail_of ht
  refine wpIn_mono (Q := lift (C.at dd) n dd Q) (wpIn_region_any hm ?_) fun _ _ _ h => lift_M h
  have h1 := draw_any (C := C.at dd) (ds := dd) (F := F) (n := n) (ops := (l.take m).toArray) (Q := tailQ (C.at dd) F n dd l.toArray (l.drop m) Q) (e := e) (H := H) (H0 := H0) hF pres S (fun _ hw => ⟨hw.1, hH _ _ hw.2, hw.3⟩) hph (by simpa using hdk) hsub hnd (hp dd) w hw a ha
  have h2 := tail_any (P := C.P) (F := F) (pre := l.take m) (post := l.drop m) (Q := lift (C.at dd) n dd Q) (Q' := lift (C.at dd) n dd (tailQ (C.at dd) F n dd l.toArray (l.drop m) Q)) ht' (phased_spec hph).down
    (fun x hx a w ⟨e, H, g1, g2, g3⟩ => ⟨e, H, g1, g2, by cases x <;> first | exact g3 | exact absurd rfl hx⟩) (fun a w ⟨e, H, g1, g2, g3⟩ => by rw [hl]; exact g3 w g2 a g1)
    (l.take m).toArray.size l.toArray.size (Array.replicate (l.take m).toArray.size false) a w.drew (by simp) (fun j k hj => by
      unfold Lst at hj
      rw [Array.getD_eq_getD_getElem?, Array.getElem?_replicate] at hj
      split at hj <;> cases hj) (by simp; omega) h1
  rw [hl] at h2
  have hrep : Array.replicate (l.take m).toArray.size false ++ Array.replicate (l.drop m).length false = Array.replicate l.toArray.size false := by
    rw [Array.replicate_append_replicate]
    congr 1
    simp; omega
  rw [hrep] at h2
  exact h2
end

theorem perm_erase2 {x y : Blk} {H : List Blk} {i j : Nat} (hi : H[i]? = some x) (hj : (H.eraseIdx i)[j]? = some y) : H.Perm (x :: y :: (H.eraseIdx i).eraseIdx j) := (perm_erase hi).trans ((perm_erase hj).cons x)
theorem perm_erase3 {x y z : Blk} {H : List Blk} {i j k : Nat} (hi : H[i]? = some x) (hj : (H.eraseIdx i)[j]? = some y) (hk : ((H.eraseIdx i).eraseIdx j)[k]? = some z) :
    H.Perm (x :: y :: z :: ((H.eraseIdx i).eraseIdx j).eraseIdx k) := (perm_erase2 hi hj).trans (((perm_erase hk).cons y).cons x)
section
variable {C : Ctx} {n : Nat} {ds : List Deferred} {Q : Exit → Env → List Blk → Prop} {e : Env} {H : List Blk}
/-- The two rules for regions whose order is open, by the slots of the blocks that are stored into. -/
theorem W_drawM {id : Nat} {l : List Oper} {H0 : List Blk} (hF : Wide F) (hm : C.P.follows .mixedOrders = true) (pres : List Pre) (slots S : List Nat) (hs : pres.map (·.slot) = slots)
    (hph : (phased l.toArray slots && (l.all fun o => dOk n o.dst && gOk n l.toArray o) && (slots.all fun p => S.contains p)) = true) (hnd : slots.Nodup) (hH : HSub H (pres.map (fun p => (p.b, p.o)) ++ H0))
    (hp : ∀ ds, PW (C.at ds) l.toArray S (fun us e => OverAll (fun e H => Q .normal e H) (fun _ => True) us e H0) H0 l [] (pres.map Pre.un) e) : W C F n ds (.region id l.toArray true) Q e H := by
  subst hs
  refine W_drawL (H0 := H0) hF hm pres S hH ?_ hnd hp
  rw [List.all_map] at hph
  exact hph
theorem W_drawMT {id : Nat} {l : List Oper} {H0 : List Blk} (m : Nat) (hF : Wide F) (hm : C.P.follows .mixedOrders = true) (pres : List Pre) (slots S : List Nat) (hs : pres.map (·.slot) = slots)
    (hph : (phased (l.take m).toArray slots && ((l.take m).all fun o => dOk n o.dst && gOk n (l.take m).toArray o) && (slots.all fun p => S.contains p) && tailB l.toArray m && Nat.ble m l.length) = true) (hnd : slots.Nodup)
    (hH : HSub H (pres.map (fun p => (p.b, p.o)) ++ H0))
    (hp : ∀ ds, PW (C.at ds) (l.take m).toArray S (fun us e => OverAll (fun e H => WS (C.at ds) F n ds l.toArray Q (l.drop m) e H) (fun _ => True) us e H0) H0 (l.take m) [] (pres.map Pre.un) e) :
    W C F n ds (.region id l.toArray true) Q e H := by
  subst hs
  refine W_drawT (H0 := H0) m hF hm pres S hH ?_ hnd hp
  rw [List.all_map] at hph
  exact hph
end
end
theorem Cs_start {C : Ctx} {f : FuncId} {args : List Value} {fn : Func} {c : Code} {k : Nat} {R : Value → List Blk → Prop} {H : List Blk} (hf : C.P.funcs[f]? = some fn) (hb : fn.body = some c) (hn : fn.ntmps = k) (hl : Nat.ble args.length k = true)
    (h : W C.inner Fence.wide k [] c (Fin C.inner fn R) (start args) H) : Cs C f args.toArray H R := by
  subst hn
  exact Cs_of_W hf hb hl h
theorem Fin_norm {C : Ctx} {e : Env} {H : List Blk} {fn : Func} {rs : List ResultVar} {R : Value → List Blk → Prop} (vs : List Value) (Hn : List Blk) (hr : fn.results = rs.toArray) (h1 : RVs C e H rs vs) (h2 : HSub H Hn) (h3 : R (tupOf vs) Hn) : Fin C fn R .normal e H :=
  ⟨vs, Hn, by rw [hr]; exact h1, h2, h3⟩
/-- A contract without writes, among blocks. -/
theorem Ct.cs {C : Ctx} {f : FuncId} {args : Array Value} {H : List Blk} {R : Value → List Blk → Prop} (h : ∀ w, St C H w → Ct C.P f args w R) : Cs C f args H fun v H' => ∃ Hn, H' = Hn ++ H ∧ R v Hn := fun w hw =>
  Calls.mono (h w hw) fun _ _ ⟨v, he, Hn, h1, h2, h3⟩ => ⟨v, Hn ++ H, he, hw.grow h1 h2, Hn, rfl, h3⟩
theorem Mem.oldAtL1 {C : Ctx} {H : List Blk} {b o p : Nat} {vs : List Value} {u : Value} (h : At C.w0 b o vs) (hp : Nat.ble o p = true) (hd : vs[p - o]? = some u) : Mem C H b p [u] := by
  have := Mem.oldAt1 (C := C) (H := H) h hd
  rwa [show o + (p - o) = p by have := Nat.le_of_ble_eq_true hp; omega] at this
theorem Mem.oldAtL {C : Ctx} {H : List Blk} {b o p : Nat} {vs us rest : List Value} (h : At C.w0 b o vs) (hp : Nat.ble o p = true) (hd : vs.drop (p - o) = us ++ rest) : Mem C H b p us := by
  have := Mem.oldAt (C := C) (H := H) h hd
  rwa [show o + (p - o) = p by have := Nat.le_of_ble_eq_true hp; omega] at this
end Go.Eng
