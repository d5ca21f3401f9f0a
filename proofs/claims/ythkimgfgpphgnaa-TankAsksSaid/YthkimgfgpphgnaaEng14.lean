/- A region whose order is open but for a tail, and one reading among it that may go late. No project text. -/
import Derived.Test.YthkimgfgpphgnaaEng13
namespace Go.Eng
open Go.RowKit
section
variable {P : Program} {F : Fence}
structure TailZ (ops : Array Oper) (m z : Nat) : Prop where
  down : ∀ i k, edge ops i k = true → k < i
  chain : ∀ i, m < i → i < ops.size → edge ops i (i - 1) = true
  all : ∀ j, j < m → j ≠ z → ∃ k, j < k ∧ k ≤ m ∧ k ≠ z ∧ edge ops k j = true
  last : m + 1 < ops.size → edge ops (m + 1) z = true
  zlt : z < m
  guard : ∀ (i : Nat) (o : Oper), i < m → ops[i]? = some o → ∀ j b, o.guard = some (j, b) → j < m
def tailZB (ops : Array Oper) (m z : Nat) : Bool :=
  ((List.range ops.size).all fun i => (ops[i]?.map fun o => o.after.all fun e => !Region.binds .any e || Nat.blt e.on i).getD true) &&
  ((List.range ops.size).all fun i => !Nat.blt m i || edge ops i (i - 1)) &&
  ((List.range m).all fun j => Nat.beq j z || (List.range (m + 1)).any fun k => Nat.blt j k && !Nat.beq k z && edge ops k j) &&
  (!Nat.blt (m + 1) ops.size || edge ops (m + 1) z) && Nat.blt z m &&
  ((List.range m).all fun i => (ops[i]?.map fun o => match o.guard with | some (j, _) => Nat.blt j m | none => true).getD true)
theorem tailZ_of {ops : Array Oper} {m z : Nat} (h : tailZB ops m z = true) : TailZ ops m z := by
  unfold tailZB at h
  simp only [Bool.and_eq_true, List.all_eq_true, List.mem_range] at h
  obtain ⟨⟨⟨⟨⟨h1, h2⟩, h3⟩, h5⟩, h6⟩, h4⟩ := h
  refine ⟨fun i k hk => ?_, fun i hi hs => ?_, fun j hj hz => ?_, fun hs => ?_, by rwa [Nat.blt_eq] at h6, fun i o hi ho j b hg => ?_⟩
  · have hi := edge_lt hk
    have := h1 i hi
    unfold edge at hk
    rw [Array.getElem?_eq_getElem hi] at hk this
    simp only [Option.map_some, Option.getD_some, Array.any_eq_true, Array.all_eq_true, Bool.and_eq_true, beq_iff_eq] at hk this
    obtain ⟨x, hx, he, hb⟩ := hk
    have := this x hx
    rw [he, hb] at this
    simpa using this
  · have := h2 i hs
    have hb : Nat.blt m i = true := by rw [Nat.blt_eq]; exact hi
    simpa [hb] using this
  · have := h3 j hj
    have hb : Nat.beq j z = false := by
      cases hb : Nat.beq j z with
      | false => rfl
      | true => exact absurd (Nat.eq_of_beq_eq_true hb) hz
    simp only [hb, Bool.false_or, List.any_eq_true, List.mem_range, Bool.and_eq_true, Nat.blt_eq, Bool.not_eq_true'] at this
    obtain ⟨k, hk, ⟨hjk, hkz⟩, he⟩ := this
    exact ⟨k, hjk, by omega, Nat.ne_of_beq_eq_false hkz, he⟩
  · have hb : Nat.blt (m + 1) ops.size = true := by rw [Nat.blt_eq]; exact hs
    simpa [hb] using h5
  · have := h4 i hi
    rw [ho] at this
    simp only [Option.map_some, Option.getD_some, hg, Nat.blt_eq] at this
    exact this
/-- The operations at the end, in their order. -/
theorem tail_run2 {ops : Array Oper} {m : Nat} {Q : Exit → Act → World → Prop} (hdown : ∀ i k, edge ops i k = true → k < i) (hchain : ∀ i, m < i → i < ops.size → edge ops i (i - 1) = true) : ∀ (rest : List Oper) (i fuel : Nat) (listed : Array Bool) (a : Act) (w : World),
    (∀ j, rest[j]? = ops[i + j]?) → m ≤ i → i + rest.length = ops.size → listed.size = ops.size → (∀ j, Lst listed j ↔ j < i) → rest.length ≤ fuel → wpListIn F 0 P ops Q rest a w →
    wpAnyIn F 0 P .any ops Q fuel listed a w := by
  intro rest
  induction rest with
  | nil =>
    intro i fuel listed a w _ _ hsz hls hl _ h
    have hr : Region.ready .any ops listed = [] := by
      refine List.eq_nil_iff_forall_not_mem.2 fun j hj => ?_
      obtain ⟨h1, h2, _⟩ := ready_mem.1 hj
      have : Lst listed j := (hl j).2 (by simp at hsz; omega)
      unfold Lst at this
      rw [Array.getD_eq_getD_getElem?, Array.getElem?_eq_getElem (by rw [hls]; exact h1)] at this h2
      simp only [Option.getD_some] at this h2
      rw [this] at h2; cases h2
    cases fuel with
    | zero => exact ⟨hr, h⟩
    | succ f => exact ⟨fun _ => h, fun j hj => (by rw [hr] at hj; cases hj)⟩
  | cons o rest ih =>
    intro i fuel listed a w hget hm hsz hls hl hf h
    obtain ⟨f, rfl⟩ : ∃ f, fuel = f + 1 := ⟨fuel - 1, by simp at hf; omega⟩
    have hi : i < ops.size := by simp at hsz; omega
    have ho : ops[i]? = some o := by have := hget 0; simpa using this.symm
    have hni : listed.getD i true = false := by
      cases hb : listed.getD i true with
      | false => rfl
      | true =>
        have : Lst listed i := by
          unfold Lst
          rw [Array.getD_eq_getD_getElem?, Array.getElem?_eq_getElem (by rw [hls]; exact hi)] at hb ⊢
          exact hb
        have := (hl i).1 this
        omega
    have hin : i ∈ Region.ready .any ops listed := ready_mem.2 ⟨hi, hni, o, ho, fun e he hb => by
      have hed : edge ops i e.on = true := by
        unfold edge
        rw [ho]
        simp only [Option.map_some, Option.getD_some, Array.any_eq_true]
        obtain ⟨k, hk, rfl⟩ := Array.mem_iff_getElem.1 he
        exact ⟨k, hk, by simp [hb]⟩
      exact (hl e.on).2 (hdown i e.on hed)⟩
    refine ⟨fun hr => (by rw [hr] at hin; cases hin), fun j hj => ?_⟩
    have hji : j = i := by
      obtain ⟨h1, h2, _⟩ := ready_mem.1 hj
      have hnl : ¬ Lst listed j := fun hlj => by
        unfold Lst at hlj
        rw [Array.getD_eq_getD_getElem?, Array.getElem?_eq_getElem (by rw [hls]; exact h1)] at hlj h2
        simp only [Option.getD_some] at hlj h2
        rw [hlj] at h2; cases h2
      rw [hl] at hnl
      refine Classical.byContradiction fun hne => ?_
      have := edge_of_ready hj (j - 1) (hchain j (by omega) h1)
      rw [hl] at this
      omega
    subst hji
    unfold wpOpIn
    rw [ho]
    simp only []
    have hrec : ∀ a w, wpListIn F 0 P ops Q rest a w → wpAnyIn F 0 P .any ops Q f (listed.setIfInBounds j true) a w := fun a w h => by
      refine ih (j + 1) f _ a w (fun t => ?_) (by omega) (by simp at hsz ⊢; omega) (by simp [hls]) (fun t => ?_) (by simp at hf; omega) h
      · have := hget (t + 1)
        rw [List.getElem?_cons_succ] at this
        rw [this]; congr 1; omega
      · rw [lst_set (by rw [hls]; exact hi), hl]; omega
    unfold wpListIn at h
    split at h
    · rename_i hw
      rw [if_pos hw]
      exact wpIn_to hrec (fun _ _ _ _ h => h) h
    · rename_i hw
      rw [if_neg hw]
      exact ⟨h.1, hrec _ _ h.2⟩

/-- The operations ahead of these, in whatever order; then these. -/
theorem tail_anyZ {pre post' : List Oper} {om oz : Oper} {z : Nat} {Q Q' : Exit → Act → World → Prop} (ht : TailZ (pre ++ om :: post').toArray pre.length z) (hoz : pre[z]? = some oz) (hd : ∀ i k, edge pre.toArray i k = true → k < i)
    (hq : ∀ x, x ≠ .normal → ∀ a w, Q' x a w → Q x a w) (hn : ∀ a w, Q' .normal a w → wpListIn F 0 P (pre ++ om :: post').toArray Q (om :: post') a w)
    (hx : ∀ a w, wpOpIn F 0 P pre.toArray Q' z (fun a w => Q' .normal a w) a w → wpListIn F 0 P (pre ++ om :: post').toArray Q (om :: oz :: post') a w) :
    ∀ (fuel fuel2 : Nat) (listed : Array Bool) (a : Act) (w : World), listed.size = pre.length → (∀ j k, Lst listed j → edge pre.toArray j k = true → Lst listed k) → fuel + (om :: post').length ≤ fuel2 →
      wpAnyIn F 0 P .any pre.toArray Q' fuel listed a w → wpAnyIn F 0 P .any (pre ++ om :: post').toArray Q fuel2 (listed ++ Array.replicate (om :: post').length false) a w := by
  have hgetl : ∀ (listed : Array Bool) (j : Nat) (b : Bool), listed.size = pre.length → j < pre.length → (listed ++ Array.replicate (om :: post').length false).getD j b = listed.getD j b := fun listed j b hs hj => by
    rw [Array.getD_eq_getD_getElem?, Array.getD_eq_getD_getElem?, Array.getElem?_append_left (by omega)]
  have hgetr : ∀ (listed : Array Bool) (j : Nat), listed.size = pre.length → pre.length ≤ j → (listed ++ Array.replicate (om :: post').length false).getD j false = false := fun listed j hs hj => by
    rw [Array.getD_eq_getD_getElem?, Array.getElem?_append_right (by omega), Array.getElem?_replicate]
    split <;> rfl
  have hop : ∀ j, j < pre.length → (pre ++ om :: post').toArray[j]? = pre.toArray[j]? := fun j hj => by simp [List.getElem?_append_left hj]
  have hedge : ∀ j k, j < pre.length → edge (pre ++ om :: post').toArray j k = edge pre.toArray j k := fun j k hj => by unfold edge; rw [hop j hj]
  -- all that is ahead is done
  have full : ∀ (fuel2 : Nat) (listed : Array Bool) (a : Act) (w : World), listed.size = pre.length → (∀ j, j < pre.length → Lst listed j) → (om :: post').length ≤ fuel2 → Q' .normal a w →
      wpAnyIn F 0 P .any (pre ++ om :: post').toArray Q fuel2 (listed ++ Array.replicate (om :: post').length false) a w := fun fuel2 listed a w hs hl hf h => by
    refine tail_run2 ht.down ht.chain (om :: post') pre.length fuel2 _ a w (fun j => by simp [List.getElem?_append_right]) (Nat.le_refl _) (by simp) (by simp [hs]) (fun j => ?_) hf (hn a w h)
    unfold Lst
    by_cases hj : j < pre.length
    · rw [hgetl listed j false hs hj]; exact ⟨fun _ => hj, fun _ => hl j hj⟩
    · rw [hgetr listed j hs (by omega)]; exact ⟨fun h => (by cases h), fun h => absurd h hj⟩
  intro fuel
  induction fuel with
  | zero =>
    intro fuel2 listed a w hs _ hf h
    exact full fuel2 listed a w hs (fun j hj => all_of_ready_nil hd (by simp [hs]) h.1 j (by simpa using hj)) (by omega) h.2
  | succ fuel ih =>
    intro fuel2 listed a w hs hdc hf h
    by_cases hr : Region.ready .any pre.toArray listed = []
    · exact full fuel2 listed a w hs (fun j hj => all_of_ready_nil hd (by simp [hs]) hr j (by simpa using hj)) (by omega) (h.1 hr)
    · obtain ⟨f2, rfl⟩ : ∃ f2, fuel2 = f2 + 1 := ⟨fuel2 - 1, by omega⟩
      have hz1 : z < pre.length := ht.zlt
      have hiff0 : ∀ i, i ∈ Region.ready .any (pre ++ om :: post').toArray (listed ++ Array.replicate (om :: post').length false) → pre.length ≤ i → i = pre.length ∧ ∀ j, j < pre.length → j ≠ z → Lst listed j := fun i hi hge => by
        have hed := edge_of_ready hi
        obtain ⟨h1, h2, o, ho, h3⟩ := ready_mem.1 hi
        by_cases hm : i = pre.length
        · subst hm
          refine ⟨rfl, ?_⟩
          have hall : ∀ t, ∀ j, pre.length - t ≤ j → j < pre.length → j ≠ z → Lst listed j := by
            intro t
            induction t with
            | zero => intro j h1 h2; omega
            | succ t iht =>
              intro j hj1 hj2 hjz
              by_cases hlt : pre.length - t ≤ j
              · exact iht j hlt hj2 hjz
              · obtain ⟨k, hk1, hk2, hkz, hk3⟩ := ht.all j hj2 hjz
                by_cases hkm : k = pre.length
                · subst hkm
                  have := hed j hk3
                  unfold Lst at this ⊢
                  rwa [hgetl listed j false hs hj2] at this
                · have hk := iht k (by omega) (by omega) hkz
                  rw [hedge k j (by omega)] at hk3
                  exact hdc k j hk hk3
          intro j hj hjz
          exact hall pre.length j (by omega) hj hjz
        · have := hed (i - 1) (ht.chain i (by omega) h1)
          unfold Lst at this
          rw [hgetr listed (i - 1) hs (by omega)] at this
          cases this
      have hiff : ∀ i, i ∈ Region.ready .any (pre ++ om :: post').toArray (listed ++ Array.replicate (om :: post').length false) → i < pre.length → i ∈ Region.ready .any pre.toArray listed := fun i hi him => by
        obtain ⟨h1, h2, o, ho, h3⟩ := ready_mem.1 hi
        rw [hop i him] at ho
        refine ready_mem.2 ⟨by simpa using him, by rwa [hgetl listed i true hs him] at h2, o, ho, fun e he hb => ?_⟩
        have hek := h3 e he hb
        have hlt : e.on < i := hd i e.on (by
          unfold edge
          rw [ho]
          simp only [Option.map_some, Option.getD_some, Array.any_eq_true]
          obtain ⟨k, hk, rfl⟩ := Array.mem_iff_getElem.1 he
          exact ⟨k, hk, by simp [hb]⟩)
        rwa [hgetl listed e.on false hs (by omega)] at hek
      refine ⟨fun hr2 => ?_, fun i hi => ?_⟩
      · -- some operation is ready
        exfalso
        obtain ⟨i, hi⟩ := List.exists_mem_of_ne_nil _ hr
        obtain ⟨h1, h2, o, ho, h3⟩ := ready_mem.1 hi
        have him : i < pre.length := by simpa using h1
        have : i ∈ Region.ready .any (pre ++ om :: post').toArray (listed ++ Array.replicate (om :: post').length false) := ready_mem.2 ⟨by simp; omega, by rw [hgetl listed i true hs him]; exact h2, o, by rw [hop i him]; exact ho, fun e he hb => by
          have hlt : e.on < i := hd i e.on (by
            unfold edge
            rw [ho]
            simp only [Option.map_some, Option.getD_some, Array.any_eq_true]
            obtain ⟨k, hk, rfl⟩ := Array.mem_iff_getElem.1 he
            exact ⟨k, hk, by simp [hb]⟩)
          rw [hgetl listed e.on false hs (by omega)]
          exact h3 e he hb⟩
        rw [hr2] at this; cases this
      · by_cases him : i < pre.length
        case neg =>
          obtain ⟨rfl, hall⟩ := hiff0 i hi (by omega)
          -- only z is not done yet
          have hzr : z ∈ Region.ready .any pre.toArray listed := by
            obtain ⟨i, hi⟩ := List.exists_mem_of_ne_nil _ hr
            have hiz : i = z := Classical.byContradiction fun hne => by
              obtain ⟨g1, g2, _⟩ := ready_mem.1 hi
              have := hall i (by simpa using g1) hne
              unfold Lst at this
              rw [Array.getD_eq_getD_getElem?, Array.getElem?_eq_getElem (by rw [hs]; simpa using g1)] at this g2
              simp only [Option.getD_some] at this g2
              rw [this] at g2; cases g2
            rwa [hiz] at hi
          have hznl : listed.getD z true = false := (ready_mem.1 hzr).2.1
          have hh := h.2 z hzr
          have hh2 : wpOpIn F 0 P pre.toArray Q' z (fun a w => Q' .normal a w) a w := wpOpIn_mono (fun a w hk => by
            have hr0 : Region.ready .any pre.toArray (listed.setIfInBounds z true) = [] := by
              refine List.eq_nil_iff_forall_not_mem.2 fun j hj => ?_
              obtain ⟨g1, g2, _⟩ := ready_mem.1 hj
              have hjl : j < pre.length := by simpa using g1
              have : Lst (listed.setIfInBounds z true) j := by
                rw [lst_set (by rw [hs]; exact hz1)]
                by_cases hjz : j = z
                · exact .inl hjz
                · exact .inr (hall j hjl hjz)
              unfold Lst at this
              rw [Array.getD_eq_getD_getElem?, Array.getElem?_eq_getElem (by simp [hs, hjl])] at this g2
              simp only [Option.getD_some] at this g2
              rw [this] at g2; cases g2
            cases fuel with
            | zero => exact hk.2
            | succ f => exact hk.1 hr0) hh
          have hw2 := hx a w hh2
          have hom : (pre ++ om :: post').toArray[pre.length]? = some om := by simp
          have hozf : (pre ++ om :: post').toArray[z]? = some oz := by rw [hop z hz1]; simpa using hoz
          have hsz2 : ((listed ++ Array.replicate (om :: post').length false).setIfInBounds pre.length true).size = (pre ++ om :: post').toArray.size := by simp [hs]
          have hl2 : ∀ j, Lst ((listed ++ Array.replicate (om :: post').length false).setIfInBounds pre.length true) j ↔ j ≤ pre.length ∧ j ≠ z := fun j => by
            rw [lst_set (by simp [hs])]
            unfold Lst
            constructor
            · rintro (rfl | hj)
              · exact ⟨Nat.le_refl _, by omega⟩
              · by_cases hjl : j < pre.length
                · refine ⟨by omega, fun hjz => ?_⟩
                  subst hjz
                  rw [hgetl listed j false hs hjl] at hj
                  rw [Array.getD_eq_getD_getElem?, Array.getElem?_eq_getElem (by omega)] at hj hznl
                  simp only [Option.getD_some] at hj hznl
                  rw [hj] at hznl; cases hznl
                · rw [hgetr listed j hs (by omega)] at hj; cases hj
            · rintro ⟨h1, h2⟩
              by_cases hjm : j = pre.length
              · exact .inl hjm
              · refine .inr ?_
                rw [hgetl listed j false hs (by omega)]; exact hall j (by omega) h2
          -- behind om: oz, then the others
          have hrest : ∀ a w, wpListIn F 0 P (pre ++ om :: post').toArray Q (oz :: post') a w → wpAnyIn F 0 P .any (pre ++ om :: post').toArray Q f2 ((listed ++ Array.replicate (om :: post').length false).setIfInBounds pre.length true) a w := fun a w hw => by
            obtain ⟨f3, rfl⟩ : ∃ f3, f2 = f3 + 1 := ⟨f2 - 1, by simp at hf; omega⟩
            have hzin : z ∈ Region.ready .any (pre ++ om :: post').toArray ((listed ++ Array.replicate (om :: post').length false).setIfInBounds pre.length true) := ready_mem.2 ⟨by simp; omega, by
              cases hb : ((listed ++ Array.replicate (om :: post').length false).setIfInBounds pre.length true).getD z true with
              | false => rfl
              | true =>
                have : Lst ((listed ++ Array.replicate (om :: post').length false).setIfInBounds pre.length true) z := by
                  unfold Lst
                  rw [Array.getD_eq_getD_getElem?, Array.getElem?_eq_getElem (by rw [hsz2]; simp; omega)] at hb ⊢
                  exact hb
                exact absurd rfl ((hl2 z).1 this).2, oz, hozf, fun e he hb => by
              have hed : edge (pre ++ om :: post').toArray z e.on = true := by
                unfold edge
                rw [hozf]
                simp only [Option.map_some, Option.getD_some, Array.any_eq_true]
                obtain ⟨k, hk, rfl⟩ := Array.mem_iff_getElem.1 he
                exact ⟨k, hk, by simp [hb]⟩
              have hlt := ht.down z e.on hed
              exact (hl2 e.on).2 ⟨by omega, by omega⟩⟩
            refine ⟨fun hr2 => (by rw [hr2] at hzin; cases hzin), fun j hj => ?_⟩
            have hjz : j = z := by
              obtain ⟨g1, g2, _⟩ := ready_mem.1 hj
              have hnl : ¬ Lst ((listed ++ Array.replicate (om :: post').length false).setIfInBounds pre.length true) j := fun hlj => by
                unfold Lst at hlj
                rw [Array.getD_eq_getD_getElem?, Array.getElem?_eq_getElem (by rw [hsz2]; exact g1)] at hlj g2
                simp only [Option.getD_some] at hlj g2
                rw [hlj] at g2; cases g2
              rw [hl2] at hnl
              refine Classical.byContradiction fun hne => ?_
              have hgt : pre.length < j := by omega
              have he := edge_of_ready hj
              by_cases hj1 : j = pre.length + 1
              · subst hj1
                have := he z (ht.last (by simpa using g1))
                rw [hl2] at this
                exact this.2 rfl
              · have := he (j - 1) (ht.chain j (by omega) g1)
                rw [hl2] at this
                omega
            subst hjz
            unfold wpOpIn
            rw [hozf]
            simp only []
            have hrec : ∀ a w, wpListIn F 0 P (pre ++ om :: post').toArray Q post' a w → wpAnyIn F 0 P .any (pre ++ om :: post').toArray Q f3 (((listed ++ Array.replicate (om :: post').length false).setIfInBounds pre.length true).setIfInBounds j true) a w := fun a w hw => by
              refine tail_run2 ht.down ht.chain post' (pre.length + 1) f3 _ a w (fun t => ?_) (by omega) (by simp; omega) (by simp [hs]) (fun t => ?_) (by simp at hf; omega) hw
              · simp [List.getElem?_append_right, Nat.add_assoc, Nat.add_comm 1 t]
              · rw [lst_set (by rw [hsz2]; simp; omega), hl2]
                omega
            unfold wpListIn at hw
            split at hw
            · rename_i hwt
              rw [if_pos hwt]
              exact wpIn_to hrec (fun _ _ _ _ h => h) hw
            · rename_i hwt
              rw [if_neg hwt]
              exact ⟨hw.1, hrec _ _ hw.2⟩
          unfold wpOpIn
          rw [hom]
          simp only []
          unfold wpListIn at hw2
          split at hw2
          · rename_i hwt
            rw [if_pos hwt]
            exact wpIn_to hrest (fun _ _ _ _ h => h) hw2
          · rename_i hwt
            rw [if_neg hwt]
            exact ⟨hw2.1, hrest _ _ hw2.2⟩
        have hi' := hiff i hi him
        have hh := h.2 i hi'
        have hpre := edge_of_ready hi'
        obtain ⟨h1, h2, o, ho, h3⟩ := ready_mem.1 hi'
        have hset : (listed ++ Array.replicate (om :: post').length false).setIfInBounds i true = listed.setIfInBounds i true ++ Array.replicate (om :: post').length false := by
          refine Array.ext_getElem? fun t => ?_
          rw [Array.getElem?_setIfInBounds, Array.getElem?_append, Array.getElem?_append, Array.getElem?_setIfInBounds]
          simp only [Array.size_append, Array.size_setIfInBounds]
          by_cases hit : i = t
          · subst hit; simp [hs, him]; omega
          · simp [hit]
        have hrec : ∀ a w, wpAnyIn F 0 P .any pre.toArray Q' fuel (listed.setIfInBounds i true) a w → wpAnyIn F 0 P .any (pre ++ om :: post').toArray Q f2 ((listed ++ Array.replicate (om :: post').length false).setIfInBounds i true) a w := fun a w h => by
          rw [hset]
          refine ih f2 _ a w (by simp [hs]) (fun j k hj he => ?_) (by omega) h
          rw [lst_set (by omega)] at hj ⊢
          rcases hj with rfl | hj
          · exact .inr (hpre k he)
          · exact .inr (hdc j k hj he)
        unfold wpOpIn at hh ⊢
        rw [hop i him, ho]
        rw [ho] at hh
        simp only [] at hh ⊢
        have hwant : Region.wanted o (yielded (pre ++ om :: post').toArray a.tmps) = Region.wanted o (yielded pre.toArray a.tmps) := by
          unfold Region.wanted
          cases hg : o.guard with
          | none => rfl
          | some gg =>
            obtain ⟨j, b⟩ := gg
            have hj := ht.guard i o him (by rw [hop i him]; exact ho) j b hg
            simp only [yielded, hop j hj]
        rw [hwant]
        split at hh
        · rename_i hw
          rw [if_pos hw]
          exact wpIn_to hrec hq hh
        · rename_i hw
          rw [if_neg hw]
          exact ⟨hh.1, hrec _ _ hh.2⟩

end
theorem far_np {P : Program} {w : World} {a : Addr} {b : Bool} {v : Value} (h : w.farLoad P a b = .error (.panic v)) : False := by
  unfold World.farLoad at h
  split at h
  · split at h <;> cases h
  · unfold World.noCell at h
    split at h <;> cases h
/-- A reading leaves the world as it is. -/
theorem ro_load {P : Program} {e : Operand → Value} {d : Option Tmp} {T : TypeId} {x : Operand} {ty : TypeId} {pos : String} {af : Array Edge} {g : Option (Nat × Bool)} (hA : ∀ w, (isAgg T).run P w = .ok false w) {w : World} :
    (∃ v, (execOp e ⟨d, .load T x, ty, pos, af, g⟩).run P w = .ok (.value v) w) ∨ ∃ h, (execOp e ⟨d, .load T x, ty, pos, af, g⟩).run P w = .halt h w ∧ ∀ v, h ≠ .panic v := by
  simp only [execOp, Instr.loadAt]
  unfold Instr.sureAddr
  split
  · rename_i a _
    simp only [Sem.run_bind, Sem.run_pure, Result.andThen_ok, loadVar, hA, Bool.false_eq_true, if_false]
    simp only [run_load]
    split
    · exact .inl ⟨_, rfl⟩
    · split
      · exact .inl ⟨_, rfl⟩
      · rename_i h heq
        exact .inr ⟨h, rfl, fun v hv => by subst hv; exact far_np heq⟩
  · exact .inr ⟨_, rfl, fun v hv => by cases hv⟩
section
variable {C : Ctx} {F : Fence} {n : Nat} {ds : List Deferred} {Q : Exit → Env → List Blk → Prop} {e : Env} {H : List Blk}
def tailZQ (C : Ctx) (F : Fence) (n : Nat) (ds : List Deferred) (all : Array Oper) (om oz : Oper) (d : Nat) (post : List Oper) (Q : Exit → Env → List Blk → Prop) : Exit → Env → List Blk → Prop
  | .normal, e, H => WS C F n ds all Q (om :: post) e H ∧ ∀ x, WS C F n ds all Q (om :: oz :: post) (upd e d x) H
  | x, e, H => Q x e H
theorem W_drawZ {id : Nat} {l post' : List Oper} {H0 : List Blk} (m z : Nat) {om oz : Oper} {T : TypeId} {xz : Operand} {dz : Nat} (hF : Wide F) (hm : C.P.follows .mixedOrders = true) (pres : List Pre) (slots S : List Nat) (hs : pres.map (·.slot) = slots)
    (hph : (phased (l.take m).toArray slots && ((l.take m).all fun o => dOk n o.dst && gOk n (l.take m).toArray o) && (slots.all fun p => S.contains p) && tailZB l.toArray m z && Nat.ble m l.length) = true) (hnd : slots.Nodup)
    (hdrop : l.drop m = om :: post') (hoz : l[z]? = some oz) (hop : oz.op = .load T xz) (hgz : oz.guard = none) (hdz : oz.dst = some dz) (hA : ∀ w, (isAgg T).run C.P w = .ok false w)
    (hH : HSub H (pres.map (fun p => (p.b, p.o)) ++ H0))
    (hp : ∀ ds, PW (C.at ds) (l.take m).toArray S (fun us e => OverAll (fun e H => WS (C.at ds) F n ds l.toArray Q (om :: post') e H ∧ ∀ x, WS (C.at ds) F n ds l.toArray Q (om :: oz :: post') (upd e dz x) H) (fun _ => True) us e H0) H0 (l.take m) [] (pres.map Pre.un) e) :
    W C F n ds (.region id l.toArray true) Q e H := fun dd w hw a ha => by
  subst hs
  rw [List.all_map] at hph
  simp only [Bool.and_eq_true] at hph
  obtain ⟨⟨⟨⟨hph, hdk⟩, hsub⟩, ht⟩, hml⟩ := hph
  have hml : m ≤ l.length := Nat.le_of_ble_eq_true hml
  have hlen : (l.take m).length = m := by simp; omega
  have hl : l.take m ++ om :: post' = l := by rw [← hdrop]; exact List.take_append_drop m l
  have ht' : TailZ (l.take m ++ om :: post').toArray (l.take m).length z := by rw [hl, hlen]; exact tailZ_of ht
  have hozp : (l.take m)[z]? = some oz := by
    rw [List.getElem?_take, if_pos (by have := ht'.zlt; omega)]; exact hoz
  have hdzn : dz < n := by
    have := List.all_eq_true.1 hdk oz (List.mem_of_getElem? hozp)
    simp only [Bool.and_eq_true] at this
    have := this.1
    rw [hdz] at this
    simpa [dOk, Nat.blt_eq] using this
  refine wpIn_mono (Q := lift (C.at dd) n dd Q) (wpIn_region_any hm ?_) fun _ _ _ h => lift_M h
  have h1 := draw_any (C := C.at dd) (ds := dd) (F := F) (n := n) (ops := (l.take m).toArray) (Q := tailZQ (C.at dd) F n dd l.toArray om oz dz post' Q) (e := e) (H := H) (H0 := H0) hF pres S (fun _ hw => ⟨hw.1, hH _ _ hw.2, hw.3⟩) hph (by simpa using hdk) hsub hnd (hp dd) w hw a ha
  have h2 := tail_anyZ (P := C.P) (F := F) (pre := l.take m) (post' := post') (om := om) (oz := oz) (z := z) (Q := lift (C.at dd) n dd Q) (Q' := lift (C.at dd) n dd (tailZQ (C.at dd) F n dd l.toArray om oz dz post' Q)) ht' hozp (phased_spec hph).down
    (fun x hx a w ⟨e, H, g1, g2, g3⟩ => ⟨e, H, g1, g2, by cases x <;> first | exact g3 | exact absurd rfl hx⟩) (fun a w ⟨e, H, g1, g2, g3⟩ => by rw [hl]; exact g3.1 w g2 a g1)
    (fun a w hz => by
      rw [hl]
      unfold wpOpIn at hz
      rw [show (l.take m).toArray[z]? = some oz by simpa using hozp] at hz
      simp only [] at hz
      rw [if_pos (by unfold Region.wanted; rw [hgz])] at hz
      obtain ⟨_, hz⟩ := hz
      obtain ⟨od, oop, oty, opos, oaf, og⟩ := oz
      simp only at hop hgz hdz
      subst hop hgz hdz
      rw [semAt_of rfl] at hz
      rcases ro_load (d := some dz) (x := xz) (ty := oty) (pos := opos) (af := oaf) (g := none) (e := a.eval) hA (w := w) with ⟨v, hr⟩ | ⟨x, hr, hnp⟩
      · rw [hr] at hz
        obtain ⟨e', H', g1, g2, g3⟩ := hz
        have hrep : Rep n dd a (upd e' dz (a.tmps.getD dz undef)) := by
          refine ⟨by have := g1.size; simpa [Act.put] using this, by have := g1.defers; simpa [Act.put] using this, fun t => ?_⟩
          by_cases ht : t = dz
          · subst ht; rw [upd_same]
          · rw [upd_ne _ _ ht, ← g1.val t]
            simp only [Act.put, Array.getD_eq_getD_getElem?, Array.getElem?_setIfInBounds]
            rw [if_neg (fun h => ht h.symm)]
        exact g3.2 _ w g2 a hrep
      · rw [hr] at hz
        cases x
        case panic v => exact absurd rfl (hnp v)
        all_goals exact hz.elim)
    (l.take m).toArray.size l.toArray.size (Array.replicate (l.take m).toArray.size false) a w.drew (by simp) (fun j k hj => by
      unfold Lst at hj
      rw [Array.getD_eq_getD_getElem?, Array.getElem?_replicate] at hj
      split at hj <;> cases hj) (by
        have := congrArg List.length hl
        simp only [List.length_append] at this
        simp at this ⊢; omega) h1
  rw [hl] at h2
  have hrep : Array.replicate (l.take m).toArray.size false ++ Array.replicate (om :: post').length false = Array.replicate l.toArray.size false := by
    rw [Array.replicate_append_replicate]
    congr 1
    have := congrArg List.length hl
    simp only [List.length_append] at this
    simp at this ⊢; omega
  rw [hrep] at h2
  exact h2
end
/-- Some of the blocks, in another order. -/
def SubP (H T : List Blk) : Prop := ∃ L, H.Perm (T ++ L)
theorem SubP.nil {H : List Blk} : SubP H [] := ⟨H, List.Perm.refl _⟩
theorem SubP.refl {H : List Blk} : SubP H H := ⟨[], by rw [List.append_nil]⟩
theorem SubP.drop {x : Blk} {H T : List Blk} (h : SubP H T) : SubP (x :: H) T := by
  obtain ⟨L, h⟩ := h
  exact ⟨x :: L, (h.cons x).trans List.perm_middle.symm⟩
theorem SubP.pick {x : Blk} {H T : List Blk} (i : Nat) (hi : H[i]? = some x) (h : SubP (H.eraseIdx i) T) : SubP H (x :: T) := by
  obtain ⟨L, h⟩ := h
  exact ⟨L, (perm_erase hi).trans (h.cons x)⟩
theorem SubP.hsub {H T : List Blk} (h : SubP H T) : HSub H T := by
  obtain ⟨L, h⟩ := h
  exact fun _ _ hk => (hk.perm h.symm).sub (List.sublist_append_left _ _)
theorem W_H {C : Ctx} {F : Fence} {n : Nat} {ds : List Deferred} {c : Code} {Q : Exit → Env → List Blk → Prop} {e : Env} {H H' : List Blk} (hH : H = H') (h : W C F n ds c Q e H') : W C F n ds c Q e H := by subst hH; exact h
section
variable {C : Ctx} {H : List Blk} {b o n k j sz : Nat} {α : Type} {enc : α → List Value} {f : Nat → α} {T : TypeId} {s : α} {v : Value}
theorem Mem.row (hz : ∀ x, (enc x).length = sz) (i : Nat) (hi : H[i]? = some (b, CB (rowOf enc f n) T)) (hk : k < n) (hs : f k = s) (ho : o = k * sz) : Mem C H b o (enc s) := by
  subst hs ho
  obtain ⟨t, ht⟩ := rowOf_drop hz f hk
  exact Mem.own i hi ht
theorem Mem.rowAt (hz : ∀ x, (enc x).length = sz) (i : Nat) (hi : H[i]? = some (b, CB (rowOf enc f n) T)) (hk : k < n) (hs : f k = s) (hv : (enc s)[j]? = some v) (ho : o = k * sz + j) : Mem C H b o [v] := by
  subst hs ho
  exact Mem.own1 i hi (rowOf_get hz f hk hv)
end
theorem SubP.dropL {X H T : List Blk} (h : SubP H T) : SubP (X ++ H) T := by
  obtain ⟨L, h⟩ := h
  exact ⟨X ++ L, (h.append_left X).trans (List.perm_append_comm_assoc ..)⟩
def tupAt : Value → Nat → Value
  | .tuple vs, i => vs.getD i undef
  | _, _ => undef
def slAt : Value → Nat → Value
  | .slice (some ⟨b, o, r⟩) _ _, k => .pointer (some ⟨b, o + k, r⟩)
  | _, _ => undef
theorem Mem.rowJ {C : Ctx} {H : List Blk} {b o n k sz : Nat} {α : Type} {enc : α → List Value} {f : Nat → α} {T : TypeId} {s : α} {junk : List Value} (hz : ∀ x, (enc x).length = sz) (i : Nat) (hi : H[i]? = some (b, CB (rowOf enc f n ++ junk) T)) (hk : k < n) (hs : f k = s) (ho : o = k * sz) : Mem C H b o (enc s) := by
  subst hs ho
  obtain ⟨t, ht⟩ := rowOf_drop hz f hk
  refine Mem.own (rest := t ++ junk) i hi ?_
  rw [List.drop_append_of_le_length (by rw [rowOf_len hz]; exact Nat.mul_le_mul_right _ (Nat.le_of_lt hk)), ht, List.append_assoc]
def partC (e : Env) : Value ⊕ Nat → List Value
  | .inl v => [v]
  | .inr t => cellsL (e t)
/-- A struct made of known cells and of open values, some of which are structs. -/
def aggC (ps : List (Value ⊕ Nat)) (e : Env) : Value := .agg (ps.flatMap (partC e)).toArray
theorem aggC_congr {deps : List Nat} {ps : List (Value ⊕ Nat)} (h : ps.all (partIn deps) = true) : ∀ e e' : Env, (∀ t ∈ deps, e t = e' t) → aggC ps e = aggC ps e' := fun e e' he => by
  unfold aggC
  congr 2
  induction ps with
  | nil => rfl
  | cons x ps ih =>
    simp only [List.all_cons, Bool.and_eq_true] at h
    rw [List.flatMap_cons, List.flatMap_cons, ih h.2]
    congr 1
    cases x with
    | inl c => rfl
    | inr t => exact congrArg cellsL (he t (List.contains_iff_mem.1 h.1))
end Go.Eng
