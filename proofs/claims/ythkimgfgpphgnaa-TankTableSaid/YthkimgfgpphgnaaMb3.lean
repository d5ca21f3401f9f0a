/- Numbers without a sign; copies; readings that may go late, once more. No project text. -/
import Derived.Test.YthkimgfgpphgnaaMb2
import Derived.Laws.Bits64b
set_option linter.unusedVariables false
set_option linter.unusedSimpArgs false
/- A region whose order is open but for a tail, and one reading among it that may go late. No project text. -/
namespace Go.Eng
open Go.RowKit
section
variable {P : Program} {F : Fence}
structure TailZ (ops : Array Oper) (m z : Nat) : Prop where
  down : ∀ i k, edge ops i k = true → k < i
  chain : ∀ i, m < i → i < ops.size → edge ops i (i - 1) = true
  all : ∀ j, j < m → j ≠ z → ∃ k, j < k ∧ k ≤ m ∧ k ≠ z ∧ edge ops k j = true
  last : m + 1 < ops.size → edge ops (m + 1) z = true
  zlt : z < m
  guard : ∀ (i : Nat) (o : Oper), i < m → ops[i]? = some o → ∀ j b, o.guard = some (j, b) → j < m
def tailZB (ops : Array Oper) (m z : Nat) : Bool :=
  ((List.range ops.size).all fun i => (ops[i]?.map fun o => o.after.all fun e => !Region.binds .any e || Nat.blt e.on i).getD true) &&
  ((List.range ops.size).all fun i => !Nat.blt m i || edge ops i (i - 1)) &&
  ((List.range m).all fun j => Nat.beq j z || (List.range (m + 1)).any fun k => Nat.blt j k && !Nat.beq k z && edge ops k j) &&
  (!Nat.blt (m + 1) ops.size || edge ops (m + 1) z) && Nat.blt z m &&
  ((List.range m).all fun i => (ops[i]?.map fun o => match o.guard with | some (j, _) => Nat.blt j m | none => true).getD true)
theorem tailZ_of {ops : Array Oper} {m z : Nat} (h : tailZB ops m z = true) : TailZ ops m z := by
  unfold tailZB at h
  simp only [Bool.and_eq_true, List.all_eq_true, List.mem_range] at h
  obtain ⟨⟨⟨⟨⟨h1, h2⟩, h3⟩, h5⟩, h6⟩, h4⟩ := h
  refine ⟨fun i k hk => ?_, fun i hi hs => ?_, fun j hj hz => ?_, fun hs => ?_, by rwa [Nat.blt_eq] at h6, fun i o hi ho j b hg => ?_⟩
  · have hi := edge_lt hk
    have := h1 i hi
    unfold edge at hk
    rw [Array.getElem?_eq_getElem hi] at hk this
    simp only [Option.map_some, Option.getD_some, Array.any_eq_true, Array.all_eq_true, Bool.and_eq_true, beq_iff_eq] at hk this
    obtain ⟨x, hx, he, hb⟩ := hk
    have := this x hx
    rw [he, hb] at this
    simpa using this
  · have := h2 i hs
    have hb : Nat.blt m i = true := by rw [Nat.blt_eq]; exact hi
    simpa [hb] using this
  · have := h3 j hj
    have hb : Nat.beq j z = false := by
      cases hb : Nat.beq j z with
      | false => rfl
      | true => exact absurd (Nat.eq_of_beq_eq_true hb) hz
    simp only [hb, Bool.false_or, List.any_eq_true, List.mem_range, Bool.and_eq_true, Nat.blt_eq, Bool.not_eq_true'] at this
    obtain ⟨k, hk, ⟨hjk, hkz⟩, he⟩ := this
    exact ⟨k, hjk, by omega, Nat.ne_of_beq_eq_false hkz, he⟩
  · have hb : Nat.blt (m + 1) ops.size = true := by rw [Nat.blt_eq]; exact hs
    simpa [hb] using h5
  · have := h4 i hi
    rw [ho] at this
    simp only [Option.map_some, Option.getD_some, hg, Nat.blt_eq] at this
    exact this
/-- The operations at the end, in their order. -/
theorem tail_run2 {ops : Array Oper} {m : Nat} {Q : Exit → Act → World → Prop} (hdown : ∀ i k, edge ops i k = true → k < i) (hchain : ∀ i, m < i → i < ops.size → edge ops i (i - 1) = true) : ∀ (rest : List Oper) (i fuel : Nat) (listed : Array Bool) (a : Act) (w : World),
    (∀ j, rest[j]? = ops[i + j]?) → m ≤ i → i + rest.length = ops.size → listed.size = ops.size → (∀ j, Lst listed j ↔ j < i) → rest.length ≤ fuel → wpListIn F 0 P ops Q rest a w →
    wpAnyIn F 0 P .any ops Q fuel listed a w := by
  intro rest
  induction rest with
  | nil =>
    intro i fuel listed a w _ _ hsz hls hl _ h
    have hr : Region.ready .any ops listed = [] := by
      refine List.eq_nil_iff_forall_not_mem.2 fun j hj => ?_
      obtain ⟨h1, h2, _⟩ := ready_mem.1 hj
      have : Lst listed j := (hl j).2 (by simp at hsz; omega)
      unfold Lst at this
      rw [Array.getD_eq_getD_getElem?, Array.getElem?_eq_getElem (by rw [hls]; exact h1)] at this h2
      simp only [Option.getD_some] at this h2
      rw [this] at h2; cases h2
    cases fuel with
    | zero => exact ⟨hr, h⟩
    | succ f => exact ⟨fun _ => h, fun j hj => (by rw [hr] at hj; cases hj)⟩
  | cons o rest ih =>
    intro i fuel listed a w hget hm hsz hls hl hf h
    obtain ⟨f, rfl⟩ : ∃ f, fuel = f + 1 := ⟨fuel - 1, by simp at hf; omega⟩
    have hi : i < ops.size := by simp at hsz; omega
    have ho : ops[i]? = some o := by have := hget 0; simpa using this.symm
    have hni : listed.getD i true = false := by
      cases hb : listed.getD i true with
      | false => rfl
      | true =>
        have : Lst listed i := by
          unfold Lst
          rw [Array.getD_eq_getD_getElem?, Array.getElem?_eq_getElem (by rw [hls]; exact hi)] at hb ⊢
          exact hb
        have := (hl i).1 this
        omega
    have hin : i ∈ Region.ready .any ops listed := ready_mem.2 ⟨hi, hni, o, ho, fun e he hb => by
      have hed : edge ops i e.on = true := by
        unfold edge
        rw [ho]
        simp only [Option.map_some, Option.getD_some, Array.any_eq_true]
        obtain ⟨k, hk, rfl⟩ := Array.mem_iff_getElem.1 he
        exact ⟨k, hk, by simp [hb]⟩
      exact (hl e.on).2 (hdown i e.on hed)⟩
    refine ⟨fun hr => (by rw [hr] at hin; cases hin), fun j hj => ?_⟩
    have hji : j = i := by
      obtain ⟨h1, h2, _⟩ := ready_mem.1 hj
      have hnl : ¬ Lst listed j := fun hlj => by
        unfold Lst at hlj
        rw [Array.getD_eq_getD_getElem?, Array.getElem?_eq_getElem (by rw [hls]; exact h1)] at hlj h2
        simp only [Option.getD_some] at hlj h2
        rw [hlj] at h2; cases h2
      rw [hl] at hnl
      refine Classical.byContradiction fun hne => ?_
      have := edge_of_ready hj (j - 1) (hchain j (by omega) h1)
      rw [hl] at this
      omega
    subst hji
    unfold wpOpIn
    rw [ho]
    simp only []
    have hrec : ∀ a w, wpListIn F 0 P ops Q rest a w → wpAnyIn F 0 P .any ops Q f (listed.setIfInBounds j true) a w := fun a w h => by
      refine ih (j + 1) f _ a w (fun t => ?_) (by omega) (by simp at hsz ⊢; omega) (by simp [hls]) (fun t => ?_) (by simp at hf; omega) h
      · have := hget (t + 1)
        rw [List.getElem?_cons_succ] at this
        rw [this]; congr 1; omega
      · rw [lst_set (by rw [hls]; exact hi), hl]; omega
    unfold wpListIn at h
    split at h
    · rename_i hw
      rw [if_pos hw]
      exact wpIn_to hrec (fun _ _ _ _ h => h) h
    · rename_i hw
      rw [if_neg hw]
      exact ⟨h.1, hrec _ _ h.2⟩

/-- The operations ahead of these, in whatever order; then these. -/
theorem tail_anyZ {pre post' : List Oper} {om oz : Oper} {z : Nat} {Q Q' : Exit → Act → World → Prop} (ht : TailZ (pre ++ om :: post').toArray pre.length z) (hoz : pre[z]? = some oz) (hd : ∀ i k, edge pre.toArray i k = true → k < i)
    (hq : ∀ x, x ≠ .normal → ∀ a w, Q' x a w → Q x a w) (hn : ∀ a w, Q' .normal a w → wpListIn F 0 P (pre ++ om :: post').toArray Q (om :: post') a w)
    (hx : ∀ a w, wpOpIn F 0 P pre.toArray Q' z (fun a w => Q' .normal a w) a w → wpListIn F 0 P (pre ++ om :: post').toArray Q (om :: oz :: post') a w) :
    ∀ (fuel fuel2 : Nat) (listed : Array Bool) (a : Act) (w : World), listed.size = pre.length → (∀ j k, Lst listed j → edge pre.toArray j k = true → Lst listed k) → fuel + (om :: post').length ≤ fuel2 →
      wpAnyIn F 0 P .any pre.toArray Q' fuel listed a w → wpAnyIn F 0 P .any (pre ++ om :: post').toArray Q fuel2 (listed ++ Array.replicate (om :: post').length false) a w := by
  have hgetl : ∀ (listed : Array Bool) (j : Nat) (b : Bool), listed.size = pre.length → j < pre.length → (listed ++ Array.replicate (om :: post').length false).getD j b = listed.getD j b := fun listed j b hs hj => by
    rw [Array.getD_eq_getD_getElem?, Array.getD_eq_getD_getElem?, Array.getElem?_append_left (by omega)]
  have hgetr : ∀ (listed : Array Bool) (j : Nat), listed.size = pre.length → pre.length ≤ j → (listed ++ Array.replicate (om :: post').length false).getD j false = false := fun listed j hs hj => by
    rw [Array.getD_eq_getD_getElem?, Array.getElem?_append_right (by omega), Array.getElem?_replicate]
    split <;> rfl
  have hop : ∀ j, j < pre.length → (pre ++ om :: post').toArray[j]? = pre.toArray[j]? := fun j hj => by simp [List.getElem?_append_left hj]
  have hedge : ∀ j k, j < pre.length → edge (pre ++ om :: post').toArray j k = edge pre.toArray j k := fun j k hj => by unfold edge; rw [hop j hj]
  -- all that is ahead is done
  have full : ∀ (fuel2 : Nat) (listed : Array Bool) (a : Act) (w : World), listed.size = pre.length → (∀ j, j < pre.length → Lst listed j) → (om :: post').length ≤ fuel2 → Q' .normal a w →
      wpAnyIn F 0 P .any (pre ++ om :: post').toArray Q fuel2 (listed ++ Array.replicate (om :: post').length false) a w := fun fuel2 listed a w hs hl hf h => by
    refine tail_run2 ht.down ht.chain (om :: post') pre.length fuel2 _ a w (fun j => by simp [List.getElem?_append_right]) (Nat.le_refl _) (by simp) (by simp [hs]) (fun j => ?_) hf (hn a w h)
    unfold Lst
    by_cases hj : j < pre.length
    · rw [hgetl listed j false hs hj]; exact ⟨fun _ => hj, fun _ => hl j hj⟩
    · rw [hgetr listed j hs (by omega)]; exact ⟨fun h => (by cases h), fun h => absurd h hj⟩
  intro fuel
  induction fuel with
  | zero =>
    intro fuel2 listed a w hs _ hf h
    exact full fuel2 listed a w hs (fun j hj => all_of_ready_nil hd (by simp [hs]) h.1 j (by simpa using hj)) (by omega) h.2
  | succ fuel ih =>
    intro fuel2 listed a w hs hdc hf h
    by_cases hr : Region.ready .any pre.toArray listed = []
    · exact full fuel2 listed a w hs (fun j hj => all_of_ready_nil hd (by simp [hs]) hr j (by simpa using hj)) (by omega) (h.1 hr)
    · obtain ⟨f2, rfl⟩ : ∃ f2, fuel2 = f2 + 1 := ⟨fuel2 - 1, by omega⟩
      have hz1 : z < pre.length := ht.zlt
      have hiff0 : ∀ i, i ∈ Region.ready .any (pre ++ om :: post').toArray (listed ++ Array.replicate (om :: post').length false) → pre.length ≤ i → i = pre.length ∧ ∀ j, j < pre.length → j ≠ z → Lst listed j := fun i hi hge => by
        have hed := edge_of_ready hi
        obtain ⟨h1, h2, o, ho, h3⟩ := ready_mem.1 hi
        by_cases hm : i = pre.length
        · subst hm
          refine ⟨rfl, ?_⟩
          have hall : ∀ t, ∀ j, pre.length - t ≤ j → j < pre.length → j ≠ z → Lst listed j := by
            intro t
            induction t with
            | zero => intro j h1 h2; omega
            | succ t iht =>
              intro j hj1 hj2 hjz
              by_cases hlt : pre.length - t ≤ j
              · exact iht j hlt hj2 hjz
              · obtain ⟨k, hk1, hk2, hkz, hk3⟩ := ht.all j hj2 hjz
                by_cases hkm : k = pre.length
                · subst hkm
                  have := hed j hk3
                  unfold Lst at this ⊢
                  rwa [hgetl listed j false hs hj2] at this
                · have hk := iht k (by omega) (by omega) hkz
                  rw [hedge k j (by omega)] at hk3
                  exact hdc k j hk hk3
          intro j hj hjz
          exact hall pre.length j (by omega) hj hjz
        · have := hed (i - 1) (ht.chain i (by omega) h1)
          unfold Lst at this
          rw [hgetr listed (i - 1) hs (by omega)] at this
          cases this
      have hiff : ∀ i, i ∈ Region.ready .any (pre ++ om :: post').toArray (listed ++ Array.replicate (om :: post').length false) → i < pre.length → i ∈ Region.ready .any pre.toArray listed := fun i hi him => by
        obtain ⟨h1, h2, o, ho, h3⟩ := ready_mem.1 hi
        rw [hop i him] at ho
        refine ready_mem.2 ⟨by simpa using him, by rwa [hgetl listed i true hs him] at h2, o, ho, fun e he hb => ?_⟩
        have hek := h3 e he hb
        have hlt : e.on < i := hd i e.on (by
          unfold edge
          rw [ho]
          simp only [Option.map_some, Option.getD_some, Array.any_eq_true]
          obtain ⟨k, hk, rfl⟩ := Array.mem_iff_getElem.1 he
          exact ⟨k, hk, by simp [hb]⟩)
        rwa [hgetl listed e.on false hs (by omega)] at hek
      refine ⟨fun hr2 => ?_, fun i hi => ?_⟩
      · -- some operation is ready
        exfalso
        obtain ⟨i, hi⟩ := List.exists_mem_of_ne_nil _ hr
        obtain ⟨h1, h2, o, ho, h3⟩ := ready_mem.1 hi
        have him : i < pre.length := by simpa using h1
        have : i ∈ Region.ready .any (pre ++ om :: post').toArray (listed ++ Array.replicate (om :: post').length false) := ready_mem.2 ⟨by simp; omega, by rw [hgetl listed i true hs him]; exact h2, o, by rw [hop i him]; exact ho, fun e he hb => by
          have hlt : e.on < i := hd i e.on (by
            unfold edge
            rw [ho]
            simp only [Option.map_some, Option.getD_some, Array.any_eq_true]
            obtain ⟨k, hk, rfl⟩ := Array.mem_iff_getElem.1 he
            exact ⟨k, hk, by simp [hb]⟩)
          rw [hgetl listed e.on false hs (by omega)]
          exact h3 e he hb⟩
        rw [hr2] at this; cases this
      · by_cases him : i < pre.length
        case neg =>
          obtain ⟨rfl, hall⟩ := hiff0 i hi (by omega)
          -- only z is not done yet
          have hzr : z ∈ Region.ready .any pre.toArray listed := by
            obtain ⟨i, hi⟩ := List.exists_mem_of_ne_nil _ hr
            have hiz : i = z := Classical.byContradiction fun hne => by
              obtain ⟨g1, g2, _⟩ := ready_mem.1 hi
              have := hall i (by simpa using g1) hne
              unfold Lst at this
              rw [Array.getD_eq_getD_getElem?, Array.getElem?_eq_getElem (by rw [hs]; simpa using g1)] at this g2
              simp only [Option.getD_some] at this g2
              rw [this] at g2; cases g2
            rwa [hiz] at hi
          have hznl : listed.getD z true = false := (ready_mem.1 hzr).2.1
          have hh := h.2 z hzr
          have hh2 : wpOpIn F 0 P pre.toArray Q' z (fun a w => Q' .normal a w) a w := wpOpIn_mono (fun a w hk => by
            have hr0 : Region.ready .any pre.toArray (listed.setIfInBounds z true) = [] := by
              refine List.eq_nil_iff_forall_not_mem.2 fun j hj => ?_
              obtain ⟨g1, g2, _⟩ := ready_mem.1 hj
              have hjl : j < pre.length := by simpa using g1
              have : Lst (listed.setIfInBounds z true) j := by
                rw [lst_set (by rw [hs]; exact hz1)]
                by_cases hjz : j = z
                · exact .inl hjz
                · exact .inr (hall j hjl hjz)
              unfold Lst at this
              rw [Array.getD_eq_getD_getElem?, Array.getElem?_eq_getElem (by simp [hs, hjl])] at this g2
              simp only [Option.getD_some] at this g2
              rw [this] at g2; cases g2
            cases fuel with
            | zero => exact hk.2
            | succ f => exact hk.1 hr0) hh
          have hw2 := hx a w hh2
          have hom : (pre ++ om :: post').toArray[pre.length]? = some om := by simp
          have hozf : (pre ++ om :: post').toArray[z]? = some oz := by rw [hop z hz1]; simpa using hoz
          have hsz2 : ((listed ++ Array.replicate (om :: post').length false).setIfInBounds pre.length true).size = (pre ++ om :: post').toArray.size := by simp [hs]
          have hl2 : ∀ j, Lst ((listed ++ Array.replicate (om :: post').length false).setIfInBounds pre.length true) j ↔ j ≤ pre.length ∧ j ≠ z := fun j => by
            rw [lst_set (by simp [hs])]
            unfold Lst
            constructor
            · rintro (rfl | hj)
              · exact ⟨Nat.le_refl _, by omega⟩
              · by_cases hjl : j < pre.length
                · refine ⟨by omega, fun hjz => ?_⟩
                  subst hjz
                  rw [hgetl listed j false hs hjl] at hj
                  rw [Array.getD_eq_getD_getElem?, Array.getElem?_eq_getElem (by omega)] at hj hznl
                  simp only [Option.getD_some] at hj hznl
                  rw [hj] at hznl; cases hznl
                · rw [hgetr listed j hs (by omega)] at hj; cases hj
            · rintro ⟨h1, h2⟩
              by_cases hjm : j = pre.length
              · exact .inl hjm
              · refine .inr ?_
                rw [hgetl listed j false hs (by omega)]; exact hall j (by omega) h2
          -- behind om: oz, then the others
          have hrest : ∀ a w, wpListIn F 0 P (pre ++ om :: post').toArray Q (oz :: post') a w → wpAnyIn F 0 P .any (pre ++ om :: post').toArray Q f2 ((listed ++ Array.replicate (om :: post').length false).setIfInBounds pre.length true) a w := fun a w hw => by
            obtain ⟨f3, rfl⟩ : ∃ f3, f2 = f3 + 1 := ⟨f2 - 1, by simp at hf; omega⟩
            have hzin : z ∈ Region.ready .any (pre ++ om :: post').toArray ((listed ++ Array.replicate (om :: post').length false).setIfInBounds pre.length true) := ready_mem.2 ⟨by simp; omega, by
              cases hb : ((listed ++ Array.replicate (om :: post').length false).setIfInBounds pre.length true).getD z true with
              | false => rfl
              | true =>
                have : Lst ((listed ++ Array.replicate (om :: post').length false).setIfInBounds pre.length true) z := by
                  unfold Lst
                  rw [Array.getD_eq_getD_getElem?, Array.getElem?_eq_getElem (by rw [hsz2]; simp; omega)] at hb ⊢
                  exact hb
                exact absurd rfl ((hl2 z).1 this).2, oz, hozf, fun e he hb => by
              have hed : edge (pre ++ om :: post').toArray z e.on = true := by
                unfold edge
                rw [hozf]
                simp only [Option.map_some, Option.getD_some, Array.any_eq_true]
                obtain ⟨k, hk, rfl⟩ := Array.mem_iff_getElem.1 he
                exact ⟨k, hk, by simp [hb]⟩
              have hlt := ht.down z e.on hed
              exact (hl2 e.on).2 ⟨by omega, by omega⟩⟩
            refine ⟨fun hr2 => (by rw [hr2] at hzin; cases hzin), fun j hj => ?_⟩
            have hjz : j = z := by
              obtain ⟨g1, g2, _⟩ := ready_mem.1 hj
              have hnl : ¬ Lst ((listed ++ Array.replicate (om :: post').length false).setIfInBounds pre.length true) j := fun hlj => by
                unfold Lst at hlj
                rw [Array.getD_eq_getD_getElem?, Array.getElem?_eq_getElem (by rw [hsz2]; exact g1)] at hlj g2
                simp only [Option.getD_some] at hlj g2
                rw [hlj] at g2; cases g2
              rw [hl2] at hnl
              refine Classical.byContradiction fun hne => ?_
              have hgt : pre.length < j := by omega
              have he := edge_of_ready hj
              by_cases hj1 : j = pre.length + 1
              · subst hj1
                have := he z (ht.last (by simpa using g1))
                rw [hl2] at this
                exact this.2 rfl
              · have := he (j - 1) (ht.chain j (by omega) g1)
                rw [hl2] at this
                omega
            subst hjz
            unfold wpOpIn
            rw [hozf]
            simp only []
            have hrec : ∀ a w, wpListIn F 0 P (pre ++ om :: post').toArray Q post' a w → wpAnyIn F 0 P .any (pre ++ om :: post').toArray Q f3 (((listed ++ Array.replicate (om :: post').length false).setIfInBounds pre.length true).setIfInBounds j true) a w := fun a w hw => by
              refine tail_run2 ht.down ht.chain post' (pre.length + 1) f3 _ a w (fun t => ?_) (by omega) (by simp; omega) (by simp [hs]) (fun t => ?_) (by simp at hf; omega) hw
              · simp [List.getElem?_append_right, Nat.add_assoc, Nat.add_comm 1 t]
              · rw [lst_set (by rw [hsz2]; simp; omega), hl2]
                omega
            unfold wpListIn at hw
            split at hw
            · rename_i hwt
              rw [if_pos hwt]
              exact wpIn_to hrec (fun _ _ _ _ h => h) hw
            · rename_i hwt
              rw [if_neg hwt]
              exact ⟨hw.1, hrec _ _ hw.2⟩
          unfold wpOpIn
          rw [hom]
          simp only []
          unfold wpListIn at hw2
          split at hw2
          · rename_i hwt
            rw [if_pos hwt]
            exact wpIn_to hrest (fun _ _ _ _ h => h) hw2
          · rename_i hwt
            rw [if_neg hwt]
            exact ⟨hw2.1, hrest _ _ hw2.2⟩
        have hi' := hiff i hi him
        have hh := h.2 i hi'
        have hpre := edge_of_ready hi'
        obtain ⟨h1, h2, o, ho, h3⟩ := ready_mem.1 hi'
        have hset : (listed ++ Array.replicate (om :: post').length false).setIfInBounds i true = listed.setIfInBounds i true ++ Array.replicate (om :: post').length false := by
          refine Array.ext_getElem? fun t => ?_
          rw [Array.getElem?_setIfInBounds, Array.getElem?_append, Array.getElem?_append, Array.getElem?_setIfInBounds]
          simp only [Array.size_append, Array.size_setIfInBounds]
          by_cases hit : i = t
          · subst hit; simp [hs, him]; omega
          · simp [hit]
        have hrec : ∀ a w, wpAnyIn F 0 P .any pre.toArray Q' fuel (listed.setIfInBounds i true) a w → wpAnyIn F 0 P .any (pre ++ om :: post').toArray Q f2 ((listed ++ Array.replicate (om :: post').length false).setIfInBounds i true) a w := fun a w h => by
          rw [hset]
          refine ih f2 _ a w (by simp [hs]) (fun j k hj he => ?_) (by omega) h
          rw [lst_set (by omega)] at hj ⊢
          rcases hj with rfl | hj
          · exact .inr (hpre k he)
          · exact .inr (hdc j k hj he)
        unfold wpOpIn at hh ⊢
        rw [hop i him, ho]
        rw [ho] at hh
        simp only [] at hh ⊢
        have hwant : Region.wanted o (yielded (pre ++ om :: post').toArray a.tmps) = Region.wanted o (yielded pre.toArray a.tmps) := by
          unfold Region.wanted
          cases hg : o.guard with
          | none => rfl
          | some gg =>
            obtain ⟨j, b⟩ := gg
            have hj := ht.guard i o him (by rw [hop i him]; exact ho) j b hg
            simp only [yielded, hop j hj]
        rw [hwant]
        split at hh
        · rename_i hw
          rw [if_pos hw]
          exact wpIn_to hrec hq hh
        · rename_i hw
          rw [if_neg hw]
          exact ⟨hh.1, hrec _ _ hh.2⟩

end
theorem far_np {P : Program} {w : World} {a : Addr} {b : Bool} {v : Value} (h : w.farLoad P a b = .error (.panic v)) : False := by
  unfold World.farLoad at h
  split at h
  · split at h <;> cases h
  · unfold World.noCell at h
    split at h <;> cases h
/-- A reading leaves the world as it is. -/
theorem ro_load {P : Program} {e : Operand → Value} {d : Option Tmp} {T : TypeId} {x : Operand} {ty : TypeId} {pos : String} {af : Array Edge} {g : Option (Nat × Bool)} (hA : ∀ w, (isAgg T).run P w = .ok false w) {w : World} :
    (∃ v, (execOp e ⟨d, .load T x, ty, pos, af, g⟩).run P w = .ok (.value v) w) ∨ ∃ h, (execOp e ⟨d, .load T x, ty, pos, af, g⟩).run P w = .halt h w ∧ ∀ v, h ≠ .panic v := by
  simp only [execOp, Instr.loadAt]
  unfold Instr.sureAddr
  split
  · rename_i a _
    simp only [Sem.run_bind, Sem.run_pure, Result.andThen_ok, loadVar, hA, Bool.false_eq_true, if_false]
    simp only [run_load]
    split
    · exact .inl ⟨_, rfl⟩
    · split
      · exact .inl ⟨_, rfl⟩
      · rename_i h heq
        exact .inr ⟨h, rfl, fun v hv => by subst hv; exact far_np heq⟩
  · exact .inr ⟨_, rfl, fun v hv => by cases hv⟩
section
variable {C : Ctx} {F : Fence} {n : Nat} {ds : List Deferred} {Q : Exit → Env → List Blk → Prop} {e : Env} {H : List Blk}
def tailZQ (C : Ctx) (F : Fence) (n : Nat) (ds : List Deferred) (all : Array Oper) (om oz : Oper) (d : Nat) (post : List Oper) (Q : Exit → Env → List Blk → Prop) : Exit → Env → List Blk → Prop
  | .normal, e, H => WS C F n ds all Q (om :: post) e H ∧ ∀ x, WS C F n ds all Q (om :: oz :: post) (upd e d x) H
  | x, e, H => Q x e H
theorem W_drawZ {id : Nat} {l post' : List Oper} {H0 : List Blk} (m z : Nat) {om oz : Oper} {T : TypeId} {xz : Operand} {dz : Nat} (hF : Wide F) (hm : C.P.follows .mixedOrders = true) (pres : List Pre) (slots S : List Nat) (hs : pres.map (·.slot) = slots)
    (hph : (phased (l.take m).toArray slots && ((l.take m).all fun o => dOk n o.dst && gOk n (l.take m).toArray o) && (slots.all fun p => S.contains p) && tailZB l.toArray m z && Nat.ble m l.length) = true) (hnd : slots.Nodup)
    (hdrop : l.drop m = om :: post') (hoz : l[z]? = some oz) (hop : oz.op = .load T xz) (hgz : oz.guard = none) (hdz : oz.dst = some dz) (hA : ∀ w, (isAgg T).run C.P w = .ok false w)
    (hH : HSub H (pres.map (fun p => (p.b, p.o)) ++ H0))
    (hp : ∀ ds, PW (C.at ds) (l.take m).toArray S (fun us e => OverAll (fun e H => WS (C.at ds) F n ds l.toArray Q (om :: post') e H ∧ ∀ x, WS (C.at ds) F n ds l.toArray Q (om :: oz :: post') (upd e dz x) H) (fun _ => True) us e H0) H0 (l.take m) [] (pres.map Pre.un) e) :
    W C F n ds (.region id l.toArray true) Q e H := fun dd w hw a ha => by
  subst hs
  rw [List.all_map] at hph
  simp only [Bool.and_eq_true] at hph
  obtain ⟨⟨⟨⟨hph, hdk⟩, hsub⟩, ht⟩, hml⟩ := hph
  have hml : m ≤ l.length := Nat.le_of_ble_eq_true hml
  have hlen : (l.take m).length = m := by simp; omega
  have hl : l.take m ++ om :: post' = l := by rw [← hdrop]; exact List.take_append_drop m l
  have ht' : TailZ (l.take m ++ om :: post').toArray (l.take m).length z := by rw [hl, hlen]; exact tailZ_of ht
  have hozp : (l.take m)[z]? = some oz := by
    rw [List.getElem?_take, if_pos (by have := ht'.zlt; omega)]; exact hoz
  have hdzn : dz < n := by
    have := List.all_eq_true.1 hdk oz (List.mem_of_getElem? hozp)
    simp only [Bool.and_eq_true] at this
    have := this.1
    rw [hdz] at this
    simpa [dOk, Nat.blt_eq] using this
  refine wpIn_mono (Q := lift (C.at dd) n dd Q) (wpIn_region_any hm ?_) fun _ _ _ h => lift_M h
  have h1 := draw_any (C := C.at dd) (ds := dd) (F := F) (n := n) (ops := (l.take m).toArray) (Q := tailZQ (C.at dd) F n dd l.toArray om oz dz post' Q) (e := e) (H := H) (H0 := H0) hF pres S (fun _ hw => ⟨hw.1, hH _ _ hw.2, hw.3⟩) hph (by simpa using hdk) hsub hnd (hp dd) w hw a ha
  have h2 := tail_anyZ (P := C.P) (F := F) (pre := l.take m) (post' := post') (om := om) (oz := oz) (z := z) (Q := lift (C.at dd) n dd Q) (Q' := lift (C.at dd) n dd (tailZQ (C.at dd) F n dd l.toArray om oz dz post' Q)) ht' hozp (phased_spec hph).down
    (fun x hx a w ⟨e, H, g1, g2, g3⟩ => ⟨e, H, g1, g2, by cases x <;> first | exact g3 | exact absurd rfl hx⟩) (fun a w ⟨e, H, g1, g2, g3⟩ => by rw [hl]; exact g3.1 w g2 a g1)
    (fun a w hz => by
      rw [hl]
      unfold wpOpIn at hz
      rw [show (l.take m).toArray[z]? = some oz by simpa using hozp] at hz
      simp only [] at hz
      rw [if_pos (by unfold Region.wanted; rw [hgz])] at hz
      obtain ⟨_, hz⟩ := hz
      obtain ⟨od, oop, oty, opos, oaf, og⟩ := oz
      simp only at hop hgz hdz
      subst hop hgz hdz
      rw [semAt_of rfl] at hz
      rcases ro_load (d := some dz) (x := xz) (ty := oty) (pos := opos) (af := oaf) (g := none) (e := a.eval) hA (w := w) with ⟨v, hr⟩ | ⟨x, hr, hnp⟩
      · rw [hr] at hz
        obtain ⟨e', H', g1, g2, g3⟩ := hz
        have hrep : Rep n dd a (upd e' dz (a.tmps.getD dz undef)) := by
          refine ⟨by have := g1.size; simpa [Act.put] using this, by have := g1.defers; simpa [Act.put] using this, fun t => ?_⟩
          by_cases ht : t = dz
          · subst ht; rw [upd_same]
          · rw [upd_ne _ _ ht, ← g1.val t]
            simp only [Act.put, Array.getD_eq_getD_getElem?, Array.getElem?_setIfInBounds]
            rw [if_neg (fun h => ht h.symm)]
        exact g3.2 _ w g2 a hrep
      · rw [hr] at hz
        cases x
        case panic v => exact absurd rfl (hnp v)
        all_goals exact hz.elim)
    (l.take m).toArray.size l.toArray.size (Array.replicate (l.take m).toArray.size false) a w.drew (by simp) (fun j k hj => by
      unfold Lst at hj
      rw [Array.getD_eq_getD_getElem?, Array.getElem?_replicate] at hj
      split at hj <;> cases hj) (by
        have := congrArg List.length hl
        simp only [List.length_append] at this
        simp at this ⊢; omega) h1
  rw [hl] at h2
  have hrep : Array.replicate (l.take m).toArray.size false ++ Array.replicate (om :: post').length false = Array.replicate l.toArray.size false := by
    rw [Array.replicate_append_replicate]
    congr 1
    have := congrArg List.length hl
    simp only [List.length_append] at this
    simp at this ⊢; omega
  rw [hrep] at h2
  exact h2
end
/-- Some of the blocks, in another order. -/
def SubP (H T : List Blk) : Prop := ∃ L, H.Perm (T ++ L)
theorem SubP.nil {H : List Blk} : SubP H [] := ⟨H, List.Perm.refl _⟩
theorem SubP.refl {H : List Blk} : SubP H H := ⟨[], by rw [List.append_nil]⟩
theorem SubP.drop {x : Blk} {H T : List Blk} (h : SubP H T) : SubP (x :: H) T := by
  obtain ⟨L, h⟩ := h
  exact ⟨x :: L, (h.cons x).trans List.perm_middle.symm⟩
theorem SubP.pick {x : Blk} {H T : List Blk} (i : Nat) (hi : H[i]? = some x) (h : SubP (H.eraseIdx i) T) : SubP H (x :: T) := by
  obtain ⟨L, h⟩ := h
  exact ⟨L, (perm_erase hi).trans (h.cons x)⟩
theorem SubP.hsub {H T : List Blk} (h : SubP H T) : HSub H T := by
  obtain ⟨L, h⟩ := h
  exact fun _ _ hk => (hk.perm h.symm).sub (List.sublist_append_left _ _)
theorem W_H {C : Ctx} {F : Fence} {n : Nat} {ds : List Deferred} {c : Code} {Q : Exit → Env → List Blk → Prop} {e : Env} {H H' : List Blk} (hH : H = H') (h : W C F n ds c Q e H') : W C F n ds c Q e H := by subst hH; exact h
section
variable {C : Ctx} {H : List Blk} {b o n k j sz : Nat} {α : Type} {enc : α → List Value} {f : Nat → α} {T : TypeId} {s : α} {v : Value}
theorem Mem.row (hz : ∀ x, (enc x).length = sz) (i : Nat) (hi : H[i]? = some (b, CB (rowOf enc f n) T)) (hk : k < n) (hs : f k = s) (ho : o = k * sz) : Mem C H b o (enc s) := by
  subst hs ho
  obtain ⟨t, ht⟩ := rowOf_drop hz f hk
  exact Mem.own i hi ht
theorem Mem.rowAt (hz : ∀ x, (enc x).length = sz) (i : Nat) (hi : H[i]? = some (b, CB (rowOf enc f n) T)) (hk : k < n) (hs : f k = s) (hv : (enc s)[j]? = some v) (ho : o = k * sz + j) : Mem C H b o [v] := by
  subst hs ho
  exact Mem.own1 i hi (rowOf_get hz f hk hv)
end
theorem SubP.dropL {X H T : List Blk} (h : SubP H T) : SubP (X ++ H) T := by
  obtain ⟨L, h⟩ := h
  exact ⟨X ++ L, (h.append_left X).trans (List.perm_append_comm_assoc ..)⟩
def tupAt : Value → Nat → Value
  | .tuple vs, i => vs.getD i undef
  | _, _ => undef
def slAt : Value → Nat → Value
  | .slice (some ⟨b, o, r⟩) _ _, k => .pointer (some ⟨b, o + k, r⟩)
  | _, _ => undef
theorem Mem.rowJ {C : Ctx} {H : List Blk} {b o n k sz : Nat} {α : Type} {enc : α → List Value} {f : Nat → α} {T : TypeId} {s : α} {junk : List Value} (hz : ∀ x, (enc x).length = sz) (i : Nat) (hi : H[i]? = some (b, CB (rowOf enc f n ++ junk) T)) (hk : k < n) (hs : f k = s) (ho : o = k * sz) : Mem C H b o (enc s) := by
  subst hs ho
  obtain ⟨t, ht⟩ := rowOf_drop hz f hk
  refine Mem.own (rest := t ++ junk) i hi ?_
  rw [List.drop_append_of_le_length (by rw [rowOf_len hz]; exact Nat.mul_le_mul_right _ (Nat.le_of_lt hk)), ht, List.append_assoc]
def partC (e : Env) : Value ⊕ Nat → List Value
  | .inl v => [v]
  | .inr t => cellsL (e t)
/-- A struct made of known cells and of open values, some of which are structs. -/
def aggC (ps : List (Value ⊕ Nat)) (e : Env) : Value := .agg (ps.flatMap (partC e)).toArray
end Go.Eng

/- What the tank can hold by the entries behind: the walk. -/
namespace Go.Proofs.Ythkimgfgpphgnaa.T
open Go.RowKit Go.Proofs Go.Eng
set_option maxRecDepth 100000
set_option linter.unusedVariables false
set_option linter.unusedSimpArgs false

theorem fa116_2 : ∀ b o w, (Instr.fieldAt 116 (.pointer (some ⟨b, o, none⟩)) 2).run Try.prog w = .ok (.pointer (some ⟨b, o + 2, none⟩)) w := fun b o w => by kernel_rfl

theorem sn_len (x : Sn) : x.cells.length = 2 := rfl
def Lg.af (l : Lg) (k j : Nat) : Sn := if l.es.length - k ≤ j then l.aft j else Sn.z
def Lg.bf (l : Lg) (k j : Nat) : Sn := if l.es.length - k ≤ j then l.ahd j else Sn.z
abbrev snRow (f : Nat → Sn) (n : Nat) : List Value := rowOf Sn.cells f n
theorem Lg.af_zero (l : Lg) : splice (snRow (fun _ => Sn.z) (l.es.length + 1)) (l.es.length * 2) [.int .i64 0, .int .i64 l.tk.full] = snRow (l.af 0) (l.es.length + 1) :=
  rowOf_splice sn_len (by omega) (by unfold Lg.af; rw [if_pos (by omega), l.aft_n]; rfl) fun j hj hne => by unfold Lg.af; rw [if_neg (by omega)]
theorem Lg.af_succ (l : Lg) {k : Nat} (hk : k < l.es.length) : splice (snRow (l.af k) (l.es.length + 1)) ((l.es.length - 1 - k) * 2) [.int .i64 (l.ahd (l.es.length - 1 - k)).lo, .int .i64 (min l.tk.full ((l.ahd (l.es.length - 1 - k)).hi + l.drip (l.es.length - 1 - k)))] = snRow (l.af (k + 1)) (l.es.length + 1) :=
  rowOf_splice sn_len (by omega) (by unfold Lg.af; rw [if_pos (by omega), l.aft_lt (by omega)]; rfl) fun j hj hne => by
    unfold Lg.af
    by_cases h : l.es.length - k ≤ j
    · rw [if_pos h, if_pos (by omega)]
    · rw [if_neg h, if_neg (by omega)]
theorem Lg.bf_zero (l : Lg) : snRow (fun _ => Sn.z) l.es.length = snRow (l.bf 0) l.es.length :=
  rowOf_congr _ fun j hj => by unfold Lg.bf; rw [if_neg (by omega)]
theorem Lg.bf_succ (l : Lg) {k : Nat} (hk : k < l.es.length) : splice (snRow (l.bf k) l.es.length) ((l.es.length - 1 - k) * 2) (l.ahd (l.es.length - 1 - k)).cells = snRow (l.bf (k + 1)) l.es.length :=
  rowOf_splice sn_len (by omega) (by unfold Lg.bf; rw [if_pos (by omega)]) fun j hj hne => by
    unfold Lg.bf
    by_cases h : l.es.length - k ≤ j
    · rw [if_pos h, if_pos (by omega)]
    · rw [if_neg h, if_neg (by omega)]
theorem Lg.af_end (l : Lg) : snRow (l.af l.es.length) (l.es.length + 1) = snRow l.aft (l.es.length + 1) := rowOf_congr _ fun j hj => by unfold Lg.af; rw [if_pos (by omega)]
theorem Lg.bf_end (l : Lg) : snRow (l.bf l.es.length) l.es.length = snRow l.ahd l.es.length := rowOf_congr _ fun j hj => by unfold Lg.bf; rw [if_pos (by omega)]
def BackV (l : Lg) (v : Value) (Hn : List Blk) : Prop :=
  ∃ ab bb, v = .tuple #[.slice (some ⟨ab, 0, none⟩) (l.es.length + 1) (l.es.length + 1), .slice (some ⟨bb, 0, none⟩) l.es.length l.es.length] ∧ Hn = [(ab, CB (snRow l.aft (l.es.length + 1)) 26), (bb, CB (snRow l.ahd l.es.length) 26)]
def backF (kind : Int) : FuncId := if kind = 1 then 137 else if kind = 2 then 136 else 139
theorem back_call (kind : Int) : ∀ args w, (callFunc (backF kind) args).run Try.prog w = .ok (.enter (backF kind) args) w := by
  unfold backF
  split
  · exact Try.call137
  · split
    · exact Try.call136
    · exact Try.call139
theorem back_cell (g : Nat) (l : Lg) (a : Option Addr) (cap : Nat) (ae : Option Addr) (cape : Nat) (k : Nat) (h : 1 ≤ k ∧ k ≤ 3) : (bookCells g l a cap ae cape)[7 + k * 3 + 2]? = some (.func (.func (backF (k : Int))) #[] #[]) := by
  obtain rfl | rfl | rfl : k = 1 ∨ k = 2 ∨ k = 3 := by omega
  · rfl
  · rfl
  · rfl
theorem backF_any (l : Lg) (i : Nat) (g og : Nat) (s : Sn) (w : World) (hok : l.Ok) (hi : i < l.es.length) (hG : Gg w g og l.tk) (hs : s.Sm) :
    Ct Try.prog (backF (l.e i).kind) #[.pointer (some ⟨g, og, none⟩), .agg (l.e i).size.cells.toArray, .agg s.cells.toArray] w fun v _ => v = .agg (l.tk.back (l.e i) s).cells.toArray := by
  have hz := hok.sm hi
  have hq := hok.size i hi
  have hkd := hok.kind i hi
  unfold backF Tk.back
  split
  · exact tless_any g og l.tk (l.e i).size s w hG hz hs
  · split
    · exact more_any g og l.tk (l.e i).size s w hG hz hs
    · unfold Tk.most at hq
      rw [if_pos (by omega)] at hq
      exact seen_any g og l.tk (l.e i).size s w hG hq
theorem infSpan : (Try.prog.info? 26).map (fun i => (i.zero, i.size, i.bytes)) = some (some (.agg #[.int .i64 0, .int .i64 0]), 2, 16) := by kernel_rfl

theorem back_any (bk : Nat) (l : Lg) (w : World) (hB : Bk w bk l) : Ct Try.prog 128 #[.pointer (some ⟨bk, 0, none⟩)] w (BackV l) := by
  have hok := hB.ok
  have hB0 := hB
  obtain ⟨_, g, a, cap, ae, cape, h1, hG, h3⟩ := hB
  have hn := hok.n12
  have ⟨_, a2, cap2, hg, _⟩ := hG
  have hF := wide_wide
  refine Ct_start (args := [_]) Try.func128 (by rfl) Try.ntmps128 (by rfl) ?_
  refine W_seq ?_
  refine W_region_lit (fun ds => ?_)
  refine WS_new hF (by rfl) (y_box (by rfl)) (fun b1 => ?_)
  refine WS_new hF (by rfl) (y_alloc Try.zeroValue90 (by rfl)) (fun b2 => ?_)
  refine WS_new hF (by rfl) (y_alloc Try.zeroValue90 (by rfl)) (fun b3 => ?_)
  refine WS_nil ?_
  refine Then_normal ?_
  refine W_seq ?_
  refine W_region_lit (fun ds => ?_)
  refine WS_det hF (by rfl) (y_load1 (by rfl) Try.isAgg108 (Mem.own1 2 (by rfl) (by rfl))) ?_
  refine WS_det hF (by rfl) (by first | exact y_nilCheck (by rfl) | exact y_nilCheckF (by rfl)) ?_
  refine WS_det hF (by rfl) (y_fieldAddr (by rfl) fa119_1) ?_
  refine WS_det hF (by rfl) (y_fieldAddr (by rfl) fa46_2) ?_
  refine WS_det hF (by rfl) (y_load1 (by rfl) Try.isAgg44 (by first | exact Mem.old1 (by assumption) | exact Mem.oldAt1 (by assumption) (by rfl) | exact Mem.old (by assumption) | exact Mem.oldAtL1 (by assumption) (by rfl) (by rfl))) ?_
  refine WS_det hF (by rfl) (y_len (by rfl) Try.runUnderlying44) ?_
  refine WS_det hF (by rfl) (y_assign (c := .int .i64 _) (by rfl)) ?_
  refine WS_nil ?_
  refine Then_normal ?_
  refine W_seq ?_
  apply W_drawMT 6 hF Trymixed [Pre.dep 1000000 b2 _ 15 _ _] [1000000] [1000000] (by rfl) (by decide +kernel) (by decide) (fun _ _ h => h.perm (perm_erase (i := 1) (by rfl)).symm)
  intro ds
  refine P_det (by rfl) (Over_out (by rfl) (Over_nil (y_move (c := .int .i64 _) (by rfl)))) ?_
  refine P_det (by rfl) (Over_out (by rfl) (Over_nil (y_add (by rfl) (by rfl) (by unfold I64; omega)))) ?_
  refine P_new (by rfl) (by rfl) (Over_out (by rfl) (Over_nil (y_makeSlice (n := l.es.length + 1) (by rfl) (by rfl) (by omega) (by omega) Try.underlying90 infSpan (by rfl) (by rfl) (by omega) (by omega)))) ?_
  refine P_det (by rfl) (Over_out (by rfl) (Over_out (by rfl) (Over_nil (y_move (c := .int .i64 _) (by rfl))))) ?_
  refine P_new (by rfl) (by rfl) (Over_out (by rfl) (Over_out (by rfl) (Over_nil (y_makeSlice (n := l.es.length) (by rfl) (by rfl) (by omega) (by omega) Try.underlying90 infSpan (by rfl) (by rfl) (by omega) (by omega))))) ?_
  refine P_st 1000000 2 (by rfl) (by rfl) (by rfl) (by rfl) (by rfl) (Over_out (by rfl) (Over_in (by rfl) (Over_nil (by rintro _ _ ⟨b6, rfl, rfl⟩; exact (st_preD (fun _ => by rfl) (by rfl) (by rfl) Try.sizeOf90 (by rfl) (by rfl) (by first | decide | exact Nat.le_of_ble_eq_true rfl | simp)))))) ?_
  refine PW_end (by rfl) ?_
  refine OverAll_cons (fun w17 l17 => ?_)
  refine OverAll_cons (fun w15 l15 => ?_)
  refine OverAll_cons (fun w1000000 l1000000 => ?_)
  refine OverAll_nil ?_
  rintro ⟨⟨⟨-, h17⟩, h15⟩, h1000000⟩
  obtain ⟨b4, rfl, rfl⟩ := h15
  obtain ⟨b5, rfl, rfl⟩ := h17
  obtain rfl := h1000000
  refine WS_store hF (i := 3) (by rfl) (by rfl) Try.sizeOf90 (by rfl) (by rfl) (by rfl) (by first | decide | exact Nat.le_of_ble_eq_true rfl | simp) ?_
  refine WS_nil ?_
  refine Then_normal ?_
  refine W_seq ?_
  apply W_draw1 hF Trymixed [1000000] (i := 1) (by rfl) (by decide +kernel)
  intro ds
  refine P_det (by rfl) (Over_out (by rfl) (Over_nil (y_load1 (by rfl) Try.isAgg90 (Mem.own1 0 (by rfl) (by rfl))))) ?_
  refine P_det (by rfl) (Over_out (by rfl) (Over_nil (y_move (c := .int .i64 _) (by rfl)))) ?_
  refine P_det (by rfl) (Over_out (by rfl) (Over_nil (y_load1 (by rfl) Try.isAgg108 (Mem.own1 3 (by rfl) (by rfl))))) ?_
  refine P_det (by rfl) (Over_out (by rfl) (Over_nil (by first | exact y_nilCheck (by rfl) | exact y_nilCheckF (by rfl)))) ?_
  refine P_det (by rfl) (Over_out (by rfl) (Over_nil (y_fieldAddr (by rfl) fa119_0))) ?_
  refine P_det (by rfl) (Over_out (by rfl) (Over_nil (y_load1 (by rfl) Try.isAgg93 (by first | exact Mem.old1 (by assumption) | exact Mem.oldAt1 (by assumption) (by rfl) | exact Mem.old (by assumption) | exact Mem.oldAtL1 (by assumption) (by rfl) (by rfl))))) ?_
  refine P_det (by rfl) (Over_out (by rfl) (Over_nil (by first | exact y_nilCheck (by rfl) | exact y_nilCheckF (by rfl)))) ?_
  refine P_det (by rfl) (Over_out (by rfl) (Over_nil (y_fieldAddr (by rfl) fa98_1))) ?_
  refine P_det (by rfl) (Over_out (by rfl) (Over_nil (y_load1 (by rfl) Try.isAgg3 (by first | exact Mem.old1 (by assumption) | exact Mem.oldAt1 (by assumption) (by rfl) | exact Mem.old (by assumption) | exact Mem.oldAtL1 (by assumption) (by rfl) (by rfl))))) ?_
  refine P_det (by rfl) (Over_out (by rfl) (Over_nil (y_buildL bd26_1 (by rfl)))) ?_
  refine P_det (by rfl) (Over_out (by rfl) (Over_nil (y_index (k := l.es.length) (by rfl) (by rfl) (by first | rfl | omega) (by first | decide | omega) Try.runUnderlying90 Try.sizeOf26))) ?_
  refine P_st 1000000 0 (by rfl) (by rfl) (by rfl) (by rfl) (by rfl) (Over_nil (st_pre (fun _ => by rfl) (fun _ => by rfl) Try.sizeOf26 (by rfl) (by rfl) (by show 0 + l.es.length * 2 + 2 ≤ (snRow (fun _ => Sn.z) (l.es.length + 1)).length; rw [rowOf_len sn_len]; omega))) ?_
  refine PW_end (by rfl) ?_
  refine OverAll_cons (fun w1000000 l1000000 => ?_)
  refine OverAll_nil ?_
  rintro ⟨-, h1000000⟩
  obtain rfl := h1000000
  refine Then_normal ?_
  refine W_seq ?_
  refine W_seq ?_
  refine W_region_lit (fun ds => ?_)
  refine WS_det hF (by rfl) (y_load1 (by rfl) Try.isAgg108 (Mem.own1 4 (by rfl) (by rfl))) ?_
  refine WS_det hF (by rfl) (by first | exact y_nilCheck (by rfl) | exact y_nilCheckF (by rfl)) ?_
  refine WS_det hF (by rfl) (y_fieldAddr (by rfl) fa119_1) ?_
  refine WS_det hF (by rfl) (y_fieldAddr (by rfl) fa46_2) ?_
  refine WS_det hF (by rfl) (y_load1 (by rfl) Try.isAgg44 (by first | exact Mem.old1 (by assumption) | exact Mem.oldAt1 (by assumption) (by rfl) | exact Mem.old (by assumption) | exact Mem.oldAtL1 (by assumption) (by rfl) (by rfl))) ?_
  refine WS_gen hF (by rfl) (y_callL (by rfl) (by rfl) Try.call141 (fun w hw => backward_any ae l.es.length cape w)) ?_
  rintro _ _ ⟨bx, rfl, rfl⟩
  refine WS_nil ?_
  refine Then_normal ?_
  refine W_block ?_
  refine W_range hF (by rfl) (encs := (fun k => [.int .i64 ((l.es.length : Int) - 1 - (k : Int)), .agg (l.es.getD (l.es.length - 1 - k) En.z).cells.toArray])) (N := l.es.length) (H0 := [(bx, CB [.slice ae l.es.length cape] 44)]) (G0 := [(b4, _), (b2, _), (b5, _), (b3, _), (b1, _)]) (fun k G => G = [(b4, CB (snRow (l.af k) (l.es.length + 1)) 26), (b2, CB [.slice (some ⟨b4, 0, none⟩) (l.es.length + 1) (l.es.length + 1)] 90), (b5, CB (snRow (l.bf k) l.es.length) 26), (b3, CB [.slice (some ⟨b5, 0, none⟩) l.es.length l.es.length] 90), (b1, CB [.pointer (some ⟨bk, 0, none⟩)] 108)]) (fun _ _ _ => False) (by rfl) Try.call143 (by rfl) (fun _ => rfl) (fun ds => backward_it _ _ _ bx l.es.length ae cape l.es (by omega) h3) (by rw [← l.bf_zero, ← l.af_zero]; rw [Nat.zero_add]; rfl) (HSub.refl) ?_ ?_ ?_
  · rintro k hk G hj out lpr R R'
    have hF := wide_inRound wide_wide lpr
    subst hj
    have hi : l.es.length - 1 - k < l.es.length := by omega
    obtain ⟨kk, hkk⟩ : ∃ kk : Nat, (l.e (l.es.length - 1 - k)).kind = (kk : Int) := Int.eq_ofNat_of_zero_le (by have := hok.kind _ hi; omega)
    have hkd := hok.kind _ hi
    have hab := hok.aft_bd (i := l.es.length - 1 - k + 1) (by omega)
    have hhb := hok.ahd_bd hi
    have hdb := hok.drip_bd hi
    have hafe : l.af k (l.es.length - 1 - k + 1) = l.aft (l.es.length - 1 - k + 1) := by unfold Lg.af; rw [if_pos (by omega)]
    have hbfe : l.bf (k + 1) (l.es.length - 1 - k) = l.ahd (l.es.length - 1 - k) := by unfold Lg.bf; rw [if_pos (by omega)]
    have hs1 := l.bf_succ hk
    have hs2 := l.af_succ hk
    rw [← Nat.zero_add ((l.es.length - 1 - k) * 2)] at hs1 hs2
    have hfull := hok.tk.full_bd
    have hkk2 : (l.es.getD (l.es.length - 1 - k) En.z).kind = (kk : Int) := hkk
    have hik : (l.es.length : Int) - 1 - (k : Int) = ((l.es.length - 1 - k : Nat) : Int) := by omega
    refine W_seq ?_
    refine W_region_lit (fun ds => ?_)
    refine WS_det hF (by rfl) (y_assign (c := .int .i64 _) (by rfl)) ?_
    refine WS_nil ?_
    refine Then_normal ?_
    refine W_region_lit (fun ds => ?_)
    refine WS_new hF (by rfl) (y_alloc Try.zeroValue48 (by rfl)) (fun b7 => ?_)
    refine WS_store hF (i := 0) (by rfl) (by rfl) Try.sizeOf48 (by rfl) (by rfl) (by rfl) (by first | decide | exact Nat.le_of_ble_eq_true rfl | simp) ?_
    refine WS_nil ?_
    refine Then_normal ?_
    refine ⟨[_, _, _, _, _, _], rfl, ?_⟩
    refine W_block ?_
    refine W_seq ?_
    apply W_draw1 hF Trymixed [1000000] (i := 3) (by rfl) (by decide +kernel)
    intro ds
    refine P_det (by rfl) (Over_out (by rfl) (Over_nil (y_load1 (by rfl) Try.isAgg90 (Mem.own1 3 (by rfl) (by rfl))))) ?_
    refine P_det (by rfl) (Over_out (by rfl) (Over_nil (y_move (c := .int .i64 _) (by rfl)))) ?_
    refine P_det (by rfl) (Over_out (by rfl) (Over_nil (y_load1 (by rfl) Try.isAgg108 (Mem.own1 4 (by rfl) (by rfl))))) ?_
    refine P_det (by rfl) (Over_out (by rfl) (Over_nil (y_fieldAddr (by rfl) fa48_1))) ?_
    refine P_det (by rfl) (Over_out (by rfl) (Over_nil (y_load1 (by rfl) Try.isAgg3 (Mem.own1 0 (by rfl) (by rfl))))) ?_
    refine P_det (by rfl) (Over_out (by rfl) (Over_nil (by first | exact y_nilCheck (by rfl) | exact y_nilCheckF (by rfl)))) ?_
    refine P_det (by rfl) (Over_out (by rfl) (Over_nil (y_fieldAddr (by rfl) fa119_2))) ?_
    refine P_det (by rfl) (Over_out (by rfl) (Over_nil (y_indexA (k := kk) (by rfl) (by rfl) (by first | rfl | omega) (by first | decide | omega) Try.runUnderlying117 Try.sizeOf116))) ?_
    refine P_det (by rfl) (Over_out (by rfl) (Over_nil (y_fieldAddr (by rfl) fa116_2))) ?_
    refine P_det (by rfl) (Over_out (by rfl) (Over_nil (y_load1 (by rfl) Try.isAgg114 (Mem.oldAtL1 (o := 0) (p := 0 + 7 + kk * 3 + 2) h1 (by simp) (by rw [show 0 + 7 + kk * 3 + 2 - 0 = 7 + kk * 3 + 2 by omega]; exact back_cell g l a cap ae cape kk (by omega)))))) ?_
    refine P_det (by rfl) (Over_out (by rfl) (Over_nil (y_load1 (by rfl) Try.isAgg108 (Mem.own1 4 (by rfl) (by rfl))))) ?_
    refine P_det (by rfl) (Over_out (by rfl) (Over_nil (by first | exact y_nilCheck (by rfl) | exact y_nilCheckF (by rfl)))) ?_
    refine P_det (by rfl) (Over_out (by rfl) (Over_nil (y_fieldAddr (by rfl) fa119_0))) ?_
    refine P_det (by rfl) (Over_out (by rfl) (Over_nil (y_load1 (by rfl) Try.isAgg93 (by first | exact Mem.old1 (by assumption) | exact Mem.oldAt1 (by assumption) (by rfl) | exact Mem.old (by assumption) | exact Mem.oldAtL1 (by assumption) (by rfl) (by rfl))))) ?_
    refine P_det (by rfl) (Over_out (by rfl) (Over_nil (y_fieldAddr (by rfl) fa48_2))) ?_
    refine P_det (by rfl) (Over_out (by rfl) (Over_nil (y_loadN (by rfl) Try.isAgg26 Try.sizeOf26 (Mem.own (us := [.int .i64 _, .int .i64 _]) 0 (by rfl) (by rfl)) (by rfl)))) ?_
    refine P_det (by rfl) (Over_out (by rfl) (Over_nil (y_load1 (by rfl) Try.isAgg90 (Mem.own1 2 (by rfl) (by rfl))))) ?_
    refine P_det (by rfl) (Over_out (by rfl) (Over_nil (y_move (c := .int .i64 _) (by rfl)))) ?_
    refine P_det (by rfl) (Over_out (by rfl) (Over_nil (y_add (by rfl) (by rfl) (by unfold I64; omega)))) ?_
    refine P_det (by rfl) (Over_out (by rfl) (Over_nil (y_index (k := l.es.length - 1 - k + 1) (by rfl) (by rfl) (by first | rfl | omega) (by first | decide | omega) Try.runUnderlying90 Try.sizeOf26))) ?_
    refine P_det (by rfl) (Over_out (by rfl) (Over_nil (y_loadN (by rfl) Try.isAgg26 Try.sizeOf26 (Mem.row sn_len 1 (by rfl) (k := l.es.length - 1 - k + 1) (by omega) hafe (by omega)) (by rfl)))) ?_
    refine P_det (by rfl) (Over_out (by rfl) (Over_nil (y_callL (by rfl) (by rfl) (back_call _) (fun w hw => by rw [← hkk]; exact backF_any l (l.es.length - 1 - k) g 0 (l.aft (l.es.length - 1 - k + 1)) w hok (by omega) (hG.st w hw) (by unfold Sn.Sm; omega))))) ?_
    refine P_det (by rfl) (Over_out (by rfl) (Over_nil (y_index (k := l.es.length - 1 - k) (by rfl) (by rfl) (by first | rfl | omega) (by first | decide | omega) Try.runUnderlying90 Try.sizeOf26))) ?_
    refine P_st 1000000 0 (by rfl) (by rfl) (by rfl) (by rfl) (by rfl) (Over_nil (st_pre (fun _ => by rfl) (fun _ => by rfl) Try.sizeOf26 (by rfl) (by rfl) (by show 0 + (l.es.length - 1 - k) * 2 + 2 ≤ (snRow (l.bf k) l.es.length).length; rw [rowOf_len sn_len]; omega))) ?_
    refine PW_end (by rfl) ?_
    refine OverAll_cons (fun w1000000 l1000000 => ?_)
    refine OverAll_nil ?_
    rintro ⟨-, h1000000⟩
    obtain rfl := h1000000
    refine Then_normal ?_
    refine W_H (congrArg (fun x => (b5, CB x 26) :: _) hs1) ?_
    apply W_draw1 hF Trymixed [1000000] (i := 2) (by rfl) (by decide +kernel)
    intro ds
    refine P_det (by rfl) (Over_out (by rfl) (Over_nil (y_load1 (by rfl) Try.isAgg90 (Mem.own1 2 (by rfl) (by rfl))))) ?_
    refine P_det (by rfl) (Over_out (by rfl) (Over_nil (y_move (c := .int .i64 _) (by rfl)))) ?_
    refine P_det (by rfl) (Over_out (by rfl) (Over_nil (y_load1 (by rfl) Try.isAgg90 (Mem.own1 3 (by rfl) (by rfl))))) ?_
    refine P_det (by rfl) (Over_out (by rfl) (Over_nil (y_move (c := .int .i64 _) (by rfl)))) ?_
    refine P_det (by rfl) (Over_out (by rfl) (Over_nil (y_index (k := l.es.length - 1 - k) (by rfl) (by rfl) (by first | rfl | omega) (by first | decide | omega) Try.runUnderlying90 Try.sizeOf26))) ?_
    refine P_det (by rfl) (Over_out (by rfl) (Over_nil (y_fieldAddr (by rfl) fa26_0))) ?_
    refine P_det (by rfl) (Over_out (by rfl) (Over_nil (y_load1 (by rfl) Try.isAgg3 (Mem.rowAt sn_len 0 (by rfl) (k := l.es.length - 1 - k) (j := 0) (by omega) hbfe (by rfl) (by omega))))) ?_
    refine P_det (by rfl) (Over_out (by rfl) (Over_nil (y_load1 (by rfl) Try.isAgg108 (Mem.own1 4 (by rfl) (by rfl))))) ?_
    refine P_det (by rfl) (Over_out (by rfl) (Over_nil (by first | exact y_nilCheck (by rfl) | exact y_nilCheckF (by rfl)))) ?_
    refine P_det (by rfl) (Over_out (by rfl) (Over_nil (y_fieldAddr (by rfl) fa119_0))) ?_
    refine P_det (by rfl) (Over_out (by rfl) (Over_nil (y_load1 (by rfl) Try.isAgg93 (by first | exact Mem.old1 (by assumption) | exact Mem.oldAt1 (by assumption) (by rfl) | exact Mem.old (by assumption) | exact Mem.oldAtL1 (by assumption) (by rfl) (by rfl))))) ?_
    refine P_det (by rfl) (Over_out (by rfl) (Over_nil (by first | exact y_nilCheck (by rfl) | exact y_nilCheckF (by rfl)))) ?_
    refine P_det (by rfl) (Over_out (by rfl) (Over_nil (y_fieldAddr (by rfl) fa98_1))) ?_
    refine P_det (by rfl) (Over_out (by rfl) (Over_nil (y_load1 (by rfl) Try.isAgg3 (by first | exact Mem.old1 (by assumption) | exact Mem.oldAt1 (by assumption) (by rfl) | exact Mem.old (by assumption) | exact Mem.oldAtL1 (by assumption) (by rfl) (by rfl))))) ?_
    refine P_det (by rfl) (Over_out (by rfl) (Over_nil (y_load1 (by rfl) Try.isAgg90 (Mem.own1 3 (by rfl) (by rfl))))) ?_
    refine P_det (by rfl) (Over_out (by rfl) (Over_nil (y_move (c := .int .i64 _) (by rfl)))) ?_
    refine P_det (by rfl) (Over_out (by rfl) (Over_nil (y_index (k := l.es.length - 1 - k) (by rfl) (by rfl) (by first | rfl | omega) (by first | decide | omega) Try.runUnderlying90 Try.sizeOf26))) ?_
    refine P_det (by rfl) (Over_out (by rfl) (Over_nil (y_fieldAddr (by rfl) fa26_1))) ?_
    refine P_det (by rfl) (Over_out (by rfl) (Over_nil (y_load1 (by rfl) Try.isAgg3 (Mem.rowAt sn_len 0 (by rfl) (k := l.es.length - 1 - k) (j := 1) (by omega) hbfe (by rfl) (by omega))))) ?_
    refine P_det (by rfl) (Over_out (by rfl) (Over_nil (y_load1 (by rfl) Try.isAgg108 (Mem.own1 4 (by rfl) (by rfl))))) ?_
    refine P_det (by rfl) (Over_out (by rfl) (Over_nil (y_move (c := .int .i64 _) (by rfl)))) ?_
    refine P_det (by rfl) (Over_out (by rfl) (Over_nil (y_callL (by rfl) (by rw [← hik]; rfl) Try.call111 (fun w hw => drip_any bk l (l.es.length - 1 - k) w (hB0.st w hw) (by omega))))) ?_
    refine P_det (by rfl) (Over_out (by rfl) (Over_nil (y_add (by rfl) (by rfl) (by unfold I64; omega)))) ?_
    refine P_det (by rfl) (Over_out (by rfl) (Over_nil (y_min (by rfl) (by rfl)))) ?_
    refine P_det (by rfl) (Over_out (by rfl) (Over_nil (y_buildL bd26_0_1 (by rfl)))) ?_
    refine P_det (by rfl) (Over_out (by rfl) (Over_nil (y_index (k := l.es.length - 1 - k) (by rfl) (by rfl) (by first | rfl | omega) (by first | decide | omega) Try.runUnderlying90 Try.sizeOf26))) ?_
    refine P_st 1000000 0 (by rfl) (by rfl) (by rfl) (by rfl) (by rfl) (Over_nil (st_pre (fun _ => by rfl) (fun _ => by rfl) Try.sizeOf26 (by rfl) (by rfl) (by show 0 + (l.es.length - 1 - k) * 2 + 2 ≤ (snRow (l.af k) (l.es.length + 1)).length; rw [rowOf_len sn_len]; omega))) ?_
    refine PW_end (by rfl) ?_
    refine OverAll_cons (fun w1000000 l1000000 => ?_)
    refine OverAll_nil ?_
    rintro ⟨-, h1000000⟩
    obtain rfl := h1000000
    refine InB_normal ?_
    refine ⟨[_, _, _, _, _], (SubP.hsub (SubP.pick 0 (by rfl) (SubP.pick 2 (by rfl) (SubP.pick 0 (by rfl) (SubP.pick 1 (by rfl) (SubP.pick 1 (by rfl) (by exact SubP.drop (SubP.refl)))))))), ?_⟩
    exact congrArg (fun x => (b4, CB x 26) :: _) hs2
  · rintro G hj
    subst hj
    refine InB_normal ?_
    refine Then_normal ?_
    refine W_seq ?_
    apply W_drawZ 2 1 hF Trymixed [] [] [] (by rfl) (by decide +kernel) (by decide) (by rfl) (by rfl) (by rfl) (by rfl) (by rfl) Try.isAgg90 HSub.refl
    intro ds
    refine P_det (by rfl) (Over_nil (y_load1 (by rfl) Try.isAgg90 (Mem.own1 2 (by rfl) (by rfl)))) ?_
    refine P_det (by rfl) (Over_nil (y_load1 (by rfl) Try.isAgg90 (Mem.own1 4 (by rfl) (by rfl)))) ?_
    refine PW_end (by rfl) ?_
    refine OverAll_nil ?_
    rintro -
    refine ⟨?_, fun xz => ?_⟩
    ·
      refine WS_store hF (i := 2) (by rfl) (by rfl) Try.sizeOf90 (by rfl) (by rfl) (by rfl) (by first | decide | exact Nat.le_of_ble_eq_true rfl | simp) ?_
      refine WS_store hF (i := 4) (by rfl) (by rfl) Try.sizeOf90 (by rfl) (by rfl) (by rfl) (by first | decide | exact Nat.le_of_ble_eq_true rfl | simp) ?_
      refine WS_nil ?_
      refine Then_normal ?_
      refine W_ret ?_
      refine Fin_ret [_, _] [(b4, _), (b5, _)] Try.results128 ⟨lv1 (by rfl) Try.isAgg90 (Mem.own1 2 (by rfl) (by rfl)), lv1 (by rfl) Try.isAgg90 (Mem.own1 4 (by rfl) (by rfl)), trivial⟩ ((SubP.hsub (SubP.pick 1 (by rfl) (SubP.pick 2 (by rfl) (SubP.nil))))) ?_
      exact ⟨b4, b5, rfl, by rw [← l.af_end, ← l.bf_end]⟩
    ·
      refine WS_store hF (i := 2) (by rfl) (by rfl) Try.sizeOf90 (by rfl) (by rfl) (by rfl) (by first | decide | exact Nat.le_of_ble_eq_true rfl | simp) ?_
      refine WS_det hF (by rfl) (y_load1 (by rfl) Try.isAgg90 (Mem.own1 4 (by rfl) (by rfl))) ?_
      refine WS_store hF (i := 4) (by rfl) (by rfl) Try.sizeOf90 (by rfl) (by rfl) (by rfl) (by first | decide | exact Nat.le_of_ble_eq_true rfl | simp) ?_
      refine WS_nil ?_
      refine Then_normal ?_
      refine W_ret ?_
      refine Fin_ret [_, _] [(b4, _), (b5, _)] Try.results128 ⟨lv1 (by rfl) Try.isAgg90 (Mem.own1 2 (by rfl) (by rfl)), lv1 (by rfl) Try.isAgg90 (Mem.own1 4 (by rfl) (by rfl)), trivial⟩ ((SubP.hsub (SubP.pick 1 (by rfl) (SubP.pick 2 (by rfl) (SubP.nil))))) ?_
      exact ⟨b4, b5, rfl, by rw [← l.af_end, ← l.bf_end]⟩
  · rintro c k G hk hj
    exact hj.elim
end Go.Proofs.Ythkimgfgpphgnaa.T

/- What is known of a log: the walk of asked. -/
namespace Go.Proofs.Ythkimgfgpphgnaa.T
open Go.RowKit Go.Proofs Go.Eng
set_option maxRecDepth 100000
set_option linter.unusedVariables false
set_option linter.unusedSimpArgs false

theorem bd127_0 {x0 : Option Addr} : ∀ w, (Instr.build 127 #[(0, .pointer x0)]).run Try.prog w = .ok (.agg #[.pointer x0, .slice none 0 0, .slice none 0 0, .slice none 0 0]) w := fun w => by kernel_rfl
theorem bs90_1_0 {x0_0 : Int} {x0_1 : Int} : ∀ w, (Instr.buildSlice 90 1 #[(0, .agg #[.int .i64 x0_0, .int .i64 x0_1])]).run Try.prog w = .ok (.slice (some ⟨w.heap.size, 0, none⟩) 1 1) (w.alloc (CB [.int .i64 x0_0, .int .i64 x0_1] 26)) := fun w => by kernel_rfl
theorem fa127_1 : ∀ b o w, (Instr.fieldAt 127 (.pointer (some ⟨b, o, none⟩)) 1).run Try.prog w = .ok (.pointer (some ⟨b, o + 1, none⟩)) w := fun b o w => by kernel_rfl
theorem fa127_2 : ∀ b o w, (Instr.fieldAt 127 (.pointer (some ⟨b, o, none⟩)) 2).run Try.prog w = .ok (.pointer (some ⟨b, o + 2, none⟩)) w := fun b o w => by kernel_rfl
theorem fa127_3 : ∀ b o w, (Instr.fieldAt 127 (.pointer (some ⟨b, o, none⟩)) 3).run Try.prog w = .ok (.pointer (some ⟨b, o + 3, none⟩)) w := fun b o w => by kernel_rfl

def Lg.holdsB (l : Lg) : Bool := (List.range (l.es.length + 1)).all fun k => !(l.hold k).empty
theorem Lg.holdsB_iff (l : Lg) : l.holdsB = true ↔ ∀ k, k ≤ l.es.length → (l.hold k).empty = false := by
  unfold Lg.holdsB
  simp only [List.all_eq_true, List.mem_range, Bool.not_eq_true']
  constructor
  · intro h k hk; exact h k (by omega)
  · intro h k hk; exact h k (by omega)
def Lg.aerr (l : Lg) : Int := if l.err = 0 then if l.holdsB then 0 else 8 else l.err
theorem Lg.steps_le (l : Lg) : ∀ m k, l.steps k m ≤ m + 1
  | 0, _ => Nat.le_refl _
  | m + 1, k => by
    have := Lg.steps_le l m (k + 1)
    unfold Lg.steps
    split <;> omega
theorem Lg.steps_full (l : Lg) : ∀ m k, (∀ j, k ≤ j → j < k + l.steps k m → (l.hold j).empty = false) → l.steps k m = m + 1
  | 0, _, _ => rfl
  | m + 1, k, h => by
    have hk := h k (Nat.le_refl _) (by have := l.steps_pos k (m + 1); omega)
    rw [l.steps_more hk] at h ⊢
    rw [Lg.steps_full l m (k + 1) fun j h1 h2 => h j (by omega) (by omega)]
    omega
theorem Lg.times_le (l : Lg) : l.times ≤ l.es.length + 1 := l.steps_le _ _
theorem Lg.times_full (l : Lg) (h : ∀ j, j < l.times → (l.hold j).empty = false) : l.times = l.es.length + 1 := l.steps_full _ _ fun j _ h2 => h j (by unfold Lg.times; omega)
def knownCells (bk fb : Nat) (capf : Nat) (ab bb n : Nat) : List Value := [.pointer (some ⟨bk, 0, none⟩), .slice (some ⟨fb, 0, none⟩) (n + 1) capf, .slice (some ⟨ab, 0, none⟩) (n + 1) (n + 1), .slice (some ⟨bb, 0, none⟩) n n]
/-- The blocks of what is known. -/
def KB (l : Lg) (a : Option Addr) (cap : Nat) (ae : Option Addr) (cape : Nat) (kb : Nat) (Hn : List Blk) : Prop :=
  ∃ bk g fb capf junk ab bb, Hn = [(kb, CB (knownCells bk fb capf ab bb l.es.length) 127), (fb, CB (snRow l.hold (l.es.length + 1) ++ junk) 26), (ab, CB (snRow l.aft (l.es.length + 1)) 26), (bb, CB (snRow l.ahd l.es.length) 26), (bk, CB (bookCells g l a cap ae cape) 119), (g, CB (gaugeCells l.tk a cap) 98)]
def AskV (l : Lg) (a : Option Addr) (cap : Nat) (ae : Option Addr) (cape : Nat) (v : Value) (Hn : List Blk) : Prop :=
  ∃ p, v = .tuple #[.pointer p, .int .i64 l.aerr] ∧ (l.aerr = 0 → ∃ kb, p = some ⟨kb, 0, none⟩ ∧ KB l a cap ae cape kb Hn) ∧ (l.aerr ≠ 0 → Hn = [])
theorem Tk.entsB_get (t : Tk) : ∀ (es : List En) (day : Int), t.entsB day es = true → ∀ k, k < es.length → t.entB (if k = 0 then day else (es.getD (k - 1) En.z).day) (es.getD k En.z) = true
  | [], _, _, k, hk => by simp at hk
  | x :: es, day, h, k, hk => by
    unfold Tk.entsB at h
    rw [Bool.and_eq_true] at h
    cases k with
    | zero => simpa using h.1
    | succ k =>
      have := Tk.entsB_get t es x.day h.2 k (by simpa using hk)
      cases k with
      | zero => simpa using this
      | succ k => simpa using this
theorem Lg.ok_of (l : Lg) (h : l.err = 0) : l.Ok := by
  unfold Lg.err at h
  split at h
  · rename_i ht
    split at h
    · rename_i hl
      unfold Lg.okB at hl
      simp only [Bool.and_eq_true, decide_eq_true_eq] at hl
      obtain ⟨⟨h1, h2⟩, h3⟩ := hl
      have hg := l.tk.entsB_get l.es 0 h3
      have hd : ∀ k, k < l.es.length → inB (l.dayAt k) 3652 [(l.e k).day] = true ∧ inB 1 3 [(l.e k).kind] = true ∧ (l.e k).size.inB (l.tk.most (l.e k).kind) = true := fun k hk => by
        have := hg k hk
        unfold Tk.entB at this
        simp only [Bool.and_eq_true] at this
        exact ⟨this.1.1, this.1.2, this.2⟩
      have hday : ∀ k, k < l.es.length → 0 ≤ l.dayAt k ∧ l.dayAt k ≤ (l.e k).day ∧ (l.e k).day ≤ 3652 := by
        intro k
        induction k with
        | zero => intro hk; have := inB1.1 (hd 0 hk).1; exact ⟨Int.le_refl _, this⟩
        | succ k ih =>
          intro hk
          have h4 := inB1.1 (hd (k + 1) hk).1
          have h5 := ih (by omega)
          refine ⟨?_, h4⟩
          show 0 ≤ (l.e (k + 1 - 1)).day
          rw [Nat.add_sub_cancel]; omega
      refine ⟨Tk.ok_iff.1 ht, h1, h2, fun k hk => ?_, fun k hk => ?_, fun k hk => inB1.1 (hd k hk).2.1, fun k hk => (hd k hk).2.2⟩
      · have := hday k hk; omega
      · have := (hday (k + 1) hk).2.1
        exact this
    · cases h
  · cases h

theorem asked_any (l : Lg) (a : Option Addr) (cap : Nat) (ae : Option Addr) (cape : Nat) (w : World) (hn : l.tk.n ≤ 1000000) (hx : Ints w a l.tk.n cap l.tk.pints) (he : Ens w ae l.es.length cape l.es) :
    Ct Try.prog 88 #[.agg #[.slice a l.tk.n cap, .int .i64 l.tk.leak, .int .i64 l.tk.foot, .int .i64 l.start.lo, .int .i64 l.start.hi, .slice ae l.es.length cape]] w (AskV l a cap ae cape) := by
  have hF := wide_wide
  refine Ct_start (args := [_]) Try.func88 (by rfl) Try.ntmps88 (by rfl) ?_
  refine W_seq ?_
  refine W_region_lit (fun ds => ?_)
  refine WS_new hF (by rfl) (y_box (by rfl)) (fun b1 => ?_)
  refine WS_new hF (by rfl) (y_alloc Try.zeroValue123 (by rfl)) (fun b2 => ?_)
  refine WS_new hF (by rfl) (y_alloc Try.zeroValue31 (by rfl)) (fun b3 => ?_)
  refine WS_nil ?_
  refine Then_normal ?_
  refine W_seq ?_
  refine W_region_lit (fun ds => ?_)
  refine WS_det hF (by rfl) (y_loadN (by rfl) Try.isAgg46 Try.sizeOf46 (Mem.own (us := [.slice _ _ _, .int .i64 _, .int .i64 _, .int .i64 _, .int .i64 _, .slice _ _ _]) 2 (by rfl) (by rfl)) (by rfl)) ?_
  refine WS_gen hF (by rfl) (y_callL (by rfl) (by rfl) Try.call77 (fun w hw => opened_any l a cap ae cape w hn (hx.st w hw) (he.st w hw))) ?_
  rintro _ Hg ⟨p, rfl, hg1, hg2⟩
  refine WS_det hF (by rfl) (y_move (c := .tuple _) (by rfl)) ?_
  refine WS_det hF (by rfl) (y_extract (c := .pointer _) (by rfl) (by rfl)) ?_
  refine WS_det hF (by rfl) (y_extract (c := .int .i64 _) (by rfl) (by rfl)) ?_
  refine WS_det hF (by rfl) (y_assign (c := .pointer _) (by rfl)) ?_
  refine WS_det hF (by rfl) (y_assign (c := .int .i64 _) (by rfl)) ?_
  refine WS_nil ?_
  refine Then_normal ?_
  refine W_seq ?_
  refine W_seq ?_
  refine W_region_lit (fun ds => ?_)
  refine WS_det hF (by rfl) (y_move (c := .int .i64 _) (by rfl)) ?_
  refine WS_det hF (by rfl) (y_neq (by rfl) (by rfl)) ?_
  refine WS_nil ?_
  refine Then_normal ?_
  refine W_cond (by rfl) (fun c2 => ?_) (fun c2 => ?_)
  ·
    try simp only [Bool.not_eq_true', Bool.not_eq_false', decide_eq_true_eq, decide_eq_false_iff_not, ne_eq, Classical.not_not, Int.not_lt, Int.not_le] at c2
    obtain rfl := hg2 c2
    refine W_seq ?_
    refine W_region_lit (fun ds => ?_)
    refine WS_det hF (by rfl) (y_move (c := .int .i64 _) (by rfl)) ?_
    refine WS_store hF (i := 1) (by rfl) (by rfl) Try.sizeOf123 (by rfl) (by rfl) (by rfl) (by first | decide | exact Nat.le_of_ble_eq_true rfl | simp) ?_
    refine WS_store hF (i := 0) (by rfl) (by rfl) Try.sizeOf31 (by rfl) (by rfl) (by rfl) (by first | decide | exact Nat.le_of_ble_eq_true rfl | simp) ?_
    refine WS_nil ?_
    refine Then_normal ?_
    refine W_ret ?_
    refine Then_ret ?_
    refine Fin_ret [_, _] [] Try.results88 ⟨lv1 (by rfl) Try.isAgg123 (Mem.own1 1 (by rfl) (by rfl)), lv1 (by rfl) Try.isAgg31 (Mem.own1 0 (by rfl) (by rfl)), trivial⟩ HSub.nil ?_
    have ha : l.aerr = l.err := if_neg c2
    refine ⟨none, by rw [ha]; rfl, fun h => absurd (ha ▸ h) c2, fun _ => rfl⟩
  ·
    try simp only [Bool.not_eq_true', Bool.not_eq_false', decide_eq_true_eq, decide_eq_false_iff_not, ne_eq, Classical.not_not, Int.not_lt, Int.not_le] at c2
    obtain ⟨g, bk, rfl, rfl⟩ := hg1 c2
    have hok := l.ok_of c2
    have hn12 := hok.n12
    have htl := l.times_le
    refine W_skip ?_
    refine Then_normal ?_
    refine W_seq ?_
    refine W_region_lit (fun ds => ?_)
    refine WS_det hF (by rfl) (y_move (c := .pointer _) (by rfl)) ?_
    refine WS_det hF (by rfl) (y_buildL bd127_0 (by rfl)) ?_
    refine WS_new hF (by rfl) (y_box (by rfl)) (fun b4 => ?_)
    refine WS_new hF (by rfl) (y_alloc Try.zeroValue123 (by rfl)) (fun b5 => ?_)
    refine WS_store hF (i := 0) (by rfl) (by rfl) Try.sizeOf123 (by rfl) (by rfl) (by rfl) (by first | decide | exact Nat.le_of_ble_eq_true rfl | simp) ?_
    refine WS_nil ?_
    refine Then_normal ?_
    refine W_seq ?_
    refine W_seq ?_
    refine W_region_lit (fun ds => ?_)
    refine WS_det hF (by rfl) (y_move (c := .pointer _) (by rfl)) ?_
    refine WS_gen hF (by rfl) (y_callL (by rfl) (by rfl) Try.call125 (fun w hw => holding_any bk w)) ?_
    rintro _ _ ⟨bx, rfl, rfl⟩
    refine WS_nil ?_
    refine Then_normal ?_
    refine W_block ?_
    refine W_range hF (by rfl) (encs := (fun k => [.int .i64 (k : Int), .agg (l.hold k).cells.toArray])) (N := l.times) (H0 := [(bx, CB [.pointer (some ⟨bk, 0, none⟩)] 108), (bk, CB (bookCells g l a cap ae cape) 119), (g, CB (gaugeCells l.tk a cap) 98)]) (G0 := [_, _, _, _]) (fun k G => ∃ fa fcap Hf, G = (b4, CB [.pointer (some ⟨bk, 0, none⟩), .slice fa k fcap, .slice none 0 0, .slice none 0 0] 127) :: (b5, CB [.pointer (some ⟨b4, 0, none⟩)] 123) :: (b2, CB [.pointer none] 123) :: (b3, CB [.int .i64 0] 31) :: Hf ∧ Row 26 2 fa k fcap (snRow l.hold k) Hf ∧ ∀ j, j < k → (l.hold j).empty = false) (fun c k G => c = .ret ∧ (l.hold (k - 1)).empty = true ∧ G = [(b2, CB [.pointer none] 123), (b3, CB [.int .i64 8] 31)]) (by rfl) Try.call140 (by rfl) (fun _ => rfl) (fun ds => holding_it l _ _ _ bx bk g a cap ae cape hok hx he) (⟨none, 0, [], rfl, Row.nil 26 2, fun j hj => by omega⟩) ((SubP.hsub (SubP.pick 0 (by rfl) (SubP.pick 2 (by rfl) (SubP.pick 2 (by rfl) (SubP.pick 1 (by rfl) (SubP.pick 0 (by rfl) (SubP.pick 1 (by rfl) (SubP.pick 0 (by rfl) (SubP.nil)))))))))) ?_ ?_ ?_
    · rintro k hk G hj out lpr R R'
      have hF := wide_inRound wide_wide lpr
      obtain ⟨fa, fcap, Hf, rfl, hrow, hne⟩ := hj
      refine W_region_lit (fun ds => ?_)
      refine WS_new hF (by rfl) (y_alloc Try.zeroValue26 (by rfl)) (fun b6 => ?_)
      refine WS_store hF (i := 0) (by rfl) (by rfl) Try.sizeOf26 (by rfl) (by rfl) (by rfl) (by first | decide | exact Nat.le_of_ble_eq_true rfl | simp) ?_
      refine WS_nil ?_
      refine Then_normal ?_
      refine ⟨(_ :: _ :: _ :: _ :: _ :: Hf), rfl, ?_⟩
      refine W_block ?_
      refine W_seq ?_
      apply W_drawZ 7 0 hF Trymixed [] [] [] (by rfl) (by decide +kernel) (by decide) (by rfl) (by rfl) (by rfl) (by rfl) (by rfl) Try.isAgg123 HSub.refl
      intro ds
      refine P_det (by rfl) (Over_nil (y_load1 (by rfl) Try.isAgg123 (Mem.own1 2 (by rfl) (by rfl)))) ?_
      refine P_det (by rfl) (Over_nil (y_load1 (by rfl) Try.isAgg123 (Mem.own1 2 (by rfl) (by rfl)))) ?_
      refine P_det (by rfl) (Over_nil (by first | exact y_nilCheck (by rfl) | exact y_nilCheckF (by rfl))) ?_
      refine P_det (by rfl) (Over_nil (y_fieldAddr (by rfl) fa127_1)) ?_
      refine P_det (by rfl) (Over_nil (y_load1 (by rfl) Try.isAgg90 (Mem.own1 1 (by rfl) (by rfl)))) ?_
      refine P_det (by rfl) (Over_nil (y_loadN (by rfl) Try.isAgg26 Try.sizeOf26 (Mem.own (us := [.int .i64 _, .int .i64 _]) 0 (by rfl) (by rfl)) (by rfl))) ?_
      refine P_new (by rfl) (by rfl) (Over_nil (y_buildSliceL bs90_1_0 (by rfl))) ?_
      refine PW_end (by rfl) ?_
      refine OverAll_cons (fun w30 l30 => ?_)
      refine OverAll_nil ?_
      rintro ⟨-, h30⟩
      obtain ⟨b7, rfl, rfl⟩ := h30
      refine ⟨?_, fun xz => ?_⟩
      ·
        refine WS_append hF (H1 := [_, _, _, _, _, _]) (by rfl) (by rfl) (by rfl) Try.underlying90 infSpan (by rfl) (by rfl) hrow (.inr ⟨_, _, rfl, Mem.own (us := [.int _ _, .int _ _]) 0 (by rfl) (by rfl)⟩) (by rfl) (by rfl) (by omega) (by omega) ?_
        intro fa2 fcap2 Hf2 hrow2
        refine WS_det hF (by rfl) (by first | exact y_nilCheck (by rfl) | exact y_nilCheckF (by rfl)) ?_
        refine WS_det hF (by rfl) (y_fieldAddr (by rfl) fa127_1) ?_
        refine WS_store hF (i := 2) (by rfl) (by rfl) Try.sizeOf90 (by rfl) (by rfl) (by rfl) (by first | decide | exact Nat.le_of_ble_eq_true rfl | simp) ?_
        refine WS_nil ?_
        refine Then_normal ?_
        refine W_seq ?_
        refine W_region_lit (fun ds => ?_)
        refine WS_det hF (by rfl) (y_loadN (by rfl) Try.isAgg26 Try.sizeOf26 (Mem.own (us := [.int .i64 _, .int .i64 _]) 1 (by rfl) (by rfl)) (by rfl)) ?_
        refine WS_det hF (by rfl) (y_callL (by rfl) (by rfl) Try.call74 (fun w hw => empty_any (l.hold k).lo (l.hold k).hi w)) ?_
        refine WS_nil ?_
        refine Then_normal ?_
        refine W_cond (by rfl) (fun c8 => ?_) (fun c8 => ?_)
        ·
          try simp only [Bool.not_eq_true', Bool.not_eq_false', decide_eq_true_eq, decide_eq_false_iff_not, ne_eq, Classical.not_not, Int.not_lt, Int.not_le] at c8
          refine W_seq ?_
          refine W_region_lit (fun ds => ?_)
          refine WS_store hF (i := 4) (by rfl) (by rfl) Try.sizeOf123 (by rfl) (by rfl) (by rfl) (by first | decide | exact Nat.le_of_ble_eq_true rfl | simp) ?_
          refine WS_store hF (i := 5) (by rfl) (by rfl) Try.sizeOf31 (by rfl) (by rfl) (by rfl) (by first | decide | exact Nat.le_of_ble_eq_true rfl | simp) ?_
          refine WS_nil ?_
          refine Then_normal ?_
          refine W_ret ?_
          refine InB_ret ?_
          refine ⟨[_, _], (SubP.hsub (SubP.pick 4 (by rfl) (SubP.pick 4 (by rfl) (by exact SubP.drop (SubP.drop (SubP.drop (SubP.drop (SubP.dropL (X := Hf2) (SubP.refl))))))))), rfl, ?_, rfl⟩
          show (l.hold k).empty = true
          unfold Sn.empty; simp only [decide_eq_true_eq]; omega
        ·
          try simp only [Bool.not_eq_true', Bool.not_eq_false', decide_eq_true_eq, decide_eq_false_iff_not, ne_eq, Classical.not_not, Int.not_lt, Int.not_le] at c8
          refine W_skip ?_
          refine InB_normal ?_
          refine ⟨_ :: _ :: _ :: _ :: Hf2, (SubP.hsub (SubP.pick 2 (by rfl) (SubP.pick 2 (by rfl) (SubP.pick 2 (by rfl) (SubP.pick 2 (by rfl) (by exact SubP.drop (SubP.drop (SubP.refl)))))))), fa2, fcap2, Hf2, rfl, ?_, ?_⟩
          · rw [snRow, rowOf_succ]; exact hrow2
          · intro j hj
            obtain hj | rfl : j < k ∨ j = k := by omega
            · exact hne j hj
            · unfold Sn.empty; simp only [decide_eq_false_iff_not]; omega
      ·
        refine WS_append hF (H1 := [_, _, _, _, _, _]) (by rfl) (by rfl) (by rfl) Try.underlying90 infSpan (by rfl) (by rfl) hrow (.inr ⟨_, _, rfl, Mem.own (us := [.int _ _, .int _ _]) 0 (by rfl) (by rfl)⟩) (by rfl) (by rfl) (by omega) (by omega) ?_
        intro fa2 fcap2 Hf2 hrow2
        refine WS_det hF (by rfl) (y_load1 (by rfl) Try.isAgg123 (Mem.own1 3 (by rfl) (by rfl))) ?_
        refine WS_det hF (by rfl) (by first | exact y_nilCheck (by rfl) | exact y_nilCheckF (by rfl)) ?_
        refine WS_det hF (by rfl) (y_fieldAddr (by rfl) fa127_1) ?_
        refine WS_store hF (i := 2) (by rfl) (by rfl) Try.sizeOf90 (by rfl) (by rfl) (by rfl) (by first | decide | exact Nat.le_of_ble_eq_true rfl | simp) ?_
        refine WS_nil ?_
        refine Then_normal ?_
        refine W_seq ?_
        refine W_region_lit (fun ds => ?_)
        refine WS_det hF (by rfl) (y_loadN (by rfl) Try.isAgg26 Try.sizeOf26 (Mem.own (us := [.int .i64 _, .int .i64 _]) 1 (by rfl) (by rfl)) (by rfl)) ?_
        refine WS_det hF (by rfl) (y_callL (by rfl) (by rfl) Try.call74 (fun w hw => empty_any (l.hold k).lo (l.hold k).hi w)) ?_
        refine WS_nil ?_
        refine Then_normal ?_
        refine W_cond (by rfl) (fun c8 => ?_) (fun c8 => ?_)
        ·
          try simp only [Bool.not_eq_true', Bool.not_eq_false', decide_eq_true_eq, decide_eq_false_iff_not, ne_eq, Classical.not_not, Int.not_lt, Int.not_le] at c8
          refine W_seq ?_
          refine W_region_lit (fun ds => ?_)
          refine WS_store hF (i := 4) (by rfl) (by rfl) Try.sizeOf123 (by rfl) (by rfl) (by rfl) (by first | decide | exact Nat.le_of_ble_eq_true rfl | simp) ?_
          refine WS_store hF (i := 5) (by rfl) (by rfl) Try.sizeOf31 (by rfl) (by rfl) (by rfl) (by first | decide | exact Nat.le_of_ble_eq_true rfl | simp) ?_
          refine WS_nil ?_
          refine Then_normal ?_
          refine W_ret ?_
          refine InB_ret ?_
          refine ⟨[_, _], (SubP.hsub (SubP.pick 4 (by rfl) (SubP.pick 4 (by rfl) (by exact SubP.drop (SubP.drop (SubP.drop (SubP.drop (SubP.dropL (X := Hf2) (SubP.refl))))))))), rfl, ?_, rfl⟩
          show (l.hold k).empty = true
          unfold Sn.empty; simp only [decide_eq_true_eq]; omega
        ·
          try simp only [Bool.not_eq_true', Bool.not_eq_false', decide_eq_true_eq, decide_eq_false_iff_not, ne_eq, Classical.not_not, Int.not_lt, Int.not_le] at c8
          refine W_skip ?_
          refine InB_normal ?_
          refine ⟨_ :: _ :: _ :: _ :: Hf2, (SubP.hsub (SubP.pick 2 (by rfl) (SubP.pick 2 (by rfl) (SubP.pick 2 (by rfl) (SubP.pick 2 (by rfl) (by exact SubP.drop (SubP.drop (SubP.refl)))))))), fa2, fcap2, Hf2, rfl, ?_, ?_⟩
          · rw [snRow, rowOf_succ]; exact hrow2
          · intro j hj
            obtain hj | rfl : j < k ∨ j = k := by omega
            · exact hne j hj
            · unfold Sn.empty; simp only [decide_eq_false_iff_not]; omega
    · rintro G hj
      obtain ⟨fa, fcap, Hf, rfl, hrow, hne⟩ := hj
      have htf := l.times_full hne
      rw [htf] at hrow hne
      rw [htf]
      obtain ⟨_, h0, _⟩ | ⟨fb, junk, rfl, rfl, hl1, hl2, hle⟩ := hrow
      · omega
      refine InB_normal ?_
      refine Then_normal ?_
      refine W_seq ?_
      apply W_drawMT 10 hF Trymixed [Pre.dep 1000000 b4 _ 41 _ _] [1000000] [1000000] (by rfl) (by decide +kernel) (by decide) (fun _ _ h => h.perm (perm_erase (i := 3) (by rfl)).symm)
      intro ds
      refine P_det (by rfl) (Over_out (by rfl) (Over_nil (y_load1 (by rfl) Try.isAgg123 (Mem.own1 3 (by rfl) (by rfl))))) ?_
      refine P_det (by rfl) (Over_out (by rfl) (Over_nil (y_load1 (by rfl) Try.isAgg123 (Mem.own1 3 (by rfl) (by rfl))))) ?_
      refine P_det (by rfl) (Over_out (by rfl) (Over_nil (y_move (c := .pointer _) (by rfl)))) ?_
      refine P_new (by rfl) (by rfl) (Over_out (by rfl) (Over_nil (y_callL (by rfl) (by rfl) Try.call128 (fun w hw => back_any bk l w (Bk.own (by repeat (first | exact List.mem_cons_self | apply List.mem_cons_of_mem)) (by repeat (first | exact List.mem_cons_self | apply List.mem_cons_of_mem)) hok hx he w hw))))) ?_
      refine P_ali [40] (fun e => e 40) (by rfl) (by rfl) (by rfl) (fun _ _ h => h 40 (List.mem_singleton.2 rfl)) (Over_in (by rfl) (Over_out (by rfl) (Over_nil (by intro vb9 l40 hb9; obtain ⟨ab, bb, rfl, rfl⟩ := hb9; exact (YD0_of (y_move (c := .tuple _) (by rfl))))))) ?_
      refine P_ali [36] (fun e => tupAt (e 36) 0) (by rfl) (by rfl) (by rfl) (fun _ _ h => congrArg (tupAt · 0) (h 36 (List.mem_singleton.2 rfl))) (Over_in (by rfl) (Over_in (by rfl) (Over_out (by rfl) (Over_nil (by intro vb11 l40 hb11; obtain ⟨ab, bb, rfl, rfl⟩ := hb11; rintro vb12 _ ⟨hvb12, rfl⟩; replace hvb12 : vb12 = .tuple _ := hvb12; subst hvb12; exact (YD0_of (y_extract (c := .slice _ _ _) (by rfl) (by rfl)))))))) ?_
      refine P_ali [36] (fun e => tupAt (e 36) 1) (by rfl) (by rfl) (by rfl) (fun _ _ h => congrArg (tupAt · 1) (h 36 (List.mem_singleton.2 rfl))) (Over_out (by rfl) (Over_in (by rfl) (Over_in (by rfl) (Over_out (by rfl) (Over_nil (by intro vb14 l40 hb14; obtain ⟨ab, bb, rfl, rfl⟩ := hb14; rintro vb15 _ ⟨hvb15, rfl⟩; replace hvb15 : vb15 = .tuple _ := hvb15; subst hvb15; exact (YD0_of (y_extract (c := .slice _ _ _) (by rfl) (by rfl))))))))) ?_
      refine P_det (by rfl) (Over_out (by rfl) (Over_out (by rfl) (Over_out (by rfl) (Over_out (by rfl) (Over_out (by rfl) (Over_nil (by first | exact y_nilCheck (by rfl) | exact y_nilCheckF (by rfl)))))))) ?_
      refine P_det (by rfl) (Over_out (by rfl) (Over_out (by rfl) (Over_out (by rfl) (Over_out (by rfl) (Over_out (by rfl) (Over_nil (y_fieldAddr (by rfl) fa127_2))))))) ?_
      refine P_st 1000000 4 (by rfl) (by rfl) (by rfl) (by rfl) (by rfl) (Over_out (by rfl) (Over_in (by rfl) (Over_in (by rfl) (Over_in (by rfl) (Over_nil (by intro vb17 l40 hb17; obtain ⟨ab, bb, rfl, rfl⟩ := hb17; rintro vb18 _ ⟨hvb18, rfl⟩; replace hvb18 : vb18 = .tuple _ := hvb18; subst hvb18; rintro vb19 _ ⟨hvb19, rfl⟩; replace hvb19 : vb19 = .slice _ _ _ := hvb19; subst hvb19; exact (st_preD (fun _ => by rfl) (by rfl) (by rfl) Try.sizeOf90 (by rfl) (by rfl) (by first | decide | exact Nat.le_of_ble_eq_true rfl | simp)))))))) ?_
      refine PW_end (by rfl) ?_
      refine OverAll_cons (fun w42 l42 => ?_)
      refine OverAll_cons (fun w41 l41 => ?_)
      refine OverAll_cons (fun w36 l36 => ?_)
      refine OverAll_cons (fun w40 l40 => ?_)
      refine OverAll_cons (fun w1000000 l1000000 => ?_)
      refine OverAll_nil ?_
      rintro ⟨⟨⟨⟨⟨-, h42⟩, h41⟩, h36⟩, h40⟩, h1000000⟩
      obtain ⟨ab, bb, rfl, rfl⟩ := h40
      obtain ⟨h36, rfl⟩ := h36
      replace h36 : w36 = .tuple _ := h36
      subst h36
      obtain ⟨h41, rfl⟩ := h41
      replace h41 : w41 = .slice _ _ _ := h41
      subst h41
      obtain ⟨h42, rfl⟩ := h42
      replace h42 : w42 = .slice _ _ _ := h42
      subst h42
      obtain rfl := h1000000
      refine WS_det hF (by rfl) (by first | exact y_nilCheck (by rfl) | exact y_nilCheckF (by rfl)) ?_
      refine WS_det hF (by rfl) (y_fieldAddr (by rfl) fa127_3) ?_
      refine WS_store hF (i := 0) (by rfl) (by rfl) Try.sizeOf90 (by rfl) (by rfl) (by rfl) (by first | decide | exact Nat.le_of_ble_eq_true rfl | simp) ?_
      refine WS_nil ?_
      refine Then_normal ?_
      refine W_seq ?_
      refine W_region_lit (fun ds => ?_)
      refine WS_det hF (by rfl) (y_load1 (by rfl) Try.isAgg123 (Mem.own1 6 (by rfl) (by rfl))) ?_
      refine WS_store hF (i := 7) (by rfl) (by rfl) Try.sizeOf123 (by rfl) (by rfl) (by rfl) (by first | decide | exact Nat.le_of_ble_eq_true rfl | simp) ?_
      refine WS_store hF (i := 8) (by rfl) (by rfl) Try.sizeOf31 (by rfl) (by rfl) (by rfl) (by first | decide | exact Nat.le_of_ble_eq_true rfl | simp) ?_
      refine WS_nil ?_
      refine Then_normal ?_
      refine W_ret ?_
      have hB : l.holdsB = true := l.holdsB_iff.2 fun k hk => hne k (by omega)
      have h0 : l.aerr = 0 := by unfold Lg.aerr; rw [if_pos c2, if_pos hB]
      refine Fin_ret [_, _] [(b4, _), (fb, _), (ab, _), (bb, _), (bk, _), (g, _)] Try.results88 ⟨lv1 (by rfl) Try.isAgg123 (Mem.own1 7 (by rfl) (by rfl)), lv1 (by rfl) Try.isAgg31 (Mem.own1 8 (by rfl) (by rfl)), trivial⟩ ((SubP.hsub (SubP.pick 0 (by rfl) (SubP.pick 8 (by rfl) (SubP.pick 0 (by rfl) (SubP.pick 0 (by rfl) (SubP.pick 1 (by rfl) (SubP.pick 1 (by rfl) (SubP.nil))))))))) ?_
      exact ⟨_, by rw [h0]; rfl, fun _ => ⟨b4, rfl, bk, g, fb, fcap, junk, ab, bb, rfl⟩, fun h => absurd h0 h⟩
    · rintro c k G hk hj
      obtain ⟨rfl, hemp, rfl⟩ := hj
      refine W_ret ?_
      refine InB_ret ?_
      refine Then_ret ?_
      refine Fin_ret [_, _] [] Try.results88 ⟨lv1 (by rfl) Try.isAgg123 (Mem.own1 3 (by rfl) (by rfl)), lv1 (by rfl) Try.isAgg31 (Mem.own1 4 (by rfl) (by rfl)), trivial⟩ HSub.nil ?_
      have hB : l.holdsB = false := by
        cases hb : l.holdsB with
        | false => rfl
        | true => rw [Nat.add_sub_cancel, l.holdsB_iff.1 hb k (by omega)] at hemp; cases hemp
      have h8 : l.aerr = 8 := by unfold Lg.aerr; rw [if_pos c2, hB]; rfl
      exact ⟨none, by rw [h8]; rfl, fun h => by omega, fun _ => rfl⟩
end Go.Proofs.Ythkimgfgpphgnaa.T

/- What is known, in memory; at, last; whether it holds some pints, when, what may be drawn, the room. -/
namespace Go.Proofs.Ythkimgfgpphgnaa.T
open Go.RowKit Go.Proofs Go.Eng
set_option maxRecDepth 100000
set_option linter.unusedVariables false
set_option linter.unusedSimpArgs false

theorem fa127_0 : ∀ b o w, (Instr.fieldAt 127 (.pointer (some ⟨b, o, none⟩)) 0).run Try.prog w = .ok (.pointer (some ⟨b, o + 0, none⟩)) w := fun b o w => by kernel_rfl

theorem Lg.aerr0 (l : Lg) (h : l.aerr = 0) : l.err = 0 ∧ ∀ k, k ≤ l.es.length → (l.hold k).empty = false := by
  unfold Lg.aerr at h
  split at h
  · split at h
    · rename_i h1 h2; exact ⟨h1, l.holdsB_iff.1 h2⟩
    · cases h
  · rename_i h1; exact absurd h h1
def Lg.at (l : Lg) (i : Nat) : Sn := (l.hold i).met (l.aft i)
def Lg.last (l : Lg) : Sn := l.at l.es.length
/-- What is known, in memory. -/
structure Kn (w : World) (kb : Nat) (l : Lg) : Prop where
  ok : l.Ok
  ne : ∀ k, k ≤ l.es.length → (l.hold k).empty = false
  ex : ∃ bk fb capf ab bb, At w kb 0 (knownCells bk fb capf ab bb l.es.length) ∧ At w fb 0 (snRow l.hold (l.es.length + 1)) ∧ At w ab 0 (snRow l.aft (l.es.length + 1)) ∧ At w bb 0 (snRow l.ahd l.es.length) ∧ Bk w bk l
theorem Kn.below {w w' : World} {kb : Nat} {l : Lg} (h : Kn w kb l) (hb : Below w.heap.size w w') : Kn w' kb l := by
  obtain ⟨hok, hne, bk, fb, capf, ab, bb, h1, h2, h3, h4, h5⟩ := h
  exact ⟨hok, hne, bk, fb, capf, ab, bb, At.old hb h1, At.old hb h2, At.old hb h3, At.old hb h4, h5.below hb⟩
theorem Kn.st {C : Ctx} {H : List Blk} {kb : Nat} {l : Lg} (h : Kn C.w0 kb l) (w : World) (hw : St C H w) : Kn w kb l := h.below hw.1
def knBlocks (l : Lg) (a : Option Addr) (cap : Nat) (ae : Option Addr) (cape kb bk g fb capf : Nat) (junk : List Value) (ab bb : Nat) : List Blk :=
  [(kb, CB (knownCells bk fb capf ab bb l.es.length) 127), (fb, CB (snRow l.hold (l.es.length + 1) ++ junk) 26), (ab, CB (snRow l.aft (l.es.length + 1)) 26), (bb, CB (snRow l.ahd l.es.length) 26), (bk, CB (bookCells g l a cap ae cape) 119), (g, CB (gaugeCells l.tk a cap) 98)]
theorem At.block {C : Ctx} {H : List Blk} {b : Nat} {vs rest : List Value} {T : TypeId} (hm : (b, CB (vs ++ rest) T) ∈ H) (w : World) (hw : St C H w) : At w b 0 vs := by
  obtain ⟨i, hi, hii⟩ := List.mem_iff_getElem.1 hm
  exact Mem.own (rest := rest) i ((List.getElem?_eq_getElem hi).trans (congrArg some hii)) (by rw [List.drop_zero]) w hw
theorem At.block0 {C : Ctx} {H : List Blk} {b : Nat} {vs : List Value} {T : TypeId} (hm : (b, CB vs T) ∈ H) (w : World) (hw : St C H w) : At w b 0 vs := by
  have : (b, CB (vs ++ []) T) ∈ H := by rwa [List.append_nil]
  exact At.block this w hw
theorem Kn.own {C : Ctx} {H : List Blk} {l : Lg} {a : Option Addr} {cap : Nat} {ae : Option Addr} {cape kb bk g fb capf : Nat} {junk : List Value} {ab bb : Nat} (hs : (knBlocks l a cap ae cape kb bk g fb capf junk ab bb).Sublist H)
    (h0 : l.aerr = 0) (hx : Ints C.w0 a l.tk.n cap l.tk.pints) (he : Ens C.w0 ae l.es.length cape l.es) (w : World) (hw : St C H w) : Kn w kb l := by
  obtain ⟨h1, h2⟩ := l.aerr0 h0
  have hm : ∀ x ∈ knBlocks l a cap ae cape kb bk g fb capf junk ab bb, x ∈ H := fun x hx => hs.subset hx
  unfold knBlocks at hm
  simp only [List.forall_mem_cons] at hm
  obtain ⟨m1, m2, m3, m4, m5, m6, _⟩ := hm
  exact ⟨l.ok_of h1, h2, bk, fb, capf, ab, bb, At.block0 m1 w hw, At.block m2 w hw, At.block0 m3 w hw, At.block0 m4 w hw, Bk.own m5 m6 (l.ok_of h1) hx he w hw⟩
theorem At.rowOf {w : World} {b : Nat} {α : Type} {enc : α → List Value} {sz : Nat} (hz : ∀ x, (enc x).length = sz) {f : Nat → α} {n k o : Nat} (h : At w b 0 (rowOf enc f n)) (hk : k < n) (ho : o = k * sz) : At w b o (enc (f k)) := by
  subst ho
  obtain ⟨t, ht⟩ := rowOf_drop hz f hk
  refine At.of fun j v hv => ?_
  have hg : (Eng.rowOf enc f n)[k * sz + j]? = some v := rowOf_get hz f hk hv
  have := h.get (k * sz + j) v hg
  rw [Nat.zero_add] at this
  exact this

theorem at_any (kb : Nat) (l : Lg) (i : Nat) (w : World) (hK : Kn w kb l) (hi : i ≤ l.es.length) :
    Ct Try.prog 92 #[.pointer (some ⟨kb, 0, none⟩), .int .i64 (i : Int)] w fun v _ => v = .agg (l.at i).cells.toArray := by
  obtain ⟨hok, hne, bk, fb, capf, ab, bb, h1, h2, h3, h4, h5⟩ := hK
  have e1 : At w fb (0 + i * 2) (l.hold i).cells := At.rowOf sn_len h2 (by omega) (by omega)
  have e2 : At w ab (0 + i * 2) (l.aft i).cells := At.rowOf sn_len h3 (by omega) (by omega)
  have hF := wide_wide
  refine Ct_start (args := [_, _]) Try.func92 (by rfl) Try.ntmps92 (by rfl) ?_
  refine W_seq ?_
  refine W_region_lit (fun ds => ?_)
  refine WS_new hF (by rfl) (y_alloc Try.zeroValue26 (by rfl)) (fun b1 => ?_)
  refine WS_nil ?_
  refine Then_normal ?_
  refine W_seq ?_
  apply W_draw1 hF Trymixed [1000000] (i := 0) (by rfl) (by decide +kernel)
  intro ds
  refine P_det (by rfl) (Over_out (by rfl) (Over_nil (y_move (c := .pointer _) (by rfl)))) ?_
  refine P_det (by rfl) (Over_out (by rfl) (Over_nil (by first | exact y_nilCheck (by rfl) | exact y_nilCheckF (by rfl)))) ?_
  refine P_det (by rfl) (Over_out (by rfl) (Over_nil (y_fieldAddr (by rfl) fa127_1))) ?_
  refine P_det (by rfl) (Over_out (by rfl) (Over_nil (y_load1 (by rfl) Try.isAgg90 (by first | exact Mem.old1 (by assumption) | exact Mem.oldAt1 (by assumption) (by rfl) | exact Mem.old (by assumption) | exact Mem.oldAtL1 (by assumption) (by rfl) (by rfl))))) ?_
  refine P_det (by rfl) (Over_out (by rfl) (Over_nil (y_move (c := .int .i64 _) (by rfl)))) ?_
  refine P_det (by rfl) (Over_out (by rfl) (Over_nil (y_index (k := i) (by rfl) (by rfl) (by first | rfl | omega) (by first | decide | omega) Try.runUnderlying90 Try.sizeOf26))) ?_
  refine P_det (by rfl) (Over_out (by rfl) (Over_nil (y_loadN (by rfl) Try.isAgg26 Try.sizeOf26 (by first | exact Mem.old (by assumption) | exact Mem.oldAt (us := [.int .i64 _, .int .i64 _]) (by assumption) (by rfl) | exact Mem.oldAtL (us := [.int .i64 _, .int .i64 _]) (by assumption) (by rfl) (by rfl)) (by rfl)))) ?_
  refine P_det (by rfl) (Over_out (by rfl) (Over_nil (y_move (c := .pointer _) (by rfl)))) ?_
  refine P_det (by rfl) (Over_out (by rfl) (Over_nil (by first | exact y_nilCheck (by rfl) | exact y_nilCheckF (by rfl)))) ?_
  refine P_det (by rfl) (Over_out (by rfl) (Over_nil (y_fieldAddr (by rfl) fa127_2))) ?_
  refine P_det (by rfl) (Over_out (by rfl) (Over_nil (y_load1 (by rfl) Try.isAgg90 (by first | exact Mem.old1 (by assumption) | exact Mem.oldAt1 (by assumption) (by rfl) | exact Mem.old (by assumption) | exact Mem.oldAtL1 (by assumption) (by rfl) (by rfl))))) ?_
  refine P_det (by rfl) (Over_out (by rfl) (Over_nil (y_move (c := .int .i64 _) (by rfl)))) ?_
  refine P_det (by rfl) (Over_out (by rfl) (Over_nil (y_index (k := i) (by rfl) (by rfl) (by first | rfl | omega) (by first | decide | omega) Try.runUnderlying90 Try.sizeOf26))) ?_
  refine P_det (by rfl) (Over_out (by rfl) (Over_nil (y_loadN (by rfl) Try.isAgg26 Try.sizeOf26 (by first | exact Mem.old (by assumption) | exact Mem.oldAt (us := [.int .i64 _, .int .i64 _]) (by assumption) (by rfl) | exact Mem.oldAtL (us := [.int .i64 _, .int .i64 _]) (by assumption) (by rfl) (by rfl)) (by rfl)))) ?_
  refine P_det (by rfl) (Over_out (by rfl) (Over_nil (y_callL (by rfl) (by rfl) Try.call109 (fun w hw => met_any _ _ _ _ w)))) ?_
  refine P_st 1000000 0 (by rfl) (by rfl) (by rfl) (by rfl) (by rfl) (Over_nil (st_pre (fun _ => by rfl) (fun _ => by rfl) Try.sizeOf26 (by rfl) (by rfl) (by first | decide | exact Nat.le_of_ble_eq_true rfl | simp))) ?_
  refine PW_end (by rfl) ?_
  refine OverAll_cons (fun w1000000 l1000000 => ?_)
  refine OverAll_nil ?_
  rintro ⟨-, h1000000⟩
  obtain rfl := h1000000
  refine Then_normal ?_
  refine W_ret ?_
  refine Fin_ret [_] [] Try.results92 ⟨lvN (by rfl) Try.isAgg26 Try.sizeOf26 (Mem.own (us := [.int .i64 _, .int .i64 _]) 0 (by rfl) (by rfl)) (by rfl), trivial⟩ HSub.nil ?_
  rfl
theorem last_any (kb : Nat) (l : Lg) (w : World) (hK : Kn w kb l) :
    Ct Try.prog 89 #[.pointer (some ⟨kb, 0, none⟩)] w fun v _ => v = .agg l.last.cells.toArray := by
  have hK0 := hK
  obtain ⟨hok, hne, bk, fb, capf, ab, bb, h1, h2, h3, h4, _, g, a, cap, ae, cape, h5, _⟩ := hK
  have hF := wide_wide
  refine Ct_start (args := [_]) Try.func89 (by rfl) Try.ntmps89 (by rfl) ?_
  refine W_seq ?_
  refine W_region_lit (fun ds => ?_)
  refine WS_new hF (by rfl) (y_alloc Try.zeroValue26 (by rfl)) (fun b1 => ?_)
  refine WS_nil ?_
  refine Then_normal ?_
  refine W_seq ?_
  refine W_region_lit (fun ds => ?_)
  refine WS_det hF (by rfl) (y_move (c := .pointer _) (by rfl)) ?_
  refine WS_det hF (by rfl) (y_move (c := .pointer _) (by rfl)) ?_
  refine WS_det hF (by rfl) (by first | exact y_nilCheck (by rfl) | exact y_nilCheckF (by rfl)) ?_
  refine WS_det hF (by rfl) (y_fieldAddr (by rfl) fa127_0) ?_
  refine WS_det hF (by rfl) (y_load1 (by rfl) Try.isAgg108 (by first | exact Mem.old1 (by assumption) | exact Mem.oldAt1 (by assumption) (by rfl) | exact Mem.old (by assumption) | exact Mem.oldAtL1 (by assumption) (by rfl) (by rfl))) ?_
  refine WS_det hF (by rfl) (by first | exact y_nilCheck (by rfl) | exact y_nilCheckF (by rfl)) ?_
  refine WS_det hF (by rfl) (y_fieldAddr (by rfl) fa119_1) ?_
  refine WS_det hF (by rfl) (y_fieldAddr (by rfl) fa46_2) ?_
  refine WS_det hF (by rfl) (y_load1 (by rfl) Try.isAgg44 (by first | exact Mem.old1 (by assumption) | exact Mem.oldAt1 (by assumption) (by rfl) | exact Mem.old (by assumption) | exact Mem.oldAtL1 (by assumption) (by rfl) (by rfl))) ?_
  refine WS_det hF (by rfl) (y_len (by rfl) Try.runUnderlying44) ?_
  refine WS_det hF (by rfl) (y_callL (by rfl) (by rfl) Try.call92 (fun w hw => at_any kb l l.es.length w (hK0.st w hw) (Nat.le_refl _))) ?_
  refine WS_store hF (i := 0) (by rfl) (by rfl) Try.sizeOf26 (by rfl) (by rfl) (by rfl) (by first | decide | exact Nat.le_of_ble_eq_true rfl | simp) ?_
  refine WS_nil ?_
  refine Then_normal ?_
  refine W_ret ?_
  refine Fin_ret [_] [] Try.results89 ⟨lvN (by rfl) Try.isAgg26 Try.sizeOf26 (Mem.own (us := [.int .i64 _, .int .i64 _]) 0 (by rfl) (by rfl)) (by rfl), trivial⟩ HSub.nil ?_
  rfl
theorem change_any (a b : Sn) (w : World) (ha : a.Sm) (hb : b.Sm) : Ct Try.prog 96 #[.agg a.cells.toArray, .agg b.cells.toArray] w fun v _ => v = .agg (a.sub b).cells.toArray := by
  unfold Sn.Sm at ha hb
  have hF := wide_wide
  refine Ct_start (args := [_, _]) Try.func96 (by rfl) Try.ntmps96 (by rfl) ?_
  refine W_seq ?_
  refine W_region_lit (fun ds => ?_)
  refine WS_new hF (by rfl) (y_box (by rfl)) (fun b1 => ?_)
  refine WS_new hF (by rfl) (y_box (by rfl)) (fun b2 => ?_)
  refine WS_new hF (by rfl) (y_alloc Try.zeroValue26 (by rfl)) (fun b3 => ?_)
  refine WS_nil ?_
  refine Then_normal ?_
  refine W_seq ?_
  refine W_region_lit (fun ds => ?_)
  refine WS_det hF (by rfl) (y_fieldAddr (by rfl) fa26_0) ?_
  refine WS_det hF (by rfl) (y_load1 (by rfl) Try.isAgg3 (Mem.own1 2 (by rfl) (by rfl))) ?_
  refine WS_det hF (by rfl) (y_fieldAddr (by rfl) fa26_1) ?_
  refine WS_det hF (by rfl) (y_load1 (by rfl) Try.isAgg3 (Mem.own1 1 (by rfl) (by rfl))) ?_
  refine WS_det hF (by rfl) (y_sub (by rfl) (by rfl) (by unfold I64; omega)) ?_
  refine WS_det hF (by rfl) (y_fieldAddr (by rfl) fa26_1) ?_
  refine WS_det hF (by rfl) (y_load1 (by rfl) Try.isAgg3 (Mem.own1 2 (by rfl) (by rfl))) ?_
  refine WS_det hF (by rfl) (y_fieldAddr (by rfl) fa26_0) ?_
  refine WS_det hF (by rfl) (y_load1 (by rfl) Try.isAgg3 (Mem.own1 1 (by rfl) (by rfl))) ?_
  refine WS_det hF (by rfl) (y_sub (by rfl) (by rfl) (by unfold I64; omega)) ?_
  refine WS_det hF (by rfl) (y_buildL bd26_0_1 (by rfl)) ?_
  refine WS_store hF (i := 0) (by rfl) (by rfl) Try.sizeOf26 (by rfl) (by rfl) (by rfl) (by first | decide | exact Nat.le_of_ble_eq_true rfl | simp) ?_
  refine WS_nil ?_
  refine Then_normal ?_
  refine W_ret ?_
  refine Fin_ret [_] [] Try.results96 ⟨lvN (by rfl) Try.isAgg26 Try.sizeOf26 (Mem.own (us := [.int .i64 _, .int .i64 _]) 0 (by rfl) (by rfl)) (by rfl), trivial⟩ HSub.nil ?_
  rfl
end Go.Proofs.Ythkimgfgpphgnaa.T

/- Whether the tank holds some pints, when, what may be drawn, the room, and what it holds: the walks. -/
namespace Go.Proofs.Ythkimgfgpphgnaa.T
open Go.RowKit Go.Proofs Go.Eng
set_option maxRecDepth 100000
set_option linter.unusedVariables false
set_option linter.unusedSimpArgs false

theorem fd26_0 {x_0 : Int} {x_1 : Int} : ∀ w, (Instr.field 26 (.agg #[.int .i64 x_0, .int .i64 x_1]) 0).run Try.prog w = .ok (.int .i64 x_0) w := fun w => by kernel_rfl


theorem Lg.Ok.at_bd {l : Lg} (h : l.Ok) (hne : ∀ k, k ≤ l.es.length → (l.hold k).empty = false) {i : Nat} (hi : i ≤ l.es.length) : 0 ≤ (l.at i).lo ∧ (l.at i).hi ≤ l.tk.full ∧ (l.at i).lo ≤ 10000000 ∧ -10000000 ≤ (l.at i).hi := by
  have h1 := h.hold_bd i hi fun j hj => hne j (by omega)
  have h2 := h.aft_bd hi
  unfold Lg.at Sn.met
  simp only
  omega
theorem Lg.Ok.last_bd {l : Lg} (h : l.Ok) (hne : ∀ k, k ≤ l.es.length → (l.hold k).empty = false) : 0 ≤ l.last.lo ∧ l.last.hi ≤ l.tk.full ∧ l.last.lo ≤ 10000000 ∧ -10000000 ≤ l.last.hi := h.at_bd hne (Nat.le_refl _)

def Lg.sureV (l : Lg) (p : Int) : Value :=
  if l.aerr = 0 then if inB 0 l.tk.full [p] then if p ≤ l.last.lo then .tuple #[.int .u8 2, .int .i64 0] else if l.last.hi < p then .tuple #[.int .u8 0, .int .i64 0] else .tuple #[.int .u8 1, .int .i64 0] else .tuple #[.int .u8 0, .int .i64 2] else .tuple #[.int .u8 0, .int .i64 l.aerr]
theorem sure_any (l : Lg) (a : Option Addr) (cap : Nat) (ae : Option Addr) (cape : Nat) (p : Int) (w : World) (hn : l.tk.n ≤ 1000000) (hx : Ints w a l.tk.n cap l.tk.pints) (he : Ens w ae l.es.length cape l.es) : Ct Try.prog 31 #[.agg #[.slice a l.tk.n cap, .int .i64 l.tk.leak, .int .i64 l.tk.foot, .int .i64 l.start.lo, .int .i64 l.start.hi, .slice ae l.es.length cape], .int .i64 p] w fun v _ => v = l.sureV p := by
  have hF := wide_wide
  refine Ct_start (args := [_, _]) Try.func31 (by rfl) Try.ntmps31 (by rfl) ?_
  refine W_seq ?_
  refine W_region_lit (fun ds => ?_)
  refine WS_new hF (by rfl) (y_box (by rfl)) (fun b1 => ?_)
  refine WS_det hF (by rfl) (y_assign (c := .int .u8 _) (by rfl)) ?_
  refine WS_det hF (by rfl) (y_assign (c := .int .i64 _) (by rfl)) ?_
  refine WS_nil ?_
  refine Then_normal ?_
  refine W_seq ?_
  refine W_region_lit (fun ds => ?_)
  refine WS_det hF (by rfl) (y_loadN (by rfl) Try.isAgg46 Try.sizeOf46 (Mem.own (us := [.slice _ _ _, .int .i64 _, .int .i64 _, .int .i64 _, .int .i64 _, .slice _ _ _]) 0 (by rfl) (by rfl)) (by rfl)) ?_
  refine WS_gen hF (by rfl) (y_callL (by rfl) (by rfl) Try.call88 (fun w hw => asked_any l a cap ae cape w hn (hx.st w hw) (he.st w hw))) ?_
  rintro _ Hg ⟨p, rfl, hg1, hg2⟩
  refine WS_det hF (by rfl) (y_move (c := .tuple _) (by rfl)) ?_
  refine WS_det hF (by rfl) (y_extract (c := .pointer _) (by rfl) (by rfl)) ?_
  refine WS_det hF (by rfl) (y_extract (c := .int .i64 _) (by rfl) (by rfl)) ?_
  refine WS_det hF (by rfl) (y_assign (c := .pointer _) (by rfl)) ?_
  refine WS_det hF (by rfl) (y_assign (c := .int .i64 _) (by rfl)) ?_
  refine WS_nil ?_
  refine Then_normal ?_
  refine W_seq ?_
  refine W_seq ?_
  refine W_region_lit (fun ds => ?_)
  refine WS_det hF (by rfl) (y_move (c := .int .i64 _) (by rfl)) ?_
  refine WS_det hF (by rfl) (y_neq (by rfl) (by rfl)) ?_
  refine WS_nil ?_
  refine Then_normal ?_
  refine W_cond (by rfl) (fun c2 => ?_) (fun c2 => ?_)
  ·
    try simp only [Bool.not_eq_true', Bool.not_eq_false', decide_eq_true_eq, decide_eq_false_iff_not, ne_eq, Classical.not_not, Int.not_lt, Int.not_le] at c2
    obtain rfl := hg2 c2
    refine W_seq ?_
    refine W_region_lit (fun ds => ?_)
    refine WS_det hF (by rfl) (y_move (c := .int .i64 _) (by rfl)) ?_
    refine WS_det hF (by rfl) (y_assign (c := .int .u8 _) (by rfl)) ?_
    refine WS_det hF (by rfl) (y_assign (c := .int .i64 _) (by rfl)) ?_
    refine WS_nil ?_
    refine Then_normal ?_
    refine W_ret ?_
    refine Then_ret ?_
    refine Fin_ret [.int .u8 _, .int .i64 _] [] Try.results31 ⟨by rfl, by rfl, trivial⟩ HSub.nil ?_
    show Value.tuple _ = _
    unfold Lg.sureV
    rw [if_neg c2]
  ·
    try simp only [Bool.not_eq_true', Bool.not_eq_false', decide_eq_true_eq, decide_eq_false_iff_not, ne_eq, Classical.not_not, Int.not_lt, Int.not_le] at c2
    obtain ⟨kb, rfl, bk, g, fb, capf, junk, ab, bb, rfl⟩ := hg1 c2
    have hok := l.ok_of (l.aerr0 c2).1
    have hne := (l.aerr0 c2).2
    have hfull := hok.tk.full_bd
    have hlb := hok.last_bd hne
    refine W_skip ?_
    refine Then_normal ?_
    refine W_seq ?_
    refine W_seq ?_
    refine W_region_lit (fun ds => ?_)
    refine WS_det hF (by rfl) (y_move (c := .pointer _) (by rfl)) ?_
    refine WS_det hF (by rfl) (by first | exact y_nilCheck (by rfl) | exact y_nilCheckF (by rfl)) ?_
    refine WS_det hF (by rfl) (y_fieldAddr (by rfl) fa127_0) ?_
    refine WS_det hF (by rfl) (y_load1 (by rfl) Try.isAgg108 (Mem.own1 0 (by rfl) (by rfl))) ?_
    refine WS_det hF (by rfl) (by first | exact y_nilCheck (by rfl) | exact y_nilCheckF (by rfl)) ?_
    refine WS_det hF (by rfl) (y_fieldAddr (by rfl) fa119_0) ?_
    refine WS_det hF (by rfl) (y_load1 (by rfl) Try.isAgg93 (Mem.own1 4 (by rfl) (by rfl))) ?_
    refine WS_det hF (by rfl) (by first | exact y_nilCheck (by rfl) | exact y_nilCheckF (by rfl)) ?_
    refine WS_det hF (by rfl) (y_fieldAddr (by rfl) fa98_1) ?_
    refine WS_det hF (by rfl) (y_load1 (by rfl) Try.isAgg3 (Mem.own1 5 (by rfl) (by rfl))) ?_
    refine WS_det hF (by rfl) (y_move (c := .int .i64 _) (by rfl)) ?_
    refine WS_newS hF (by rfl) (y_buildSliceL bs22_1_0 (by rfl)) (fun b2 => ?_)
    refine WS_det hF (by rfl) (y_callL (by rfl) (by rfl) Try.call65 (fun w hw => in_any _ _ _ _ _ _ w (by decide) (by first | exact Ints.one 0 rfl w hw | exact Ints.two 0 rfl w hw))) ?_
    refine WS_det hF (by rfl) (y_not (by rfl)) ?_
    refine WS_nil ?_
    refine Then_normal ?_
    refine W_cond (by rfl) (fun c4 => ?_) (fun c4 => ?_)
    ·
      try simp only [Bool.not_eq_true', Bool.not_eq_false', decide_eq_true_eq, decide_eq_false_iff_not, ne_eq, Classical.not_not, Int.not_lt, Int.not_le] at c4
      refine W_seq ?_
      refine W_region_lit (fun ds => ?_)
      refine WS_det hF (by rfl) (y_assign (c := .int .u8 _) (by rfl)) ?_
      refine WS_det hF (by rfl) (y_assign (c := .int .i64 _) (by rfl)) ?_
      refine WS_nil ?_
      refine Then_normal ?_
      refine W_ret ?_
      refine Then_ret ?_
      refine Fin_ret [.int .u8 _, .int .i64 _] [] Try.results31 ⟨by rfl, by rfl, trivial⟩ HSub.nil ?_
      show Value.tuple _ = _
      unfold Lg.sureV
      rw [if_pos c2, c4]; rfl
    ·
      try simp only [Bool.not_eq_true', Bool.not_eq_false', decide_eq_true_eq, decide_eq_false_iff_not, ne_eq, Classical.not_not, Int.not_lt, Int.not_le] at c4
      refine W_skip ?_
      refine Then_normal ?_
      refine W_seq ?_
      refine W_seq ?_
      refine W_region_lit (fun ds => ?_)
      refine WS_det hF (by rfl) (y_move (c := .pointer _) (by rfl)) ?_
      refine WS_det hF (by rfl) (y_callL (by rfl) (by rfl) Try.call89 (fun w hw => last_any kb l w (Kn.own (a := a) (cap := cap) (ae := ae) (cape := cape) (bk := bk) (g := g) (fb := fb) (capf := capf) (junk := junk) (ab := ab) (bb := bb) (by unfold knBlocks; repeat (first | exact List.Sublist.refl _ | exact List.nil_sublist _ | apply List.Sublist.cons_cons | apply List.Sublist.cons)) c2 hx he w hw))) ?_
      refine WS_new hF (by rfl) (y_alloc Try.zeroValue26 (by rfl)) (fun b3 => ?_)
      refine WS_store hF (i := 0) (by rfl) (by rfl) Try.sizeOf26 (by rfl) (by rfl) (by rfl) (by first | decide | exact Nat.le_of_ble_eq_true rfl | simp) ?_
      refine WS_nil ?_
      refine Then_normal ?_
      refine W_block ?_
      refine W_seq ?_
      refine W_region_lit (fun ds => ?_)
      refine WS_det hF (by rfl) (y_fieldAddr (by rfl) fa26_0) ?_
      refine WS_det hF (by rfl) (y_load1 (by rfl) Try.isAgg3 (Mem.own1 0 (by rfl) (by rfl))) ?_
      refine WS_det hF (by rfl) (y_move (c := .int .i64 _) (by rfl)) ?_
      refine WS_det hF (by rfl) (y_geq (by rfl) (by rfl)) ?_
      refine WS_det hF (by rfl) (y_assign (c := .bool _) (by rfl)) ?_
      refine WS_nil ?_
      refine Then_normal ?_
      refine W_cond (by rfl) (fun c7 => ?_) (fun c7 => ?_)
      ·
        try simp only [Bool.not_eq_true', Bool.not_eq_false', decide_eq_true_eq, decide_eq_false_iff_not, ne_eq, Classical.not_not, Int.not_lt, Int.not_le] at c7
        refine W_seq ?_
        refine W_region_lit (fun ds => ?_)
        refine WS_det hF (by rfl) (y_assign (c := .int .u8 _) (by rfl)) ?_
        refine WS_det hF (by rfl) (y_assign (c := .int .i64 _) (by rfl)) ?_
        refine WS_nil ?_
        refine Then_normal ?_
        refine W_ret ?_
        refine InB_ret ?_
        refine Then_ret ?_
        refine Fin_ret [.int .u8 _, .int .i64 _] [] Try.results31 ⟨by rfl, by rfl, trivial⟩ HSub.nil ?_
        show Value.tuple _ = _
        unfold Lg.sureV
        rw [if_pos c2, c4, if_pos rfl, if_pos (by omega)]
      ·
        try simp only [Bool.not_eq_true', Bool.not_eq_false', decide_eq_true_eq, decide_eq_false_iff_not, ne_eq, Classical.not_not, Int.not_lt, Int.not_le] at c7
        refine W_seq ?_
        refine W_region_lit (fun ds => ?_)
        refine WS_det hF (by rfl) (y_fieldAddr (by rfl) fa26_1) ?_
        refine WS_det hF (by rfl) (y_load1 (by rfl) Try.isAgg3 (Mem.own1 0 (by rfl) (by rfl))) ?_
        refine WS_det hF (by rfl) (y_move (c := .int .i64 _) (by rfl)) ?_
        refine WS_det hF (by rfl) (y_lss (by rfl) (by rfl)) ?_
        refine WS_det hF (by rfl) (y_assign (c := .bool _) (by rfl)) ?_
        refine WS_nil ?_
        refine Then_normal ?_
        refine W_cond (by rfl) (fun c9 => ?_) (fun c9 => ?_)
        ·
          try simp only [Bool.not_eq_true', Bool.not_eq_false', decide_eq_true_eq, decide_eq_false_iff_not, ne_eq, Classical.not_not, Int.not_lt, Int.not_le] at c9
          refine W_seq ?_
          refine W_region_lit (fun ds => ?_)
          refine WS_det hF (by rfl) (y_assign (c := .int .u8 _) (by rfl)) ?_
          refine WS_det hF (by rfl) (y_assign (c := .int .i64 _) (by rfl)) ?_
          refine WS_nil ?_
          refine Then_normal ?_
          refine W_ret ?_
          refine InB_ret ?_
          refine Then_ret ?_
          refine Fin_ret [.int .u8 _, .int .i64 _] [] Try.results31 ⟨by rfl, by rfl, trivial⟩ HSub.nil ?_
          show Value.tuple _ = _
          unfold Lg.sureV
          rw [if_pos c2, c4, if_pos rfl, if_neg (by omega), if_pos (by omega)]
        ·
          try simp only [Bool.not_eq_true', Bool.not_eq_false', decide_eq_true_eq, decide_eq_false_iff_not, ne_eq, Classical.not_not, Int.not_lt, Int.not_le] at c9
          refine W_skip ?_
          refine InB_normal ?_
          refine Then_normal ?_
          refine W_seq ?_
          refine W_region_lit (fun ds => ?_)
          refine WS_det hF (by rfl) (y_assign (c := .int .u8 _) (by rfl)) ?_
          refine WS_det hF (by rfl) (y_assign (c := .int .i64 _) (by rfl)) ?_
          refine WS_nil ?_
          refine Then_normal ?_
          refine W_ret ?_
          refine Fin_ret [.int .u8 _, .int .i64 _] [] Try.results31 ⟨by rfl, by rfl, trivial⟩ HSub.nil ?_
          show Value.tuple _ = _
          unfold Lg.sureV
          rw [if_pos c2, c4, if_pos rfl, if_neg (by omega), if_neg (by omega)]
def firstN (f : Nat → Bool) (n : Nat) : Option Nat := (List.range n).find? f
theorem firstN_some {f : Nat → Bool} {n k : Nat} (hk : k < n) (h1 : f k = true) (h0 : ∀ j, j < k → f j = false) : firstN f n = some k := by
  unfold firstN
  rw [List.find?_range_eq_some]
  exact ⟨h1, by simpa using hk, fun j hj => by simp [h0 j hj]⟩
theorem firstN_none {f : Nat → Bool} {n : Nat} (h0 : ∀ j, j < n → f j = false) : firstN f n = none := by
  unfold firstN
  rw [List.find?_eq_none]
  intro j hj
  rw [h0 j (by simpa using hj)]; simp
def Lg.whenV (l : Lg) (p : Int) : Value :=
  if l.aerr = 0 then if inB 0 l.tk.full [p] then match firstN (fun i => decide (p ≤ (l.at i).lo)) (l.es.length + 1) with
    | some i => .tuple #[.int .i64 (i : Int), .int .i64 0]
    | none => .tuple #[.int .i64 0, .int .i64 6] else .tuple #[.int .i64 0, .int .i64 2] else .tuple #[.int .i64 0, .int .i64 l.aerr]
theorem when_any (l : Lg) (a : Option Addr) (cap : Nat) (ae : Option Addr) (cape : Nat) (p : Int) (w : World) (hn : l.tk.n ≤ 1000000) (hx : Ints w a l.tk.n cap l.tk.pints) (he : Ens w ae l.es.length cape l.es) : Ct Try.prog 33 #[.agg #[.slice a l.tk.n cap, .int .i64 l.tk.leak, .int .i64 l.tk.foot, .int .i64 l.start.lo, .int .i64 l.start.hi, .slice ae l.es.length cape], .int .i64 p] w fun v _ => v = l.whenV p := by
  have hF := wide_wide
  refine Ct_start (args := [_, _]) Try.func33 (by rfl) Try.ntmps33 (by rfl) ?_
  refine W_seq ?_
  refine W_region_lit (fun ds => ?_)
  refine WS_new hF (by rfl) (y_box (by rfl)) (fun b1 => ?_)
  refine WS_det hF (by rfl) (y_assign (c := .int .i64 _) (by rfl)) ?_
  refine WS_det hF (by rfl) (y_assign (c := .int .i64 _) (by rfl)) ?_
  refine WS_nil ?_
  refine Then_normal ?_
  refine W_seq ?_
  refine W_region_lit (fun ds => ?_)
  refine WS_det hF (by rfl) (y_loadN (by rfl) Try.isAgg46 Try.sizeOf46 (Mem.own (us := [.slice _ _ _, .int .i64 _, .int .i64 _, .int .i64 _, .int .i64 _, .slice _ _ _]) 0 (by rfl) (by rfl)) (by rfl)) ?_
  refine WS_gen hF (by rfl) (y_callL (by rfl) (by rfl) Try.call88 (fun w hw => asked_any l a cap ae cape w hn (hx.st w hw) (he.st w hw))) ?_
  rintro _ Hg ⟨p, rfl, hg1, hg2⟩
  refine WS_det hF (by rfl) (y_move (c := .tuple _) (by rfl)) ?_
  refine WS_det hF (by rfl) (y_extract (c := .pointer _) (by rfl) (by rfl)) ?_
  refine WS_det hF (by rfl) (y_extract (c := .int .i64 _) (by rfl) (by rfl)) ?_
  refine WS_det hF (by rfl) (y_assign (c := .pointer _) (by rfl)) ?_
  refine WS_det hF (by rfl) (y_assign (c := .int .i64 _) (by rfl)) ?_
  refine WS_nil ?_
  refine Then_normal ?_
  refine W_seq ?_
  refine W_seq ?_
  refine W_region_lit (fun ds => ?_)
  refine WS_det hF (by rfl) (y_move (c := .int .i64 _) (by rfl)) ?_
  refine WS_det hF (by rfl) (y_neq (by rfl) (by rfl)) ?_
  refine WS_nil ?_
  refine Then_normal ?_
  refine W_cond (by rfl) (fun c2 => ?_) (fun c2 => ?_)
  ·
    try simp only [Bool.not_eq_true', Bool.not_eq_false', decide_eq_true_eq, decide_eq_false_iff_not, ne_eq, Classical.not_not, Int.not_lt, Int.not_le] at c2
    obtain rfl := hg2 c2
    refine W_seq ?_
    refine W_region_lit (fun ds => ?_)
    refine WS_det hF (by rfl) (y_move (c := .int .i64 _) (by rfl)) ?_
    refine WS_det hF (by rfl) (y_assign (c := .int .i64 _) (by rfl)) ?_
    refine WS_det hF (by rfl) (y_assign (c := .int .i64 _) (by rfl)) ?_
    refine WS_nil ?_
    refine Then_normal ?_
    refine W_ret ?_
    refine Then_ret ?_
    refine Fin_ret [.int .i64 _, .int .i64 _] [] Try.results33 ⟨by rfl, by rfl, trivial⟩ HSub.nil ?_
    show Value.tuple _ = _
    unfold Lg.whenV
    rw [if_neg c2]
  ·
    try simp only [Bool.not_eq_true', Bool.not_eq_false', decide_eq_true_eq, decide_eq_false_iff_not, ne_eq, Classical.not_not, Int.not_lt, Int.not_le] at c2
    obtain ⟨kb, rfl, bk, g, fb, capf, junk, ab, bb, rfl⟩ := hg1 c2
    have hok := l.ok_of (l.aerr0 c2).1
    have hne := (l.aerr0 c2).2
    have hfull := hok.tk.full_bd
    have hlb := hok.last_bd hne
    have h12 := hok.n12
    refine W_skip ?_
    refine Then_normal ?_
    refine W_seq ?_
    refine W_seq ?_
    refine W_region_lit (fun ds => ?_)
    refine WS_det hF (by rfl) (y_move (c := .pointer _) (by rfl)) ?_
    refine WS_det hF (by rfl) (by first | exact y_nilCheck (by rfl) | exact y_nilCheckF (by rfl)) ?_
    refine WS_det hF (by rfl) (y_fieldAddr (by rfl) fa127_0) ?_
    refine WS_det hF (by rfl) (y_load1 (by rfl) Try.isAgg108 (Mem.own1 0 (by rfl) (by rfl))) ?_
    refine WS_det hF (by rfl) (by first | exact y_nilCheck (by rfl) | exact y_nilCheckF (by rfl)) ?_
    refine WS_det hF (by rfl) (y_fieldAddr (by rfl) fa119_0) ?_
    refine WS_det hF (by rfl) (y_load1 (by rfl) Try.isAgg93 (Mem.own1 4 (by rfl) (by rfl))) ?_
    refine WS_det hF (by rfl) (by first | exact y_nilCheck (by rfl) | exact y_nilCheckF (by rfl)) ?_
    refine WS_det hF (by rfl) (y_fieldAddr (by rfl) fa98_1) ?_
    refine WS_det hF (by rfl) (y_load1 (by rfl) Try.isAgg3 (Mem.own1 5 (by rfl) (by rfl))) ?_
    refine WS_det hF (by rfl) (y_move (c := .int .i64 _) (by rfl)) ?_
    refine WS_newS hF (by rfl) (y_buildSliceL bs22_1_0 (by rfl)) (fun b2 => ?_)
    refine WS_det hF (by rfl) (y_callL (by rfl) (by rfl) Try.call65 (fun w hw => in_any _ _ _ _ _ _ w (by decide) (by first | exact Ints.one 0 rfl w hw | exact Ints.two 0 rfl w hw))) ?_
    refine WS_det hF (by rfl) (y_not (by rfl)) ?_
    refine WS_nil ?_
    refine Then_normal ?_
    refine W_cond (by rfl) (fun c4 => ?_) (fun c4 => ?_)
    ·
      try simp only [Bool.not_eq_true', Bool.not_eq_false', decide_eq_true_eq, decide_eq_false_iff_not, ne_eq, Classical.not_not, Int.not_lt, Int.not_le] at c4
      refine W_seq ?_
      refine W_region_lit (fun ds => ?_)
      refine WS_det hF (by rfl) (y_assign (c := .int .i64 _) (by rfl)) ?_
      refine WS_det hF (by rfl) (y_assign (c := .int .i64 _) (by rfl)) ?_
      refine WS_nil ?_
      refine Then_normal ?_
      refine W_ret ?_
      refine Then_ret ?_
      refine Fin_ret [.int .i64 _, .int .i64 _] [] Try.results33 ⟨by rfl, by rfl, trivial⟩ HSub.nil ?_
      show Value.tuple _ = _
      unfold Lg.whenV
      rw [if_pos c2, c4]; rfl
    ·
      try simp only [Bool.not_eq_true', Bool.not_eq_false', decide_eq_true_eq, decide_eq_false_iff_not, ne_eq, Classical.not_not, Int.not_lt, Int.not_le] at c4
      refine W_skip ?_
      refine Then_normal ?_
      refine W_seq ?_
      refine W_seq ?_
      refine W_region_lit (fun ds => ?_)
      refine WS_det hF (by rfl) (y_move (c := .pointer _) (by rfl)) ?_
      refine WS_det hF (by rfl) (by first | exact y_nilCheck (by rfl) | exact y_nilCheckF (by rfl)) ?_
      refine WS_det hF (by rfl) (y_fieldAddr (by rfl) fa127_1) ?_
      refine WS_det hF (by rfl) (y_load1 (by rfl) Try.isAgg90 (Mem.own1 1 (by rfl) (by rfl))) ?_
      refine WS_det hF (by rfl) (y_len (by rfl) Try.runUnderlying90) ?_
      refine WS_det hF (by rfl) (y_move (c := .int .i64 _) (by rfl)) ?_
      refine WS_nil ?_
      refine Then_normal ?_
      refine W_block ?_
      refine W_loop (γ := Nat) (fun k => k ≤ l.es.length + 1 ∧ ∀ j, j < k → decide (p ≤ (l.at j).lo) = false) (fun k => [(1, .int .i64 p), (6, .pointer (some ⟨kb, 0, none⟩)), (35, .int .i64 ((l.es.length + 1 : Nat) : Int)), (36, .int .i64 (k : Int))]) (fun _ => _) (fun k => l.es.length + 1 - k) (0) ⟨Nat.zero_le _, fun j hj => by omega⟩ (by repeat (first | exact trivial | refine ⟨by rfl, ?_⟩)) (List.Sublist.refl _) ?_
      rintro k e ⟨hk, hne2⟩
      refine W_seq ?_
      refine W_region_lit (fun ds => ?_)
      refine WS_det hF (by rfl) (y_lss (by rfl) (by rfl)) ?_
      refine WS_nil ?_
      refine Then_normal ?_
      refine W_seq ?_
      refine W_cond (by rfl) (fun c7 => ?_) (fun c7 => ?_)
      ·
        try simp only [Bool.not_eq_true', Bool.not_eq_false', decide_eq_true_eq, decide_eq_false_iff_not, ne_eq, Classical.not_not, Int.not_lt, Int.not_le] at c7
        refine W_skip ?_
        refine Then_normal ?_
        refine W_seq ?_
        refine W_block ?_
        refine W_seq ?_
        refine W_region_lit (fun ds => ?_)
        refine WS_det hF (by rfl) (y_move (c := .int .i64 _) (by rfl)) ?_
        refine WS_det hF (by rfl) (y_assign (c := .int .i64 _) (by rfl)) ?_
        refine WS_nil ?_
        refine Then_normal ?_
        refine W_seq ?_
        refine W_region_lit (fun ds => ?_)
        refine WS_det hF (by rfl) (y_move (c := .pointer _) (by rfl)) ?_
        refine WS_det hF (by rfl) (y_move (c := .int .i64 _) (by rfl)) ?_
        refine WS_det hF (by rfl) (y_callL (by rfl) (by rfl) Try.call92 (fun w hw => at_any kb l k w (Kn.own (a := a) (cap := cap) (ae := ae) (cape := cape) (bk := bk) (g := g) (fb := fb) (capf := capf) (junk := junk) (ab := ab) (bb := bb) (by unfold knBlocks; repeat (first | exact List.Sublist.refl _ | exact List.nil_sublist _ | apply List.Sublist.cons_cons | apply List.Sublist.cons)) c2 hx he w hw) (by omega))) ?_
        refine WS_det hF (by rfl) (y_field (by rfl) fd26_0) ?_
        refine WS_det hF (by rfl) (y_move (c := .int .i64 _) (by rfl)) ?_
        refine WS_det hF (by rfl) (y_geq (by rfl) (by rfl)) ?_
        refine WS_nil ?_
        refine Then_normal ?_
        refine W_cond (by rfl) (fun c9 => ?_) (fun c9 => ?_)
        ·
          try simp only [Bool.not_eq_true', Bool.not_eq_false', decide_eq_true_eq, decide_eq_false_iff_not, ne_eq, Classical.not_not, Int.not_lt, Int.not_le] at c9
          refine W_seq ?_
          refine W_region_lit (fun ds => ?_)
          refine WS_det hF (by rfl) (y_move (c := .int .i64 _) (by rfl)) ?_
          refine WS_det hF (by rfl) (y_assign (c := .int .i64 _) (by rfl)) ?_
          refine WS_det hF (by rfl) (y_assign (c := .int .i64 _) (by rfl)) ?_
          refine WS_nil ?_
          refine Then_normal ?_
          refine W_ret ?_
          refine InB_ret ?_
          refine Then_ret ?_
          refine Loop_ret ?_
          refine InB_ret ?_
          refine Then_ret ?_
          refine Fin_ret [.int .i64 _, .int .i64 _] [] Try.results33 ⟨by rfl, by rfl, trivial⟩ HSub.nil ?_
          show Value.tuple _ = _
          unfold Lg.whenV
          rw [if_pos c2, c4, if_pos rfl, firstN_some (k := k) (by omega) (by simp only [decide_eq_true_eq]; omega) hne2]
        ·
          try simp only [Bool.not_eq_true', Bool.not_eq_false', decide_eq_true_eq, decide_eq_false_iff_not, ne_eq, Classical.not_not, Int.not_lt, Int.not_le] at c9
          have hne3 : ∀ j, j < k + 1 → decide (p ≤ (l.at j).lo) = false := fun j hj => by
            obtain hj | rfl : j < k ∨ j = k := by omega
            · exact hne2 j hj
            · simp only [decide_eq_false_iff_not]; omega
          refine W_skip ?_
          refine InB_normal ?_
          refine Then_normal ?_
          refine W_region_lit (fun ds => ?_)
          refine WS_det hF (by rfl) (y_add (by rfl) (by rfl) (by unfold I64; omega)) ?_
          refine WS_det hF (by rfl) (y_move (c := .int .i64 _) (by rfl)) ?_
          refine WS_nil ?_
          exact Loop_next (k + 1) ⟨by omega, hne3⟩ (by repeat (first | exact trivial | refine ⟨by rfl, ?_⟩)) (by repeat (first | exact List.Sublist.refl _ | exact List.nil_sublist _ | apply List.Sublist.cons_cons | apply List.Sublist.cons)) (by omega)
      ·
        try simp only [Bool.not_eq_true', Bool.not_eq_false', decide_eq_true_eq, decide_eq_false_iff_not, ne_eq, Classical.not_not, Int.not_lt, Int.not_le] at c7
        refine W_exit ?_
        refine Then_exit ?_
        refine Loop_exit ?_
        refine InB_same ?_
        refine Then_normal ?_
        refine W_seq ?_
        refine W_region_lit (fun ds => ?_)
        refine WS_det hF (by rfl) (y_assign (c := .int .i64 _) (by rfl)) ?_
        refine WS_det hF (by rfl) (y_assign (c := .int .i64 _) (by rfl)) ?_
        refine WS_nil ?_
        refine Then_normal ?_
        refine W_ret ?_
        refine Fin_ret [.int .i64 _, .int .i64 _] [] Try.results33 ⟨by rfl, by rfl, trivial⟩ HSub.nil ?_
        show Value.tuple _ = _
        unfold Lg.whenV
        rw [if_pos c2, c4, if_pos rfl, firstN_none fun j hj => hne2 j (by omega)]
def Sn.fl (s : Sn) (f : Int) : Sn := ⟨max 0 (s.lo - f), max 0 (s.hi - f)⟩
def Lg.readyV (l : Lg) : Value :=
  if l.aerr = 0 then .tuple #[.agg (l.last.fl (l.tk.up l.tk.foot)).cells.toArray, .int .i64 0] else .tuple #[.agg Sn.z.cells.toArray, .int .i64 l.aerr]
theorem ready_any (l : Lg) (a : Option Addr) (cap : Nat) (ae : Option Addr) (cape : Nat) (w : World) (hn : l.tk.n ≤ 1000000) (hx : Ints w a l.tk.n cap l.tk.pints) (he : Ens w ae l.es.length cape l.es) : Ct Try.prog 35 #[.agg #[.slice a l.tk.n cap, .int .i64 l.tk.leak, .int .i64 l.tk.foot, .int .i64 l.start.lo, .int .i64 l.start.hi, .slice ae l.es.length cape]] w fun v _ => v = l.readyV := by
  have hF := wide_wide
  refine Ct_start (args := [_]) Try.func35 (by rfl) Try.ntmps35 (by rfl) ?_
  refine W_seq ?_
  refine W_region_lit (fun ds => ?_)
  refine WS_new hF (by rfl) (y_box (by rfl)) (fun b1 => ?_)
  refine WS_new hF (by rfl) (y_alloc Try.zeroValue26 (by rfl)) (fun b2 => ?_)
  refine WS_det hF (by rfl) (y_assign (c := .int .i64 _) (by rfl)) ?_
  refine WS_nil ?_
  refine Then_normal ?_
  refine W_seq ?_
  refine W_region_lit (fun ds => ?_)
  refine WS_det hF (by rfl) (y_loadN (by rfl) Try.isAgg46 Try.sizeOf46 (Mem.own (us := [.slice _ _ _, .int .i64 _, .int .i64 _, .int .i64 _, .int .i64 _, .slice _ _ _]) 1 (by rfl) (by rfl)) (by rfl)) ?_
  refine WS_gen hF (by rfl) (y_callL (by rfl) (by rfl) Try.call88 (fun w hw => asked_any l a cap ae cape w hn (hx.st w hw) (he.st w hw))) ?_
  rintro _ Hg ⟨p, rfl, hg1, hg2⟩
  refine WS_det hF (by rfl) (y_move (c := .tuple _) (by rfl)) ?_
  refine WS_det hF (by rfl) (y_extract (c := .pointer _) (by rfl) (by rfl)) ?_
  refine WS_det hF (by rfl) (y_extract (c := .int .i64 _) (by rfl) (by rfl)) ?_
  refine WS_det hF (by rfl) (y_assign (c := .pointer _) (by rfl)) ?_
  refine WS_det hF (by rfl) (y_assign (c := .int .i64 _) (by rfl)) ?_
  refine WS_nil ?_
  refine Then_normal ?_
  refine W_seq ?_
  refine W_seq ?_
  refine W_region_lit (fun ds => ?_)
  refine WS_det hF (by rfl) (y_move (c := .int .i64 _) (by rfl)) ?_
  refine WS_det hF (by rfl) (y_neq (by rfl) (by rfl)) ?_
  refine WS_nil ?_
  refine Then_normal ?_
  refine W_cond (by rfl) (fun c2 => ?_) (fun c2 => ?_)
  ·
    try simp only [Bool.not_eq_true', Bool.not_eq_false', decide_eq_true_eq, decide_eq_false_iff_not, ne_eq, Classical.not_not, Int.not_lt, Int.not_le] at c2
    obtain rfl := hg2 c2
    refine W_seq ?_
    refine W_region_lit (fun ds => ?_)
    refine WS_det hF (by rfl) (y_buildL bd26 (by rfl)) ?_
    refine WS_det hF (by rfl) (y_move (c := .int .i64 _) (by rfl)) ?_
    refine WS_store hF (i := 0) (by rfl) (by rfl) Try.sizeOf26 (by rfl) (by rfl) (by rfl) (by first | decide | exact Nat.le_of_ble_eq_true rfl | simp) ?_
    refine WS_det hF (by rfl) (y_assign (c := .int .i64 _) (by rfl)) ?_
    refine WS_nil ?_
    refine Then_normal ?_
    refine W_ret ?_
    refine Then_ret ?_
    refine Fin_ret [_, .int .i64 _] [] Try.results35 ⟨lvN (by rfl) Try.isAgg26 Try.sizeOf26 (Mem.own (us := [.int .i64 _, .int .i64 _]) 0 (by rfl) (by rfl)) (by rfl), by rfl, trivial⟩ HSub.nil ?_
    show Value.tuple _ = _
    unfold Lg.readyV
    rw [if_neg c2]; rfl
  ·
    try simp only [Bool.not_eq_true', Bool.not_eq_false', decide_eq_true_eq, decide_eq_false_iff_not, ne_eq, Classical.not_not, Int.not_lt, Int.not_le] at c2
    obtain ⟨kb, rfl, bk, g, fb, capf, junk, ab, bb, rfl⟩ := hg1 c2
    have hok := l.ok_of (l.aerr0 c2).1
    have hne := (l.aerr0 c2).2
    have hfull := hok.tk.full_bd
    have hlb := hok.last_bd hne
    have hf0 := hok.tk.foot0
    have hf1 := hok.tk.foot1
    have hup := hok.tk.eight_bd hf0 hf1
    have hfe : 0 ≤ l.tk.up l.tk.foot ∧ l.tk.up l.tk.foot ≤ 100000 := by unfold Tk.up; omega
    refine W_skip ?_
    refine Then_normal ?_
    refine W_seq ?_
    refine W_draw0 hF Trymixed [6] (by decide +kernel) (fun ds => ?_)
    refine P_det (by rfl) (Over_nil (y_move (c := .pointer _) (by rfl))) ?_
    refine P_det (by rfl) (Over_nil (y_callL (by rfl) (by rfl) Try.call89 (fun w hw => last_any kb l w (Kn.own (a := a) (cap := cap) (ae := ae) (cape := cape) (bk := bk) (g := g) (fb := fb) (capf := capf) (junk := junk) (ab := ab) (bb := bb) (by unfold knBlocks; repeat (first | exact List.Sublist.refl _ | exact List.nil_sublist _ | apply List.Sublist.cons_cons | apply List.Sublist.cons)) c2 hx he w hw)))) ?_
    refine P_det (by rfl) (Over_nil (y_move (c := .pointer _) (by rfl))) ?_
    refine P_det (by rfl) (Over_nil (by first | exact y_nilCheck (by rfl) | exact y_nilCheckF (by rfl))) ?_
    refine P_det (by rfl) (Over_nil (y_fieldAddr (by rfl) fa127_0)) ?_
    refine P_det (by rfl) (Over_nil (y_load1 (by rfl) Try.isAgg108 (Mem.own1 0 (by rfl) (by rfl)))) ?_
    refine P_det (by rfl) (Over_nil (by first | exact y_nilCheck (by rfl) | exact y_nilCheckF (by rfl))) ?_
    refine P_det (by rfl) (Over_nil (y_fieldAddr (by rfl) fa119_0)) ?_
    refine P_det (by rfl) (Over_nil (y_load1 (by rfl) Try.isAgg93 (Mem.own1 4 (by rfl) (by rfl)))) ?_
    refine P_det (by rfl) (Over_nil (y_move (c := .pointer _) (by rfl))) ?_
    refine P_det (by rfl) (Over_nil (by first | exact y_nilCheck (by rfl) | exact y_nilCheckF (by rfl))) ?_
    refine P_det (by rfl) (Over_nil (y_fieldAddr (by rfl) fa127_0)) ?_
    refine P_det (by rfl) (Over_nil (y_load1 (by rfl) Try.isAgg108 (Mem.own1 0 (by rfl) (by rfl)))) ?_
    refine P_det (by rfl) (Over_nil (by first | exact y_nilCheck (by rfl) | exact y_nilCheckF (by rfl))) ?_
    refine P_det (by rfl) (Over_nil (y_fieldAddr (by rfl) fa119_0)) ?_
    refine P_det (by rfl) (Over_nil (y_load1 (by rfl) Try.isAgg93 (Mem.own1 4 (by rfl) (by rfl)))) ?_
    refine P_det (by rfl) (Over_nil (by first | exact y_nilCheck (by rfl) | exact y_nilCheckF (by rfl))) ?_
    refine P_det (by rfl) (Over_nil (y_fieldAddr (by rfl) fa98_0)) ?_
    refine P_det (by rfl) (Over_nil (y_fieldAddr (by rfl) fa24_2)) ?_
    refine P_det (by rfl) (Over_nil (y_load1 (by rfl) Try.isAgg3 (Mem.own1 5 (by rfl) (by rfl)))) ?_
    refine P_det (by rfl) (Over_nil (y_callL (by rfl) (by rfl) Try.call94 (fun w hw => up_any g 0 l.tk l.tk.foot w (Gg.own (by repeat (first | exact List.mem_cons_self | apply List.mem_cons_of_mem)) (Tk.ok_iff.2 hok.tk) hx w hw) hf0 hf1))) ?_
    apply P_newS _ (by rfl) (by rfl) (by rfl) (Over_nil (y_alloc Try.zeroValue26 (by rfl)))
    refine P_st 6 0 (by rfl) (by rfl) (by rfl) (by rfl) (by rfl) (Over_nil (st_new (fun _ => by rfl) Try.sizeOf26 (by rfl) (by rfl) (by first | decide | exact Nat.le_of_ble_eq_true rfl | simp))) ?_
    refine P_det (by rfl) (Over_out (by rfl) (Over_nil (y_assign (c := .int .i64 _) (by rfl)))) ?_
    refine PW_end (by rfl) ?_
    refine OverAll_cons (fun w6 l6 => ?_)
    refine OverAll_nil ?_
    rintro ⟨-, h6⟩
    obtain ⟨b3, rfl, rfl⟩ := h6
    refine Then_normal ?_
    refine W_seq ?_
    refine W_region_lit (fun ds => ?_)
    refine WS_det hF (by rfl) (y_fieldAddr (by rfl) fa26_0) ?_
    refine WS_det hF (by rfl) (y_load1 (by rfl) Try.isAgg3 (Mem.own1 0 (by rfl) (by rfl))) ?_
    refine WS_det hF (by rfl) (y_move (c := .int .i64 _) (by rfl)) ?_
    refine WS_det hF (by rfl) (y_sub (by rfl) (by rfl) (by unfold I64; omega)) ?_
    refine WS_det hF (by rfl) (y_max (by rfl) (by rfl)) ?_
    refine WS_det hF (by rfl) (y_fieldAddr (by rfl) fa26_1) ?_
    refine WS_det hF (by rfl) (y_load1 (by rfl) Try.isAgg3 (Mem.own1 0 (by rfl) (by rfl))) ?_
    refine WS_det hF (by rfl) (y_move (c := .int .i64 _) (by rfl)) ?_
    refine WS_det hF (by rfl) (y_sub (by rfl) (by rfl) (by unfold I64; omega)) ?_
    refine WS_det hF (by rfl) (y_max (by rfl) (by rfl)) ?_
    refine WS_det hF (by rfl) (y_buildL bd26_0_1 (by rfl)) ?_
    refine WS_store hF (i := 7) (by rfl) (by rfl) Try.sizeOf26 (by rfl) (by rfl) (by rfl) (by first | decide | exact Nat.le_of_ble_eq_true rfl | simp) ?_
    refine WS_det hF (by rfl) (y_assign (c := .int .i64 _) (by rfl)) ?_
    refine WS_nil ?_
    refine Then_normal ?_
    refine W_ret ?_
    refine Fin_ret [_, .int .i64 _] [] Try.results35 ⟨lvN (by rfl) Try.isAgg26 Try.sizeOf26 (Mem.own (us := [.int .i64 _, .int .i64 _]) 7 (by rfl) (by rfl)) (by rfl), by rfl, trivial⟩ HSub.nil ?_
    show Value.tuple _ = _
    unfold Lg.readyV
    rw [if_pos c2]; rfl
def Lg.roomV (l : Lg) : Value :=
  if l.aerr = 0 then .tuple #[.agg (Sn.sub ⟨l.tk.full, l.tk.full⟩ l.last).cells.toArray, .int .i64 0] else .tuple #[.agg Sn.z.cells.toArray, .int .i64 l.aerr]
theorem room_any (l : Lg) (a : Option Addr) (cap : Nat) (ae : Option Addr) (cape : Nat) (w : World) (hn : l.tk.n ≤ 1000000) (hx : Ints w a l.tk.n cap l.tk.pints) (he : Ens w ae l.es.length cape l.es) : Ct Try.prog 37 #[.agg #[.slice a l.tk.n cap, .int .i64 l.tk.leak, .int .i64 l.tk.foot, .int .i64 l.start.lo, .int .i64 l.start.hi, .slice ae l.es.length cape]] w fun v _ => v = l.roomV := by
  have hF := wide_wide
  refine Ct_start (args := [_]) Try.func37 (by rfl) Try.ntmps37 (by rfl) ?_
  refine W_seq ?_
  refine W_region_lit (fun ds => ?_)
  refine WS_new hF (by rfl) (y_box (by rfl)) (fun b1 => ?_)
  refine WS_new hF (by rfl) (y_alloc Try.zeroValue26 (by rfl)) (fun b2 => ?_)
  refine WS_det hF (by rfl) (y_assign (c := .int .i64 _) (by rfl)) ?_
  refine WS_nil ?_
  refine Then_normal ?_
  refine W_seq ?_
  refine W_region_lit (fun ds => ?_)
  refine WS_det hF (by rfl) (y_loadN (by rfl) Try.isAgg46 Try.sizeOf46 (Mem.own (us := [.slice _ _ _, .int .i64 _, .int .i64 _, .int .i64 _, .int .i64 _, .slice _ _ _]) 1 (by rfl) (by rfl)) (by rfl)) ?_
  refine WS_gen hF (by rfl) (y_callL (by rfl) (by rfl) Try.call88 (fun w hw => asked_any l a cap ae cape w hn (hx.st w hw) (he.st w hw))) ?_
  rintro _ Hg ⟨p, rfl, hg1, hg2⟩
  refine WS_det hF (by rfl) (y_move (c := .tuple _) (by rfl)) ?_
  refine WS_det hF (by rfl) (y_extract (c := .pointer _) (by rfl) (by rfl)) ?_
  refine WS_det hF (by rfl) (y_extract (c := .int .i64 _) (by rfl) (by rfl)) ?_
  refine WS_det hF (by rfl) (y_assign (c := .pointer _) (by rfl)) ?_
  refine WS_det hF (by rfl) (y_assign (c := .int .i64 _) (by rfl)) ?_
  refine WS_nil ?_
  refine Then_normal ?_
  refine W_seq ?_
  refine W_seq ?_
  refine W_region_lit (fun ds => ?_)
  refine WS_det hF (by rfl) (y_move (c := .int .i64 _) (by rfl)) ?_
  refine WS_det hF (by rfl) (y_neq (by rfl) (by rfl)) ?_
  refine WS_nil ?_
  refine Then_normal ?_
  refine W_cond (by rfl) (fun c2 => ?_) (fun c2 => ?_)
  ·
    try simp only [Bool.not_eq_true', Bool.not_eq_false', decide_eq_true_eq, decide_eq_false_iff_not, ne_eq, Classical.not_not, Int.not_lt, Int.not_le] at c2
    obtain rfl := hg2 c2
    refine W_seq ?_
    refine W_region_lit (fun ds => ?_)
    refine WS_det hF (by rfl) (y_buildL bd26 (by rfl)) ?_
    refine WS_det hF (by rfl) (y_move (c := .int .i64 _) (by rfl)) ?_
    refine WS_store hF (i := 0) (by rfl) (by rfl) Try.sizeOf26 (by rfl) (by rfl) (by rfl) (by first | decide | exact Nat.le_of_ble_eq_true rfl | simp) ?_
    refine WS_det hF (by rfl) (y_assign (c := .int .i64 _) (by rfl)) ?_
    refine WS_nil ?_
    refine Then_normal ?_
    refine W_ret ?_
    refine Then_ret ?_
    refine Fin_ret [_, .int .i64 _] [] Try.results37 ⟨lvN (by rfl) Try.isAgg26 Try.sizeOf26 (Mem.own (us := [.int .i64 _, .int .i64 _]) 0 (by rfl) (by rfl)) (by rfl), by rfl, trivial⟩ HSub.nil ?_
    show Value.tuple _ = _
    unfold Lg.roomV
    rw [if_neg c2]; rfl
  ·
    try simp only [Bool.not_eq_true', Bool.not_eq_false', decide_eq_true_eq, decide_eq_false_iff_not, ne_eq, Classical.not_not, Int.not_lt, Int.not_le] at c2
    obtain ⟨kb, rfl, bk, g, fb, capf, junk, ab, bb, rfl⟩ := hg1 c2
    have hok := l.ok_of (l.aerr0 c2).1
    have hne := (l.aerr0 c2).2
    have hfull := hok.tk.full_bd
    have hlb := hok.last_bd hne
    refine W_skip ?_
    refine Then_normal ?_
    refine W_seq ?_
    apply W_draw1 hF Trymixed [1000000] (i := 6) (by rfl) (by decide +kernel)
    intro ds
    refine P_det (by rfl) (Over_out (by rfl) (Over_nil (y_move (c := .pointer _) (by rfl)))) ?_
    refine P_det (by rfl) (Over_out (by rfl) (Over_nil (by first | exact y_nilCheck (by rfl) | exact y_nilCheckF (by rfl)))) ?_
    refine P_det (by rfl) (Over_out (by rfl) (Over_nil (y_fieldAddr (by rfl) fa127_0))) ?_
    refine P_det (by rfl) (Over_out (by rfl) (Over_nil (y_load1 (by rfl) Try.isAgg108 (Mem.own1 0 (by rfl) (by rfl))))) ?_
    refine P_det (by rfl) (Over_out (by rfl) (Over_nil (by first | exact y_nilCheck (by rfl) | exact y_nilCheckF (by rfl)))) ?_
    refine P_det (by rfl) (Over_out (by rfl) (Over_nil (y_fieldAddr (by rfl) fa119_0))) ?_
    refine P_det (by rfl) (Over_out (by rfl) (Over_nil (y_load1 (by rfl) Try.isAgg93 (Mem.own1 4 (by rfl) (by rfl))))) ?_
    refine P_det (by rfl) (Over_out (by rfl) (Over_nil (by first | exact y_nilCheck (by rfl) | exact y_nilCheckF (by rfl)))) ?_
    refine P_det (by rfl) (Over_out (by rfl) (Over_nil (y_fieldAddr (by rfl) fa98_1))) ?_
    refine P_det (by rfl) (Over_out (by rfl) (Over_nil (y_load1 (by rfl) Try.isAgg3 (Mem.own1 5 (by rfl) (by rfl))))) ?_
    refine P_det (by rfl) (Over_out (by rfl) (Over_nil (y_move (c := .pointer _) (by rfl)))) ?_
    refine P_det (by rfl) (Over_out (by rfl) (Over_nil (by first | exact y_nilCheck (by rfl) | exact y_nilCheckF (by rfl)))) ?_
    refine P_det (by rfl) (Over_out (by rfl) (Over_nil (y_fieldAddr (by rfl) fa127_0))) ?_
    refine P_det (by rfl) (Over_out (by rfl) (Over_nil (y_load1 (by rfl) Try.isAgg108 (Mem.own1 0 (by rfl) (by rfl))))) ?_
    refine P_det (by rfl) (Over_out (by rfl) (Over_nil (by first | exact y_nilCheck (by rfl) | exact y_nilCheckF (by rfl)))) ?_
    refine P_det (by rfl) (Over_out (by rfl) (Over_nil (y_fieldAddr (by rfl) fa119_0))) ?_
    refine P_det (by rfl) (Over_out (by rfl) (Over_nil (y_load1 (by rfl) Try.isAgg93 (Mem.own1 4 (by rfl) (by rfl))))) ?_
    refine P_det (by rfl) (Over_out (by rfl) (Over_nil (by first | exact y_nilCheck (by rfl) | exact y_nilCheckF (by rfl)))) ?_
    refine P_det (by rfl) (Over_out (by rfl) (Over_nil (y_fieldAddr (by rfl) fa98_1))) ?_
    refine P_det (by rfl) (Over_out (by rfl) (Over_nil (y_load1 (by rfl) Try.isAgg3 (Mem.own1 5 (by rfl) (by rfl))))) ?_
    refine P_det (by rfl) (Over_out (by rfl) (Over_nil (y_buildL bd26_0_1 (by rfl)))) ?_
    refine P_det (by rfl) (Over_out (by rfl) (Over_nil (y_move (c := .pointer _) (by rfl)))) ?_
    refine P_det (by rfl) (Over_out (by rfl) (Over_nil (y_callL (by rfl) (by rfl) Try.call89 (fun w hw => last_any kb l w (Kn.own (a := a) (cap := cap) (ae := ae) (cape := cape) (bk := bk) (g := g) (fb := fb) (capf := capf) (junk := junk) (ab := ab) (bb := bb) (by unfold knBlocks; repeat (first | exact List.Sublist.refl _ | exact List.nil_sublist _ | apply List.Sublist.cons_cons | apply List.Sublist.cons)) c2 hx he w hw))))) ?_
    refine P_det (by rfl) (Over_out (by rfl) (Over_nil (y_callL (by rfl) (by rfl) Try.call96 (fun w hw => change_any ⟨l.tk.full, l.tk.full⟩ l.last w (by unfold Sn.Sm; simp only; omega) (by unfold Sn.Sm; omega))))) ?_
    refine P_st 1000000 0 (by rfl) (by rfl) (by rfl) (by rfl) (by rfl) (Over_nil (st_pre (fun _ => by rfl) (fun _ => by rfl) Try.sizeOf26 (by rfl) (by rfl) (by first | decide | exact Nat.le_of_ble_eq_true rfl | simp))) ?_
    refine P_det (by rfl) (Over_out (by rfl) (Over_nil (y_assign (c := .int .i64 _) (by rfl)))) ?_
    refine PW_end (by rfl) ?_
    refine OverAll_cons (fun w1000000 l1000000 => ?_)
    refine OverAll_nil ?_
    rintro ⟨-, h1000000⟩
    obtain rfl := h1000000
    refine Then_normal ?_
    refine W_ret ?_
    refine Fin_ret [_, .int .i64 _] [] Try.results37 ⟨lvN (by rfl) Try.isAgg26 Try.sizeOf26 (Mem.own (us := [.int .i64 _, .int .i64 _]) 0 (by rfl) (by rfl)) (by rfl), by rfl, trivial⟩ HSub.nil ?_
    show Value.tuple _ = _
    unfold Lg.roomV
    rw [if_pos c2]; rfl
end Go.Proofs.Ythkimgfgpphgnaa.T

/- The dip that tells most: the walk. -/
namespace Go.Proofs.Ythkimgfgpphgnaa.T
open Go.RowKit Go.Proofs Go.Eng
set_option maxRecDepth 100000
set_option linter.unusedVariables false
set_option linter.unusedSimpArgs false



def cmpI (x y : Int) : Int := if x < y then -1 else if y < x then 1 else 0
theorem compare_any (x y : Int) (w : World) : Ct Try.prog 101 #[.int .i64 x, .int .i64 y] w fun v _ => v = .int .i64 (cmpI x y) := by
  have hF := wide_wide
  refine Ct_start (args := [_, _]) Try.func101 (by rfl) Try.ntmps101 (by rfl) ?_
  refine W_seq ?_
  refine W_region_lit (fun ds => ?_)
  refine WS_det hF (by rfl) (y_assign (c := .int .i64 _) (by rfl)) ?_
  refine WS_nil ?_
  refine Then_normal ?_
  refine W_seq ?_
  refine W_region_lit (fun ds => ?_)
  refine WS_det hF (by rfl) (y_move (c := .int .i64 _) (by rfl)) ?_
  refine WS_det hF (by rfl) (y_callL (by rfl) (by rfl) Try.call129 (fun w hw => cnan_any _ w)) ?_
  refine WS_det hF (by rfl) (y_assign (c := .bool _) (by rfl)) ?_
  refine WS_nil ?_
  refine Then_normal ?_
  refine W_seq ?_
  refine W_region_lit (fun ds => ?_)
  refine WS_det hF (by rfl) (y_move (c := .int .i64 _) (by rfl)) ?_
  refine WS_det hF (by rfl) (y_callL (by rfl) (by rfl) Try.call129 (fun w hw => cnan_any _ w)) ?_
  refine WS_det hF (by rfl) (y_assign (c := .bool _) (by rfl)) ?_
  refine WS_nil ?_
  refine Then_normal ?_
  refine W_seq ?_
  refine W_seq ?_
  refine W_region_lit (fun ds => ?_)
  refine WS_det hF (by rfl) (y_move (c := .bool _) (by rfl)) ?_
  refine WS_nil ?_
  refine Then_normal ?_
  refine W_cond (by rfl) (fun c3 => ?_) (fun c3 => ?_)
  · cases c3
  ·
    try simp only [Bool.not_eq_true', Bool.not_eq_false', decide_eq_true_eq, decide_eq_false_iff_not, ne_eq, Classical.not_not, Int.not_lt, Int.not_le] at c3
    refine W_skip ?_
    refine Then_normal ?_
    refine W_seq ?_
    refine W_seq ?_
    refine W_region_lit (fun ds => ?_)
    refine WS_det hF (by rfl) (y_move (c := .bool _) (by rfl)) ?_
    refine WS_nil ?_
    refine Then_normal ?_
    refine W_cond (by rfl) (fun c7 => ?_) (fun c7 => ?_)
    · cases c7
    ·
      try simp only [Bool.not_eq_true', Bool.not_eq_false', decide_eq_true_eq, decide_eq_false_iff_not, ne_eq, Classical.not_not, Int.not_lt, Int.not_le] at c7
      refine W_skip ?_
      refine Then_normal ?_
      refine W_seq ?_
      refine W_seq ?_
      refine W_region_lit (fun ds => ?_)
      refine WS_det hF (by rfl) (y_move (c := .int .i64 _) (by rfl)) ?_
      refine WS_det hF (by rfl) (y_move (c := .int .i64 _) (by rfl)) ?_
      refine WS_det hF (by rfl) (y_lss (by rfl) (by rfl)) ?_
      refine WS_nil ?_
      refine Then_normal ?_
      refine W_cond (by rfl) (fun c9 => ?_) (fun c9 => ?_)
      ·
        try simp only [Bool.not_eq_true', Bool.not_eq_false', decide_eq_true_eq, decide_eq_false_iff_not, ne_eq, Classical.not_not, Int.not_lt, Int.not_le] at c9
        refine W_seq ?_
        refine W_region_lit (fun ds => ?_)
        refine WS_det hF (by rfl) (y_assign (c := .int .i64 _) (by rfl)) ?_
        refine WS_nil ?_
        refine Then_normal ?_
        refine W_ret ?_
        refine Then_ret ?_
        refine Fin_ret [.int .i64 _] [] Try.results101 ⟨by rfl, trivial⟩ HSub.nil ?_
        show Value.int _ _ = _
        unfold cmpI
        rw [if_pos (by omega)]
      ·
        try simp only [Bool.not_eq_true', Bool.not_eq_false', decide_eq_true_eq, decide_eq_false_iff_not, ne_eq, Classical.not_not, Int.not_lt, Int.not_le] at c9
        refine W_skip ?_
        refine Then_normal ?_
        refine W_seq ?_
        refine W_seq ?_
        refine W_region_lit (fun ds => ?_)
        refine WS_det hF (by rfl) (y_move (c := .int .i64 _) (by rfl)) ?_
        refine WS_det hF (by rfl) (y_move (c := .int .i64 _) (by rfl)) ?_
        refine WS_det hF (by rfl) (y_gtr (by rfl) (by rfl)) ?_
        refine WS_nil ?_
        refine Then_normal ?_
        refine W_cond (by rfl) (fun c11 => ?_) (fun c11 => ?_)
        ·
          try simp only [Bool.not_eq_true', Bool.not_eq_false', decide_eq_true_eq, decide_eq_false_iff_not, ne_eq, Classical.not_not, Int.not_lt, Int.not_le] at c11
          refine W_seq ?_
          refine W_region_lit (fun ds => ?_)
          refine WS_det hF (by rfl) (y_assign (c := .int .i64 _) (by rfl)) ?_
          refine WS_nil ?_
          refine Then_normal ?_
          refine W_ret ?_
          refine Then_ret ?_
          refine Fin_ret [.int .i64 _] [] Try.results101 ⟨by rfl, trivial⟩ HSub.nil ?_
          show Value.int _ _ = _
          unfold cmpI
          rw [if_neg (by omega), if_pos (by omega)]
        ·
          try simp only [Bool.not_eq_true', Bool.not_eq_false', decide_eq_true_eq, decide_eq_false_iff_not, ne_eq, Classical.not_not, Int.not_lt, Int.not_le] at c11
          refine W_skip ?_
          refine Then_normal ?_
          refine W_seq ?_
          refine W_region_lit (fun ds => ?_)
          refine WS_det hF (by rfl) (y_assign (c := .int .i64 _) (by rfl)) ?_
          refine WS_nil ?_
          refine Then_normal ?_
          refine W_ret ?_
          refine Fin_ret [.int .i64 _] [] Try.results101 ⟨by rfl, trivial⟩ HSub.nil ?_
          show Value.int _ _ = _
          unfold cmpI
          rw [if_neg (by omega), if_neg (by omega)]
def worstS (t : Tk) (s : Sn) (i : Int) : Int := max (min (max 0 (t.up i - s.lo)) (s.hi - s.lo + 1)) (s.hi - s.lo + 1 - min (max 0 (t.up i - s.lo)) (s.hi - s.lo + 1))
def Lg.worst (l : Lg) (i : Int) : Int := worstS l.tk l.last i
/-- The first index of the least value. -/
def bestN (f : Nat → Int) : Nat → Nat
  | 0 => 0
  | k + 1 => if f k < f (bestN f k) then k else bestN f k
theorem bestN_le (f : Nat → Int) : ∀ k, bestN f k ≤ k
  | 0 => Nat.le_refl _
  | k + 1 => by
    have := bestN_le f k
    unfold bestN
    split <;> omega
theorem bestN_lt (f : Nat → Int) : ∀ k, 0 < k → bestN f k < k
  | 0, h => by omega
  | k + 1, h => by
    have := bestN_le f k
    unfold bestN
    split <;> omega
/-- What the closures of Ask see. -/
structure Wo (w : World) (b5 b6 b7 kb : Nat) (l : Lg) : Prop where
  k : At w b5 0 [.pointer (some ⟨kb, 0, none⟩)]
  s : At w b6 0 l.last.cells
  f : At w b7 0 [.func (.func 97) #[] #[.pointer (some ⟨b5, 0, none⟩), .pointer (some ⟨b6, 0, none⟩)]]
  kn : Kn w kb l
theorem Wo.st {C : Ctx} {H : List Blk} {b5 b6 b7 kb : Nat} {l : Lg} (h : Wo C.w0 b5 b6 b7 kb l) (w : World) (hw : St C H w) : Wo w b5 b6 b7 kb l := ⟨At.old hw.1 h.k, At.old hw.1 h.s, At.old hw.1 h.f, h.kn.st w hw⟩

theorem ask1_any (b5 b6 b7 kb : Nat) (l : Lg) (i : Int) (w : World) (hW : Wo w b5 b6 b7 kb l) (h0 : 0 ≤ i) (h1 : i ≤ l.tk.height) :
    Ct Try.prog 97 #[.int .i64 i, .pointer (some ⟨b5, 0, none⟩), .pointer (some ⟨b6, 0, none⟩)] w fun v _ => v = .int .i64 (l.worst i) := by
  obtain ⟨k1, k2, _, hok, hne, bk, fb, capf, ab, bb, k3, _, _, _, _, g, a, cap, ae, cape, k4, hG, _⟩ := hW
  have hlb := hok.last_bd hne
  have hfull := hok.tk.full_bd
  have he := hok.tk.eight_bd h0 h1
  have hue : 0 ≤ l.tk.up i ∧ l.tk.up i ≤ 100000 := by unfold Tk.up; omega
  have hF := wide_wide
  refine Ct_start (args := [_, _, _]) Try.func97 (by rfl) Try.ntmps97 (by rfl) ?_
  refine W_seq ?_
  refine W_region_lit (fun ds => ?_)
  refine WS_det hF (by rfl) (y_assign (c := .int .i64 _) (by rfl)) ?_
  refine WS_nil ?_
  refine Then_normal ?_
  refine W_seq ?_
  refine W_draw0 hF Trymixed [] (by decide +kernel) (fun ds => ?_)
  refine P_det (by rfl) (Over_nil (y_load1 (by rfl) Try.isAgg123 (by first | exact Mem.old1 (by assumption) | exact Mem.oldAt1 (by assumption) (by rfl) | exact Mem.old (by assumption) | exact Mem.oldAtL1 (by assumption) (by rfl) (by rfl)))) ?_
  refine P_det (by rfl) (Over_nil (by first | exact y_nilCheck (by rfl) | exact y_nilCheckF (by rfl))) ?_
  refine P_det (by rfl) (Over_nil (y_fieldAddr (by rfl) fa127_0)) ?_
  refine P_det (by rfl) (Over_nil (y_load1 (by rfl) Try.isAgg108 (by first | exact Mem.old1 (by assumption) | exact Mem.oldAt1 (by assumption) (by rfl) | exact Mem.old (by assumption) | exact Mem.oldAtL1 (by assumption) (by rfl) (by rfl)))) ?_
  refine P_det (by rfl) (Over_nil (by first | exact y_nilCheck (by rfl) | exact y_nilCheckF (by rfl))) ?_
  refine P_det (by rfl) (Over_nil (y_fieldAddr (by rfl) fa119_0)) ?_
  refine P_det (by rfl) (Over_nil (y_load1 (by rfl) Try.isAgg93 (by first | exact Mem.old1 (by assumption) | exact Mem.oldAt1 (by assumption) (by rfl) | exact Mem.old (by assumption) | exact Mem.oldAtL1 (by assumption) (by rfl) (by rfl)))) ?_
  refine P_det (by rfl) (Over_nil (y_move (c := .int .i64 _) (by rfl))) ?_
  refine P_det (by rfl) (Over_nil (y_callL (by rfl) (by rfl) Try.call94 (fun w hw => up_any g 0 l.tk i w (hG.st w hw) h0 h1))) ?_
  refine P_det (by rfl) (Over_nil (y_fieldAddr (by rfl) fa26_0)) ?_
  refine P_det (by rfl) (Over_nil (y_load1 (by rfl) Try.isAgg3 (by first | exact Mem.old1 (by assumption) | exact Mem.oldAt1 (by assumption) (by rfl) | exact Mem.old (by assumption) | exact Mem.oldAtL1 (by assumption) (by rfl) (by rfl)))) ?_
  refine P_det (by rfl) (Over_nil (y_sub (by rfl) (by rfl) (by unfold I64; omega))) ?_
  refine P_det (by rfl) (Over_nil (y_max (by rfl) (by rfl))) ?_
  refine P_det (by rfl) (Over_nil (y_fieldAddr (by rfl) fa26_1)) ?_
  refine P_det (by rfl) (Over_nil (y_load1 (by rfl) Try.isAgg3 (by first | exact Mem.old1 (by assumption) | exact Mem.oldAt1 (by assumption) (by rfl) | exact Mem.old (by assumption) | exact Mem.oldAtL1 (by assumption) (by rfl) (by rfl)))) ?_
  refine P_det (by rfl) (Over_nil (y_fieldAddr (by rfl) fa26_0)) ?_
  refine P_det (by rfl) (Over_nil (y_load1 (by rfl) Try.isAgg3 (by first | exact Mem.old1 (by assumption) | exact Mem.oldAt1 (by assumption) (by rfl) | exact Mem.old (by assumption) | exact Mem.oldAtL1 (by assumption) (by rfl) (by rfl)))) ?_
  refine P_det (by rfl) (Over_nil (y_sub (by rfl) (by rfl) (by unfold I64; omega))) ?_
  refine P_det (by rfl) (Over_nil (y_add (by rfl) (by rfl) (by unfold I64; omega))) ?_
  refine P_det (by rfl) (Over_nil (y_min (by rfl) (by rfl))) ?_
  refine P_det (by rfl) (Over_nil (y_assign (c := .int .i64 _) (by rfl))) ?_
  refine PW_end (by rfl) ?_
  refine OverAll_nil ?_
  rintro -
  refine Then_normal ?_
  refine W_seq ?_
  refine W_region_lit (fun ds => ?_)
  refine WS_det hF (by rfl) (y_move (c := .int .i64 _) (by rfl)) ?_
  refine WS_det hF (by rfl) (y_fieldAddr (by rfl) fa26_1) ?_
  refine WS_det hF (by rfl) (y_load1 (by rfl) Try.isAgg3 (by first | exact Mem.old1 (by assumption) | exact Mem.oldAt1 (by assumption) (by rfl) | exact Mem.old (by assumption) | exact Mem.oldAtL1 (by assumption) (by rfl) (by rfl))) ?_
  refine WS_det hF (by rfl) (y_fieldAddr (by rfl) fa26_0) ?_
  refine WS_det hF (by rfl) (y_load1 (by rfl) Try.isAgg3 (by first | exact Mem.old1 (by assumption) | exact Mem.oldAt1 (by assumption) (by rfl) | exact Mem.old (by assumption) | exact Mem.oldAtL1 (by assumption) (by rfl) (by rfl))) ?_
  refine WS_det hF (by rfl) (y_sub (by rfl) (by rfl) (by unfold I64; omega)) ?_
  refine WS_det hF (by rfl) (y_add (by rfl) (by rfl) (by unfold I64; omega)) ?_
  refine WS_det hF (by rfl) (y_move (c := .int .i64 _) (by rfl)) ?_
  refine WS_det hF (by rfl) (y_sub (by rfl) (by rfl) (by unfold I64; omega)) ?_
  refine WS_det hF (by rfl) (y_max (by rfl) (by rfl)) ?_
  refine WS_det hF (by rfl) (y_assign (c := .int .i64 _) (by rfl)) ?_
  refine WS_nil ?_
  refine Then_normal ?_
  refine W_ret ?_
  refine Fin_ret [.int .i64 _] [] Try.results97 ⟨by rfl, trivial⟩ HSub.nil ?_
  rfl
theorem ask3_any (b5 b6 b7 kb : Nat) (l : Lg) (x y : Int) (w : World) (hW : Wo w b5 b6 b7 kb l) (h0 : 0 ≤ x) (h1 : x ≤ l.tk.height) (h2 : 0 ≤ y) (h3 : y ≤ l.tk.height) :
    Ct Try.prog 100 #[.int .i64 x, .int .i64 y, .pointer (some ⟨b7, 0, none⟩)] w fun v _ => v = .int .i64 (cmpI (l.worst x) (l.worst y)) := by
  have hW0 := hW
  obtain ⟨_, _, k3, _⟩ := hW
  have hF := wide_wide
  refine Ct_start (args := [_, _, _]) Try.func100 (by rfl) Try.ntmps100 (by rfl) ?_
  refine W_seq ?_
  refine W_region_lit (fun ds => ?_)
  refine WS_det hF (by rfl) (y_assign (c := .int .i64 _) (by rfl)) ?_
  refine WS_nil ?_
  refine Then_normal ?_
  refine W_seq ?_
  refine W_draw0 hF Trymixed [] (by decide +kernel) (fun ds => ?_)
  refine P_det (by rfl) (Over_nil (y_load1 (by rfl) Try.isAgg99 (by first | exact Mem.old1 (by assumption) | exact Mem.oldAt1 (by assumption) (by rfl) | exact Mem.old (by assumption) | exact Mem.oldAtL1 (by assumption) (by rfl) (by rfl)))) ?_
  refine P_det (by rfl) (Over_nil (y_move (c := .int .i64 _) (by rfl))) ?_
  refine P_det (by rfl) (Over_nil (y_callL (by rfl) (by rfl) Try.call97 (fun w hw => ask1_any b5 b6 b7 kb l x w (hW0.st w hw) h0 h1))) ?_
  refine P_det (by rfl) (Over_nil (y_load1 (by rfl) Try.isAgg99 (by first | exact Mem.old1 (by assumption) | exact Mem.oldAt1 (by assumption) (by rfl) | exact Mem.old (by assumption) | exact Mem.oldAtL1 (by assumption) (by rfl) (by rfl)))) ?_
  refine P_det (by rfl) (Over_nil (y_move (c := .int .i64 _) (by rfl))) ?_
  refine P_det (by rfl) (Over_nil (y_callL (by rfl) (by rfl) Try.call97 (fun w hw => ask1_any b5 b6 b7 kb l y w (hW0.st w hw) h2 h3))) ?_
  refine P_det (by rfl) (Over_nil (y_callL (by rfl) (by rfl) Try.call101 (fun w hw => compare_any _ _ w))) ?_
  refine P_det (by rfl) (Over_nil (y_assign (c := .int .i64 _) (by rfl))) ?_
  refine PW_end (by rfl) ?_
  refine OverAll_nil ?_
  rintro -
  refine Then_normal ?_
  refine W_ret ?_
  refine Fin_ret [.int .i64 _] [] Try.results100 ⟨by rfl, trivial⟩ HSub.nil ?_
  rfl
theorem ask2_it (w0 : World) (ds0 out0 : List Deferred) (b5 b6 b7 kb : Nat) (l : Lg) (hW : Wo w0 b5 b6 b7 kb l) :
    It ⟨Try.prog, w0, ds0, out0⟩ 99 [.pointer (some ⟨b5, 0, none⟩)] (fun k => [.int .i64 (k : Int)]) (8 * (l.tk.n - 1) + 1) [] := by
  intro lp J Jx hY G hJ
  obtain ⟨k1, _, _, hok, hne, bk, fb, capf, ab, bb, k3, _, _, _, _, g, a, cap, ae, cape, k4, ⟨_, a2, cap2, hg, _⟩, _⟩ := hW
  have hn2 := hok.tk.n2
  have hn21 := hok.tk.n21
  have hh : l.tk.height = 8 * ((l.tk.n : Int) - 1) := rfl
  have hF := wide_wide
  refine Cs_start (args := [_, _]) Try.func99 (by rfl) Try.ntmps99 (by rfl) ?_
  refine W_seq ?_
  refine W_region_lit (fun ds => ?_)
  refine WS_det hF (by rfl) (y_load1 (by rfl) Try.isAgg123 (by first | exact Mem.old1 (by assumption) | exact Mem.oldAt1 (by assumption) (by rfl) | exact Mem.old (by assumption) | exact Mem.oldAtL1 (by assumption) (by rfl) (by rfl))) ?_
  refine WS_det hF (by rfl) (by first | exact y_nilCheck (by rfl) | exact y_nilCheckF (by rfl)) ?_
  refine WS_det hF (by rfl) (y_fieldAddr (by rfl) fa127_0) ?_
  refine WS_det hF (by rfl) (y_load1 (by rfl) Try.isAgg108 (by first | exact Mem.old1 (by assumption) | exact Mem.oldAt1 (by assumption) (by rfl) | exact Mem.old (by assumption) | exact Mem.oldAtL1 (by assumption) (by rfl) (by rfl))) ?_
  refine WS_det hF (by rfl) (by first | exact y_nilCheck (by rfl) | exact y_nilCheckF (by rfl)) ?_
  refine WS_det hF (by rfl) (y_fieldAddr (by rfl) fa119_0) ?_
  refine WS_det hF (by rfl) (y_load1 (by rfl) Try.isAgg93 (by first | exact Mem.old1 (by assumption) | exact Mem.oldAt1 (by assumption) (by rfl) | exact Mem.old (by assumption) | exact Mem.oldAtL1 (by assumption) (by rfl) (by rfl))) ?_
  refine WS_det hF (by rfl) (by first | exact y_nilCheck (by rfl) | exact y_nilCheckF (by rfl)) ?_
  refine WS_det hF (by rfl) (y_fieldAddr (by rfl) fa98_2) ?_
  refine WS_det hF (by rfl) (y_load1 (by rfl) Try.isAgg3 (by first | exact Mem.old1 (by assumption) | exact Mem.oldAt1 (by assumption) (by rfl) | exact Mem.old (by assumption) | exact Mem.oldAtL1 (by assumption) (by rfl) (by rfl))) ?_
  refine WS_det hF (by rfl) (y_add (by rfl) (by rfl) (by unfold I64; omega)) ?_
  refine WS_det hF (by rfl) (y_move (c := .int .i64 _) (by rfl)) ?_
  refine WS_nil ?_
  refine Then_normal ?_
  refine W_block ?_
  refine W_loop (γ := Nat × List Blk) (fun p => p.1 ≤ 8 * (l.tk.n - 1) + 1 ∧ J p.1 p.2) (fun p => [(0, .func (.yield lp) #[] #[]), (14, .int .i64 (l.tk.height + 1)), (15, .int .i64 (p.1 : Int))]) (fun p => p.2) (fun p => 8 * (l.tk.n - 1) + 1 - p.1) ((0, G)) ⟨Nat.zero_le _, hJ⟩ (by repeat (first | exact trivial | refine ⟨by rfl, ?_⟩)) (List.Sublist.refl _) ?_
  rintro ⟨k, G2⟩ e ⟨hk, hj2⟩
  refine W_seq ?_
  refine W_region_lit (fun ds => ?_)
  refine WS_det hF (by rfl) (y_lss (by rfl) (by rfl)) ?_
  refine WS_nil ?_
  refine Then_normal ?_
  refine W_seq ?_
  refine W_cond (by rfl) (fun c1 => ?_) (fun c1 => ?_)
  ·
    try simp only [Bool.not_eq_true', Bool.not_eq_false', decide_eq_true_eq, decide_eq_false_iff_not, ne_eq, Classical.not_not, Int.not_lt, Int.not_le] at c1
    refine W_skip ?_
    refine Then_normal ?_
    refine W_seq ?_
    refine W_block ?_
    refine W_seq ?_
    refine W_region_lit (fun ds => ?_)
    refine WS_det hF (by rfl) (y_move (c := .int .i64 _) (by rfl)) ?_
    refine WS_det hF (by rfl) (y_assign (c := .int .i64 _) (by rfl)) ?_
    refine WS_nil ?_
    refine Then_normal ?_
    refine W_seq ?_
    refine W_region_lit (fun ds => ?_)
    refine WS_det hF (by rfl) (y_move (c := _) (by rfl)) ?_
    refine WS_det hF (by rfl) (y_move (c := .int .i64 _) (by rfl)) ?_
    refine WS_yield (by rfl) (by rfl) (by rfl) (hY k (by omega) ds [] G2 hj2) ?_
    rintro yb G3 ⟨G4, hGe, hb⟩
    replace hGe : G3 = G4 := hGe
    subst hGe
    refine WS_det hF (by rfl) (y_not (by rfl)) ?_
    refine WS_nil ?_
    refine Then_normal ?_
    refine W_cond (by rfl) (fun c3 => ?_) (fun c3 => ?_)
    ·
      try simp only [Bool.not_eq_true', Bool.not_eq_false', decide_eq_true_eq, decide_eq_false_iff_not, ne_eq, Classical.not_not, Int.not_lt, Int.not_le] at c3
      obtain ⟨rfl, hj3⟩ | ⟨_, hj3⟩ := hb
      · cases c3
      refine W_ret ?_
      refine InB_ret ?_
      refine Then_ret ?_
      refine Loop_ret ?_
      refine InB_ret ?_
      refine Fin_ret [] G3 Try.results99 trivial HSub.refl ?_
      exact ⟨G3, rfl, .inr ⟨k, by omega, hj3⟩⟩
    ·
      try simp only [Bool.not_eq_true', Bool.not_eq_false', decide_eq_true_eq, decide_eq_false_iff_not, ne_eq, Classical.not_not, Int.not_lt, Int.not_le] at c3
      obtain ⟨_, hj3⟩ | ⟨rfl, hj3⟩ := hb
      case inr => cases c3
      refine W_skip ?_
      refine InB_normal ?_
      refine Then_normal ?_
      refine W_region_lit (fun ds => ?_)
      refine WS_det hF (by rfl) (y_add (by rfl) (by rfl) (by unfold I64; omega)) ?_
      refine WS_det hF (by rfl) (y_move (c := .int .i64 _) (by rfl)) ?_
      refine WS_nil ?_
      exact Loop_next (k + 1, G3) ⟨by omega, hj3⟩ (by repeat (first | exact trivial | refine ⟨by rfl, ?_⟩)) (by repeat (first | exact List.Sublist.refl _ | exact List.nil_sublist _ | apply List.Sublist.cons_cons | apply List.Sublist.cons)) (by simp only; omega)
  ·
    try simp only [Bool.not_eq_true', Bool.not_eq_false', decide_eq_true_eq, decide_eq_false_iff_not, ne_eq, Classical.not_not, Int.not_lt, Int.not_le] at c1
    refine W_exit ?_
    refine Then_exit ?_
    refine Loop_exit ?_
    refine InB_same ?_
    refine Fin_norm [] G2 Try.results99 trivial HSub.refl ?_
    obtain rfl : k = 8 * (l.tk.n - 1) + 1 := by omega
    exact ⟨G2, rfl, .inl hj2⟩
end Go.Proofs.Ythkimgfgpphgnaa.T

/- The dip that tells most: first, and Ask. -/
namespace Go.Proofs.Ythkimgfgpphgnaa.T
open Go.RowKit Go.Proofs Go.Eng
set_option maxRecDepth 100000
set_option linter.unusedVariables false
set_option linter.unusedSimpArgs false



theorem cmpI_neg {x y : Int} : cmpI x y < 0 ↔ x < y := by unfold cmpI; split <;> (try split) <;> omega
def Lg.wN (l : Lg) (k : Nat) : Int := l.worst (k : Int)
def Lg.hN (l : Lg) : Nat := 8 * (l.tk.n - 1) + 1
def FJ (b1 b2 b3 b7 m : Nat) (f : Bool) : List Blk := [(b1, CB [.func (.func 100) #[] #[.pointer (some ⟨b7, 0, none⟩)]] 136), (b2, CB [.int .i64 (m : Nat)] 3), (b3, CB [.bool f] 4)]
theorem first_any (b5 b6 b7 kb : Nat) (l : Lg) (w : World) (hW : Wo w b5 b6 b7 kb l) :
    Ct Try.prog 98 #[.func (.func 99) #[] #[.pointer (some ⟨b5, 0, none⟩)], .func (.func 100) #[] #[.pointer (some ⟨b7, 0, none⟩)]] w
      fun v _ => v = .tuple #[.int .i64 (bestN l.wN l.hN : Nat), .bool true] := by
  have hn2 := hW.kn.ok.tk.n2
  have hn21 := hW.kn.ok.tk.n21
  have hh : l.tk.height = 8 * ((l.tk.n : Int) - 1) := rfl
  have hN : (l.hN : Int) = l.tk.height + 1 := by unfold Lg.hN; omega
  have hF := wide_wide
  refine Ct_start (args := [_, _]) Try.func98 (by rfl) Try.ntmps98 (by rfl) ?_
  refine W_seq ?_
  refine W_region_lit (fun ds => ?_)
  refine WS_new hF (by rfl) (y_box (by rfl)) (fun b1 => ?_)
  refine WS_det hF (by rfl) (y_assign (c := .int .i64 _) (by rfl)) ?_
  refine WS_det hF (by rfl) (y_assign (c := .bool _) (by rfl)) ?_
  refine WS_nil ?_
  refine Then_normal ?_
  refine W_seq ?_
  refine W_region_lit (fun ds => ?_)
  refine WS_new hF (by rfl) (y_alloc Try.zeroValue3 (by rfl)) (fun b2 => ?_)
  refine WS_nil ?_
  refine Then_normal ?_
  refine W_seq ?_
  refine W_region_lit (fun ds => ?_)
  refine WS_new hF (by rfl) (y_alloc Try.zeroValue4 (by rfl)) (fun b3 => ?_)
  refine WS_store hF (i := 0) (by rfl) (by rfl) Try.sizeOf4 (by rfl) (by rfl) (by rfl) (by first | decide | exact Nat.le_of_ble_eq_true rfl | simp) ?_
  refine WS_nil ?_
  refine Then_normal ?_
  refine W_seq ?_
  refine W_seq ?_
  refine W_region_lit (fun ds => ?_)
  refine WS_det hF (by rfl) (y_move (c := _) (by rfl)) ?_
  refine WS_nil ?_
  refine Then_normal ?_
  refine W_block ?_
  refine W_range hF (by rfl) (encs := (fun k => [.int .i64 (k : Int)])) (N := l.hN) (H0 := []) (G0 := [(b1, _), (b2, _), (b3, _)]) (fun k G => G = FJ b1 b2 b3 b7 (bestN l.wN k) (decide (0 < k))) (fun _ _ _ => False) (by rfl) Try.call99 (by rfl) (fun _ => rfl) (fun ds => ask2_it _ _ _ b5 b6 b7 kb l hW) (rfl) ((SubP.hsub (SubP.pick 2 (by rfl) (SubP.pick 1 (by rfl) (SubP.pick 0 (by rfl) (SubP.nil)))))) ?_ ?_ ?_
  · rintro k hk G hj out lpr R R'
    have hF := wide_inRound wide_wide lpr
    subst hj
    have hbl := bestN_le l.wN k
    have hkN : (k : Int) < l.tk.height + 1 := by omega
    refine W_region_lit (fun ds => ?_)
    refine WS_det hF (by rfl) (y_assign (c := .int .i64 _) (by rfl)) ?_
    refine WS_nil ?_
    refine Then_normal ?_
    refine ⟨[_, _, _], rfl, ?_⟩
    refine W_block ?_
    refine W_seq ?_
    refine W_region_lit (fun ds => ?_)
    refine WS_det hF (by rfl) (y_load1 (by rfl) Try.isAgg4 (Mem.own1 2 (by rfl) (by rfl))) ?_
    refine WS_det hF (by rfl) (y_not (by rfl)) ?_
    refine WS_det hF (by rfl) (y_move (c := .bool _) (by rfl)) ?_
    refine WS_split 13 (by rfl) (fun g5_2 => ?_) (fun g5_2 => ?_)
    ·
      try simp only [Bool.not_eq_true', Bool.not_eq_false', decide_eq_true_eq, decide_eq_false_iff_not, ne_eq, Classical.not_not, Int.not_lt, Int.not_le] at g5_2
      refine WS_no hF (by rfl) ?_
      refine WS_no hF (by rfl) ?_
      refine WS_no hF (by rfl) ?_
      refine WS_no hF (by rfl) ?_
      refine WS_no hF (by rfl) ?_
      refine WS_det hF (by rfl) (by first | exact y_pick_t (c := .bool _) (by rfl) (by rfl) | exact y_pick_f (c := .bool _) (by rfl) (by rfl)) ?_
      refine WS_nil ?_
      refine Then_normal ?_
      refine W_cond (by rfl) (fun c5 => ?_) (fun c5 => ?_)
      ·
        try simp only [Bool.not_eq_true', Bool.not_eq_false', decide_eq_true_eq, decide_eq_false_iff_not, ne_eq, Classical.not_not, Int.not_lt, Int.not_le] at c5
        refine W_region_lit (fun ds => ?_)
        refine WS_det hF (by rfl) (y_move (c := .int .i64 _) (by rfl)) ?_
        refine WS_store hF (i := 1) (by rfl) (by rfl) Try.sizeOf3 (by rfl) (by rfl) (by rfl) (by first | decide | exact Nat.le_of_ble_eq_true rfl | simp) ?_
        refine WS_store hF (i := 2) (by rfl) (by rfl) Try.sizeOf4 (by rfl) (by rfl) (by rfl) (by first | decide | exact Nat.le_of_ble_eq_true rfl | simp) ?_
        refine WS_nil ?_
        refine InB_normal ?_
        refine ⟨[_, _, _], (SubP.hsub (SubP.pick 0 (by rfl) (SubP.pick 0 (by rfl) (SubP.pick 0 (by rfl) (by exact SubP.refl))))), ?_⟩
        have hb : bestN l.wN (k + 1) = k := by
          obtain rfl : k = 0 := by omega
          unfold bestN; split <;> rfl
        show _ = FJ b1 b2 b3 b7 (bestN l.wN (k + 1)) (decide (0 < k + 1))
        rw [hb, show decide (0 < k + 1) = true by simp]
        rfl
      · cases c5
    ·
      try simp only [Bool.not_eq_true', Bool.not_eq_false', decide_eq_true_eq, decide_eq_false_iff_not, ne_eq, Classical.not_not, Int.not_lt, Int.not_le] at g5_2
      refine WS_det hF (by rfl) (y_load1 (by rfl) Try.isAgg136 (Mem.own1 0 (by rfl) (by rfl))) ?_
      refine WS_det hF (by rfl) (y_move (c := .int .i64 _) (by rfl)) ?_
      refine WS_det hF (by rfl) (y_load1 (by rfl) Try.isAgg3 (Mem.own1 1 (by rfl) (by rfl))) ?_
      refine WS_det hF (by rfl) (y_callL (by rfl) (by rfl) Try.call100 (fun w hw => ask3_any b5 b6 b7 kb l (k : Int) (bestN l.wN k : Nat) w (hW.st w hw) (by omega) (by omega) (by omega) (by omega))) ?_
      refine WS_det hF (by rfl) (y_lss (by rfl) (by rfl)) ?_
      refine WS_det hF (by rfl) (by first | exact y_pick_t (c := .bool _) (by rfl) (by rfl) | exact y_pick_f (c := .bool _) (by rfl) (by rfl)) ?_
      refine WS_nil ?_
      refine Then_normal ?_
      refine W_cond (by rfl) (fun c5 => ?_) (fun c5 => ?_)
      ·
        try simp only [Bool.not_eq_true', Bool.not_eq_false', decide_eq_true_eq, decide_eq_false_iff_not, ne_eq, Classical.not_not, Int.not_lt, Int.not_le] at c5
        refine W_region_lit (fun ds => ?_)
        refine WS_det hF (by rfl) (y_move (c := .int .i64 _) (by rfl)) ?_
        refine WS_store hF (i := 1) (by rfl) (by rfl) Try.sizeOf3 (by rfl) (by rfl) (by rfl) (by first | decide | exact Nat.le_of_ble_eq_true rfl | simp) ?_
        refine WS_store hF (i := 2) (by rfl) (by rfl) Try.sizeOf4 (by rfl) (by rfl) (by rfl) (by first | decide | exact Nat.le_of_ble_eq_true rfl | simp) ?_
        refine WS_nil ?_
        refine InB_normal ?_
        refine ⟨[_, _, _], (SubP.hsub (SubP.pick 0 (by rfl) (SubP.pick 0 (by rfl) (SubP.pick 0 (by rfl) (by exact SubP.refl))))), ?_⟩
        have hb : bestN l.wN (k + 1) = k := if_pos (cmpI_neg.1 c5)
        show _ = FJ b1 b2 b3 b7 (bestN l.wN (k + 1)) (decide (0 < k + 1))
        rw [hb, show decide (0 < k + 1) = true by simp]
        rfl
      ·
        try simp only [Bool.not_eq_true', Bool.not_eq_false', decide_eq_true_eq, decide_eq_false_iff_not, ne_eq, Classical.not_not, Int.not_lt, Int.not_le] at c5
        refine W_skip ?_
        refine InB_normal ?_
        refine ⟨[_, _, _], (SubP.hsub (SubP.pick 0 (by rfl) (SubP.pick 0 (by rfl) (SubP.pick 0 (by rfl) (by exact SubP.refl))))), ?_⟩
        have hb : bestN l.wN (k + 1) = bestN l.wN k := if_neg (fun h => absurd (show cmpI (l.worst (k : Int)) (l.worst (bestN l.wN k : Nat)) < 0 from cmpI_neg.2 h) (by omega))
        show _ = FJ b1 b2 b3 b7 (bestN l.wN (k + 1)) (decide (0 < k + 1))
        rw [hb, show decide (0 < k + 1) = true by simp, ← show decide (0 < k) = true by simp only [decide_eq_true_eq]; omega]
        rfl
  · rintro G hj
    subst hj
    refine InB_normal ?_
    refine Then_normal ?_
    refine W_seq ?_
    refine W_draw0 hF Trymixed [] (by decide +kernel) (fun ds => ?_)
    refine P_det (by rfl) (Over_nil (y_load1 (by rfl) Try.isAgg3 (Mem.own1 1 (by rfl) (by rfl)))) ?_
    refine P_det (by rfl) (Over_nil (y_load1 (by rfl) Try.isAgg4 (Mem.own1 2 (by rfl) (by rfl)))) ?_
    refine P_det (by rfl) (Over_nil (y_assign (c := .int .i64 _) (by rfl))) ?_
    refine P_det (by rfl) (Over_nil (y_assign (c := .bool _) (by rfl))) ?_
    refine PW_end (by rfl) ?_
    refine OverAll_nil ?_
    rintro -
    refine Then_normal ?_
    refine W_ret ?_
    refine Fin_ret [.int .i64 _, .bool _] [] Try.results98 ⟨by rfl, by rfl, trivial⟩ HSub.nil ?_
    have : decide (0 < l.hN) = true := by simp only [decide_eq_true_eq]; omega
    rw [← this]; rfl
  · rintro c k G hk hj
    exact hj.elim
def Lg.askV (l : Lg) : Value :=
  if l.aerr = 0 then if l.last.hi = l.last.lo then .tuple #[.int .i64 0, .int .i64 0, .int .i64 6] else .tuple #[.int .i64 (bestN l.wN l.hN : Nat), .int .i64 (l.wN (bestN l.wN l.hN)), .int .i64 0] else .tuple #[.int .i64 0, .int .i64 0, .int .i64 l.aerr]
theorem ask_any (l : Lg) (a : Option Addr) (cap : Nat) (ae : Option Addr) (cape : Nat) (w : World) (hn : l.tk.n ≤ 1000000) (hx : Ints w a l.tk.n cap l.tk.pints) (he : Ens w ae l.es.length cape l.es) : Ct Try.prog 39 #[.agg #[.slice a l.tk.n cap, .int .i64 l.tk.leak, .int .i64 l.tk.foot, .int .i64 l.start.lo, .int .i64 l.start.hi, .slice ae l.es.length cape]] w fun v _ => v = l.askV := by
  have hF := wide_wide
  refine Ct_start (args := [_]) Try.func39 (by rfl) Try.ntmps39 (by rfl) ?_
  refine W_seq ?_
  refine W_region_lit (fun ds => ?_)
  refine WS_new hF (by rfl) (y_box (by rfl)) (fun b1 => ?_)
  refine WS_det hF (by rfl) (y_assign (c := .int .i64 _) (by rfl)) ?_
  refine WS_det hF (by rfl) (y_assign (c := .int .i64 _) (by rfl)) ?_
  refine WS_det hF (by rfl) (y_assign (c := .int .i64 _) (by rfl)) ?_
  refine WS_nil ?_
  refine Then_normal ?_
  refine W_seq ?_
  refine W_region_lit (fun ds => ?_)
  refine WS_det hF (by rfl) (y_loadN (by rfl) Try.isAgg46 Try.sizeOf46 (Mem.own (us := [.slice _ _ _, .int .i64 _, .int .i64 _, .int .i64 _, .int .i64 _, .slice _ _ _]) 0 (by rfl) (by rfl)) (by rfl)) ?_
  refine WS_gen hF (by rfl) (y_callL (by rfl) (by rfl) Try.call88 (fun w hw => asked_any l a cap ae cape w hn (hx.st w hw) (he.st w hw))) ?_
  rintro _ Hg ⟨p, rfl, hg1, hg2⟩
  refine WS_det hF (by rfl) (y_move (c := .tuple _) (by rfl)) ?_
  refine WS_det hF (by rfl) (y_extract (c := .pointer _) (by rfl) (by rfl)) ?_
  refine WS_det hF (by rfl) (y_extract (c := .int .i64 _) (by rfl) (by rfl)) ?_
  refine WS_new hF (by rfl) (y_alloc Try.zeroValue123 (by rfl)) (fun b2 => ?_)
  refine WS_store hF (i := 0) (by rfl) (by rfl) Try.sizeOf123 (by rfl) (by rfl) (by rfl) (by first | decide | exact Nat.le_of_ble_eq_true rfl | simp) ?_
  refine WS_det hF (by rfl) (y_assign (c := .int .i64 _) (by rfl)) ?_
  refine WS_nil ?_
  refine Then_normal ?_
  refine W_seq ?_
  refine W_seq ?_
  refine W_region_lit (fun ds => ?_)
  refine WS_det hF (by rfl) (y_move (c := .int .i64 _) (by rfl)) ?_
  refine WS_det hF (by rfl) (y_neq (by rfl) (by rfl)) ?_
  refine WS_nil ?_
  refine Then_normal ?_
  refine W_cond (by rfl) (fun c2 => ?_) (fun c2 => ?_)
  ·
    try simp only [Bool.not_eq_true', Bool.not_eq_false', decide_eq_true_eq, decide_eq_false_iff_not, ne_eq, Classical.not_not, Int.not_lt, Int.not_le] at c2
    obtain rfl := hg2 c2
    refine W_seq ?_
    refine W_region_lit (fun ds => ?_)
    refine WS_det hF (by rfl) (y_move (c := .int .i64 _) (by rfl)) ?_
    refine WS_det hF (by rfl) (y_assign (c := .int .i64 _) (by rfl)) ?_
    refine WS_det hF (by rfl) (y_assign (c := .int .i64 _) (by rfl)) ?_
    refine WS_det hF (by rfl) (y_assign (c := .int .i64 _) (by rfl)) ?_
    refine WS_nil ?_
    refine Then_normal ?_
    refine W_ret ?_
    refine Then_ret ?_
    refine Fin_ret [.int .i64 _, .int .i64 _, .int .i64 _] [] Try.results39 ⟨by rfl, by rfl, by rfl, trivial⟩ HSub.nil ?_
    show Value.tuple _ = _
    unfold Lg.askV
    rw [if_neg c2]
  ·
    try simp only [Bool.not_eq_true', Bool.not_eq_false', decide_eq_true_eq, decide_eq_false_iff_not, ne_eq, Classical.not_not, Int.not_lt, Int.not_le] at c2
    obtain ⟨kb, rfl, bk, g, fb, capf, junk, ab, bb, rfl⟩ := hg1 c2
    have hok := l.ok_of (l.aerr0 c2).1
    have hne := (l.aerr0 c2).2
    have hfull := hok.tk.full_bd
    have hlb := hok.last_bd hne
    have hn2 := hok.tk.n2
    have hh : l.tk.height = 8 * ((l.tk.n : Int) - 1) := rfl
    have hN : (l.hN : Int) = l.tk.height + 1 := by unfold Lg.hN; omega
    have hbl := bestN_lt l.wN l.hN (by omega)
    refine W_skip ?_
    refine Then_normal ?_
    refine W_seq ?_
    refine W_region_lit (fun ds => ?_)
    refine WS_det hF (by rfl) (y_load1 (by rfl) Try.isAgg123 (Mem.own1 0 (by rfl) (by rfl))) ?_
    refine WS_det hF (by rfl) (y_callL (by rfl) (by rfl) Try.call89 (fun w hw => last_any kb l w (Kn.own (a := a) (cap := cap) (ae := ae) (cape := cape) (bk := bk) (g := g) (fb := fb) (capf := capf) (junk := junk) (ab := ab) (bb := bb) (by unfold knBlocks; repeat (first | exact List.Sublist.refl _ | exact List.nil_sublist _ | apply List.Sublist.cons_cons | apply List.Sublist.cons)) c2 hx he w hw))) ?_
    refine WS_new hF (by rfl) (y_alloc Try.zeroValue26 (by rfl)) (fun b3 => ?_)
    refine WS_store hF (i := 0) (by rfl) (by rfl) Try.sizeOf26 (by rfl) (by rfl) (by rfl) (by first | decide | exact Nat.le_of_ble_eq_true rfl | simp) ?_
    refine WS_nil ?_
    refine Then_normal ?_
    refine W_seq ?_
    refine W_seq ?_
    refine W_region_lit (fun ds => ?_)
    refine WS_det hF (by rfl) (y_loadN (by rfl) Try.isAgg26 Try.sizeOf26 (Mem.own (us := [.int .i64 _, .int .i64 _]) 0 (by rfl) (by rfl)) (by rfl)) ?_
    refine WS_det hF (by rfl) (y_fieldAddr (by rfl) fa26_0) ?_
    refine WS_det hF (by rfl) (y_load1 (by rfl) Try.isAgg3 (Mem.own1 0 (by rfl) (by rfl))) ?_
    refine WS_det hF (by rfl) (y_fieldAddr (by rfl) fa26_0) ?_
    refine WS_det hF (by rfl) (y_load1 (by rfl) Try.isAgg3 (Mem.own1 0 (by rfl) (by rfl))) ?_
    refine WS_det hF (by rfl) (y_buildL bd26_0_1 (by rfl)) ?_
    refine WS_det hF (by rfl) (y_eqlA (by rfl) (by rfl) eqA26) ?_
    refine WS_nil ?_
    refine Then_normal ?_
    refine W_cond (by rfl) (fun c5 => ?_) (fun c5 => ?_)
    ·
      try simp only [Bool.not_eq_true', Bool.not_eq_false', decide_eq_true_eq, decide_eq_false_iff_not, ne_eq, Classical.not_not, Int.not_lt, Int.not_le] at c5
      refine W_seq ?_
      refine W_region_lit (fun ds => ?_)
      refine WS_det hF (by rfl) (y_assign (c := .int .i64 _) (by rfl)) ?_
      refine WS_det hF (by rfl) (y_assign (c := .int .i64 _) (by rfl)) ?_
      refine WS_det hF (by rfl) (y_assign (c := .int .i64 _) (by rfl)) ?_
      refine WS_nil ?_
      refine Then_normal ?_
      refine W_ret ?_
      refine Then_ret ?_
      refine Fin_ret [.int .i64 _, .int .i64 _, .int .i64 _] [] Try.results39 ⟨by rfl, by rfl, by rfl, trivial⟩ HSub.nil ?_
      show Value.tuple _ = _
      unfold Lg.askV
      simp only [ieq_self, Bool.true_and, ieq_iff] at c5
      rw [if_pos c2, if_pos c5]
    ·
      try simp only [Bool.not_eq_true', Bool.not_eq_false', decide_eq_true_eq, decide_eq_false_iff_not, ne_eq, Classical.not_not, Int.not_lt, Int.not_le] at c5
      refine W_skip ?_
      refine Then_normal ?_
      refine W_seq ?_
      refine W_region_lit (fun ds => ?_)
      refine WS_det hF (by rfl) (y_makeFuncL (by rfl) (by rfl)) ?_
      refine WS_new hF (by rfl) (y_alloc Try.zeroValue99 (by rfl)) (fun b4 => ?_)
      refine WS_store hF (i := 0) (by rfl) (by rfl) Try.sizeOf99 (by rfl) (by rfl) (by rfl) (by first | decide | exact Nat.le_of_ble_eq_true rfl | simp) ?_
      refine WS_nil ?_
      refine Then_normal ?_
      refine W_seq ?_
      refine W_region_lit (fun ds => ?_)
      refine WS_det hF (by rfl) (y_makeFuncL (by rfl) (by rfl)) ?_
      refine WS_det hF (by rfl) (y_makeFuncL (by rfl) (by rfl)) ?_
      refine WS_det hF (by rfl) (y_callL (by rfl) (by rfl) Try.call98 (fun w hw => first_any b2 b3 b4 kb l w ⟨At.block0 (by repeat (first | exact List.mem_cons_self | apply List.mem_cons_of_mem)) w hw, At.block0 (by repeat (first | exact List.mem_cons_self | apply List.mem_cons_of_mem)) w hw, At.block0 (by repeat (first | exact List.mem_cons_self | apply List.mem_cons_of_mem)) w hw, (Kn.own (a := a) (cap := cap) (ae := ae) (cape := cape) (bk := bk) (g := g) (fb := fb) (capf := capf) (junk := junk) (ab := ab) (bb := bb) (by unfold knBlocks; repeat (first | exact List.Sublist.refl _ | exact List.nil_sublist _ | apply List.Sublist.cons_cons | apply List.Sublist.cons)) c2 hx he w hw)⟩)) ?_
      refine WS_det hF (by rfl) (y_move (c := .tuple _) (by rfl)) ?_
      refine WS_det hF (by rfl) (y_extract (c := .int .i64 _) (by rfl) (by rfl)) ?_
      refine WS_det hF (by rfl) (y_extract (c := .bool _) (by rfl) (by rfl)) ?_
      refine WS_det hF (by rfl) (y_assign (c := .int .i64 _) (by rfl)) ?_
      refine WS_det hF (by rfl) (y_assign (c := .bool _) (by rfl)) ?_
      refine WS_nil ?_
      refine Then_normal ?_
      refine W_seq ?_
      refine W_region_lit (fun ds => ?_)
      refine WS_det hF (by rfl) (y_move (c := .int .i64 _) (by rfl)) ?_
      refine WS_det hF (by rfl) (y_load1 (by rfl) Try.isAgg99 (Mem.own1 0 (by rfl) (by rfl))) ?_
      refine WS_det hF (by rfl) (y_move (c := .int .i64 _) (by rfl)) ?_
      refine WS_det hF (by rfl) (y_callL (by rfl) (by rfl) Try.call97 (fun w hw => ask1_any b2 b3 b4 kb l (bestN l.wN l.hN : Nat) w ⟨At.block0 (by repeat (first | exact List.mem_cons_self | apply List.mem_cons_of_mem)) w hw, At.block0 (by repeat (first | exact List.mem_cons_self | apply List.mem_cons_of_mem)) w hw, At.block0 (by repeat (first | exact List.mem_cons_self | apply List.mem_cons_of_mem)) w hw, (Kn.own (a := a) (cap := cap) (ae := ae) (cape := cape) (bk := bk) (g := g) (fb := fb) (capf := capf) (junk := junk) (ab := ab) (bb := bb) (by unfold knBlocks; repeat (first | exact List.Sublist.refl _ | exact List.nil_sublist _ | apply List.Sublist.cons_cons | apply List.Sublist.cons)) c2 hx he w hw)⟩ (by omega) (by omega))) ?_
      refine WS_det hF (by rfl) (y_assign (c := .int .i64 _) (by rfl)) ?_
      refine WS_det hF (by rfl) (y_assign (c := .int .i64 _) (by rfl)) ?_
      refine WS_det hF (by rfl) (y_assign (c := .int .i64 _) (by rfl)) ?_
      refine WS_nil ?_
      refine Then_normal ?_
      refine W_ret ?_
      refine Fin_ret [.int .i64 _, .int .i64 _, .int .i64 _] [] Try.results39 ⟨by rfl, by rfl, by rfl, trivial⟩ HSub.nil ?_
      show Value.tuple _ = _
      unfold Lg.askV
      have c5' : ¬ l.last.hi = l.last.lo := fun h => by simp [ieq, h] at c5
      rw [if_pos c2, if_neg c5']; rfl
end Go.Proofs.Ythkimgfgpphgnaa.T

/- The reference's logs: the walks, first part. -/
namespace Go.Proofs.Ythkimgfgpphgnaa.T
open Go.RowKit Go.Proofs Go.Eng
set_option maxRecDepth 100000
set_option linter.unusedVariables false
set_option linter.unusedSimpArgs false



end Go.Proofs.Ythkimgfgpphgnaa.T

/- The reference's logs: the walks, second part. -/
namespace Go.Proofs.Ythkimgfgpphgnaa.T
open Go.RowKit Go.Proofs Go.Eng
set_option maxRecDepth 100000
set_option linter.unusedVariables false
set_option linter.unusedSimpArgs false



def ForthV (l : Lg) (v : Value) (Hn : List Blk) : Prop :=
  ∃ fb m cap junk f, v = .tuple #[.slice (some ⟨fb, 0, none⟩) m cap, .bool l.holdsB] ∧ Hn = [(fb, CB (snRow f m ++ junk) 26)] ∧ (l.holdsB = true → m = l.es.length + 1 ∧ f = l.hold)
def RBackV (l : Lg) (v : Value) (Hn : List Blk) : Prop := ∃ ab, v = .slice (some ⟨ab, 0, none⟩) (l.es.length + 1) (l.es.length + 1) ∧ Hn = [(ab, CB (snRow l.aft (l.es.length + 1)) 26)]
end Go.Proofs.Ythkimgfgpphgnaa.T

/- The reference's asks: the walks. -/
namespace Go.Proofs.Ythkimgfgpphgnaa.T
open Go.RowKit Go.Proofs Go.Eng
set_option maxRecDepth 100000
set_option linter.unusedVariables false
set_option linter.unusedSimpArgs false



end Go.Proofs.Ythkimgfgpphgnaa.T

/- The reference's dip that tells most: the walks. -/
namespace Go.Proofs.Ythkimgfgpphgnaa.T
open Go.RowKit Go.Proofs Go.Eng
set_option maxRecDepth 100000
set_option linter.unusedVariables false
set_option linter.unusedSimpArgs false



end Go.Proofs.Ythkimgfgpphgnaa.T

/- Great, Twin, Same of logs: the walks; the law of asks. -/
namespace Go.Proofs.Ythkimgfgpphgnaa.T
open Go.RowKit Go.Proofs Go.Eng
set_option maxRecDepth 100000
set_option linter.unusedVariables false
set_option linter.unusedSimpArgs false

theorem a_gneqA26 {x y : Operand} {x_0 : Int} {x_1 : Int} {y_0 : Int} {y_1 : Int} : ∀ w, (eqGuard .neq 26 x y (.agg #[.int .i64 x_0, .int .i64 x_1]) (.agg #[.int .i64 y_0, .int .i64 y_1])).run Try.prog w = .ok () w := fun w => by kernel_rfl
theorem bd46_0_1_2 {x0_0a : Option Addr} {x0_0l x0_0c : Nat} {x0_1 : Int} {x0_2 : Int} {x1_0 : Int} {x1_1 : Int} {x2a : Option Addr} {x2l x2c : Nat} : ∀ w, (Instr.build 46 #[(0, .agg #[.slice x0_0a x0_0l x0_0c, .int .i64 x0_1, .int .i64 x0_2]), (1, .agg #[.int .i64 x1_0, .int .i64 x1_1]), (2, .slice x2a x2l x2c)]).run Try.prog w = .ok (.agg #[.slice x0_0a x0_0l x0_0c, .int .i64 x0_1, .int .i64 x0_2, .int .i64 x1_0, .int .i64 x1_1, .slice x2a x2l x2c]) w := fun w => by kernel_rfl
theorem bs44_0  : ∀ w, (Instr.buildSlice 44 0 #[]).run Try.prog w = .ok (.slice (some ⟨w.heap.size, 0, none⟩) 0 0) (w.alloc (CB [] 48)) := fun w => by kernel_rfl
theorem neqA26 {x y : Operand} {x_0 : Int} {x_1 : Int} {y_0 : Int} {y_1 : Int} : ∀ w, ((do eqGuard .neq 26 x y (.agg #[.int .i64 x_0, .int .i64 x_1]) (.agg #[.int .i64 y_0, .int .i64 y_1]); binOp .neq 26 (.agg #[.int .i64 x_0, .int .i64 x_1]) (.agg #[.int .i64 y_0, .int .i64 y_1])) : Sem Value).run Try.prog w = .ok (.bool (!(ieq x_0 y_0 && ieq x_1 y_1))) w := eq_topN a_gneqA26 eq26
theorem At.app {w : World} {b : Nat} : ∀ {us vs : List Value} {o : Nat}, At w b o us → At w b (o + us.length) vs → At w b o (us ++ vs)
  | [], vs, o, _, h => by simpa using h
  | u :: us, vs, o, h, h' => ⟨h.1, At.app (us := us) h.2 (by rw [show o + 1 + us.length = o + (u :: us).length by simp; omega]; exact h')⟩
section
variable {α : Type} {enc : α → List Value} {sz : Nat} {d : α} {w : World} {a : Option Addr} {n cap : Nat} {xs : List α}
theorem Rws.row (hz : ∀ x, (enc x).length = sz) {b o : Nat} (h : Rws enc sz d w (some ⟨b, o, none⟩) n cap xs) : ∀ m, m ≤ n → At w b o (rowOf enc (fun k => xs.getD k d) m)
  | 0, _ => trivial
  | m + 1, hm => by
    rw [rowOf_succ]
    refine At.app (Rws.row hz h m (by omega)) ?_
    rw [rowOf_len hz]
    exact h.at (k := m) (by omega)
theorem Rws.src (hz : ∀ x, (enc x).length = sz) {C : Ctx} {H : List Blk} (h : Rws enc sz d C.w0 a n cap xs) : Src C H a n (rowOf enc (fun k => xs.getD k d) n) := by
  by_cases hn : n = 0
  · subst hn; exact .inl ⟨rfl, rfl⟩
  · obtain ⟨b, o, rfl⟩ := h.adr (by omega)
    exact .inr ⟨b, o, rfl, Mem.old (Rws.row hz h n (Nat.le_refl _))⟩
theorem NewRow.rws (hz : ∀ x, (enc x).length = sz) {C : Ctx} {H Hn : List Blk} {T : TypeId} (h : NewRow T sz n (rowOf enc (fun k => xs.getD k d) n) (.slice a n cap) Hn) (hl : xs.length = n) (hs : Hn.Sublist H) (w : World) (hw : St C H w) : Rws enc sz d w a n cap xs := by
  obtain ⟨a', cap', he, hle, hc⟩ := h
  cases he
  refine ⟨hl, hle, fun k hk => ?_⟩
  rcases hc with ⟨hn, b, junk, rfl, rfl, hlen⟩ | ⟨hn, rfl, rfl⟩
  · refine ⟨b, 0, rfl, ?_⟩
    exact Mem.rowJ (junk := junk) (k := k) (o := 0 + k * sz) hz 0 rfl hk rfl (Nat.zero_add _) w (hw.sub hs)
  · omega
end
theorem en_len (x : En) : x.cells.length = 4 := rfl
theorem infEntry : (Try.prog.info? 48).map (fun i => (i.zero, i.size, i.bytes)) = some (some (.agg #[.int .i64 0, .int .i64 0, .int .i64 0, .int .i64 0]), 4, 32) := by kernel_rfl

/-- A log in new memory. -/
def TwinL (l : Lg) (v : Value) (Hn : List Blk) : Prop :=
  ∃ a cap ae cape H1 H2, v = .agg #[.slice a l.tk.n cap, .int .i64 l.tk.leak, .int .i64 l.tk.foot, .int .i64 l.start.lo, .int .i64 l.start.hi, .slice ae l.es.length cape] ∧ NewRow 3 1 l.tk.n (iv l.tk.pints) (.slice a l.tk.n cap) H1 ∧ NewRow 48 4 l.es.length (rowOf En.cells l.e l.es.length) (.slice ae l.es.length cape) H2 ∧ Hn = H1 ++ H2
end Go.Proofs.Ythkimgfgpphgnaa.T

/- The law of asks, walked. -/
namespace Go.Proofs.Ythkimgfgpphgnaa.T
open Go.RowKit Go.Proofs Go.Eng
set_option maxRecDepth 100000
set_option linter.unusedVariables false
set_option linter.unusedSimpArgs false



end Go.Proofs.Ythkimgfgpphgnaa.T

/- What the tank holds, the first truth, what was moved, what leaks behind a time: the walks. -/
namespace Go.Proofs.Ythkimgfgpphgnaa.T
open Go.RowKit Go.Proofs Go.Eng
set_option maxRecDepth 100000
set_option linter.unusedVariables false
set_option linter.unusedSimpArgs false



def Lg.holdsV (l : Lg) (i : Int) : Value :=
  if l.aerr = 0 then if inB 0 l.es.length [i] then .tuple #[.agg (l.at i.toNat).cells.toArray, .int .i64 0] else .tuple #[.agg Sn.z.cells.toArray, .int .i64 2] else .tuple #[.agg Sn.z.cells.toArray, .int .i64 l.aerr]
theorem holds_any (l : Lg) (a : Option Addr) (cap : Nat) (ae : Option Addr) (cape : Nat) (i : Int) (w : World) (hn : l.tk.n ≤ 1000000) (hx : Ints w a l.tk.n cap l.tk.pints) (he : Ens w ae l.es.length cape l.es) : Ct Try.prog 43 #[.agg #[.slice a l.tk.n cap, .int .i64 l.tk.leak, .int .i64 l.tk.foot, .int .i64 l.start.lo, .int .i64 l.start.hi, .slice ae l.es.length cape], .int .i64 i] w fun v _ => v = l.holdsV i := by
  have hF := wide_wide
  refine Ct_start (args := [_, _]) Try.func43 (by rfl) Try.ntmps43 (by rfl) ?_
  refine W_seq ?_
  refine W_region_lit (fun ds => ?_)
  refine WS_new hF (by rfl) (y_box (by rfl)) (fun b1 => ?_)
  refine WS_new hF (by rfl) (y_alloc Try.zeroValue26 (by rfl)) (fun b2 => ?_)
  refine WS_det hF (by rfl) (y_assign (c := .int .i64 _) (by rfl)) ?_
  refine WS_nil ?_
  refine Then_normal ?_
  refine W_seq ?_
  refine W_region_lit (fun ds => ?_)
  refine WS_det hF (by rfl) (y_loadN (by rfl) Try.isAgg46 Try.sizeOf46 (Mem.own (us := [.slice _ _ _, .int .i64 _, .int .i64 _, .int .i64 _, .int .i64 _, .slice _ _ _]) 1 (by rfl) (by rfl)) (by rfl)) ?_
  refine WS_gen hF (by rfl) (y_callL (by rfl) (by rfl) Try.call88 (fun w hw => asked_any l a cap ae cape w hn (hx.st w hw) (he.st w hw))) ?_
  rintro _ Hg ⟨p, rfl, hg1, hg2⟩
  refine WS_det hF (by rfl) (y_move (c := .tuple _) (by rfl)) ?_
  refine WS_det hF (by rfl) (y_extract (c := .pointer _) (by rfl) (by rfl)) ?_
  refine WS_det hF (by rfl) (y_extract (c := .int .i64 _) (by rfl) (by rfl)) ?_
  refine WS_det hF (by rfl) (y_assign (c := .pointer _) (by rfl)) ?_
  refine WS_det hF (by rfl) (y_assign (c := .int .i64 _) (by rfl)) ?_
  refine WS_nil ?_
  refine Then_normal ?_
  refine W_seq ?_
  refine W_seq ?_
  refine W_region_lit (fun ds => ?_)
  refine WS_det hF (by rfl) (y_move (c := .int .i64 _) (by rfl)) ?_
  refine WS_det hF (by rfl) (y_neq (by rfl) (by rfl)) ?_
  refine WS_nil ?_
  refine Then_normal ?_
  refine W_cond (by rfl) (fun c2 => ?_) (fun c2 => ?_)
  ·
    try simp only [Bool.not_eq_true', Bool.not_eq_false', decide_eq_true_eq, decide_eq_false_iff_not, ne_eq, Classical.not_not, Int.not_lt, Int.not_le] at c2
    obtain rfl := hg2 c2
    refine W_seq ?_
    refine W_region_lit (fun ds => ?_)
    refine WS_det hF (by rfl) (y_buildL bd26 (by rfl)) ?_
    refine WS_det hF (by rfl) (y_move (c := .int .i64 _) (by rfl)) ?_
    refine WS_store hF (i := 0) (by rfl) (by rfl) Try.sizeOf26 (by rfl) (by rfl) (by rfl) (by first | decide | exact Nat.le_of_ble_eq_true rfl | simp) ?_
    refine WS_det hF (by rfl) (y_assign (c := .int .i64 _) (by rfl)) ?_
    refine WS_nil ?_
    refine Then_normal ?_
    refine W_ret ?_
    refine Then_ret ?_
    refine Fin_ret [_, .int .i64 _] [] Try.results43 ⟨lvN (by rfl) Try.isAgg26 Try.sizeOf26 (Mem.own (us := [.int .i64 _, .int .i64 _]) 0 (by rfl) (by rfl)) (by rfl), by rfl, trivial⟩ HSub.nil ?_
    show Value.tuple _ = _
    unfold Lg.holdsV
    rw [if_neg c2]; rfl
  ·
    try simp only [Bool.not_eq_true', Bool.not_eq_false', decide_eq_true_eq, decide_eq_false_iff_not, ne_eq, Classical.not_not, Int.not_lt, Int.not_le] at c2
    obtain ⟨kb, rfl, bk, g, fb, capf, junk, ab, bb, rfl⟩ := hg1 c2
    have hok := l.ok_of (l.aerr0 c2).1
    have hne := (l.aerr0 c2).2
    have hfull := hok.tk.full_bd
    have hlb := hok.last_bd hne
    refine W_skip ?_
    refine Then_normal ?_
    refine W_seq ?_
    refine W_seq ?_
    refine W_region_lit (fun ds => ?_)
    refine WS_det hF (by rfl) (y_fieldAddr (by rfl) fa46_2) ?_
    refine WS_det hF (by rfl) (y_load1 (by rfl) Try.isAgg44 (Mem.own1 7 (by rfl) (by rfl))) ?_
    refine WS_det hF (by rfl) (y_len (by rfl) Try.runUnderlying44) ?_
    refine WS_det hF (by rfl) (y_move (c := .int .i64 _) (by rfl)) ?_
    refine WS_newS hF (by rfl) (y_buildSliceL bs22_1_0 (by rfl)) (fun b3 => ?_)
    refine WS_det hF (by rfl) (y_callL (by rfl) (by rfl) Try.call65 (fun w hw => in_any _ _ _ _ _ _ w (by decide) (by first | exact Ints.one 0 rfl w hw | exact Ints.two 0 rfl w hw))) ?_
    refine WS_det hF (by rfl) (y_not (by rfl)) ?_
    refine WS_nil ?_
    refine Then_normal ?_
    refine W_cond (by rfl) (fun c4 => ?_) (fun c4 => ?_)
    ·
      try simp only [Bool.not_eq_true', Bool.not_eq_false', decide_eq_true_eq, decide_eq_false_iff_not, ne_eq, Classical.not_not, Int.not_lt, Int.not_le] at c4
      refine W_seq ?_
      refine W_region_lit (fun ds => ?_)
      refine WS_det hF (by rfl) (y_buildL bd26 (by rfl)) ?_
      refine WS_store hF (i := 7) (by rfl) (by rfl) Try.sizeOf26 (by rfl) (by rfl) (by rfl) (by first | decide | exact Nat.le_of_ble_eq_true rfl | simp) ?_
      refine WS_det hF (by rfl) (y_assign (c := .int .i64 _) (by rfl)) ?_
      refine WS_nil ?_
      refine Then_normal ?_
      refine W_ret ?_
      refine Then_ret ?_
      refine Fin_ret [_, .int .i64 _] [] Try.results43 ⟨lvN (by rfl) Try.isAgg26 Try.sizeOf26 (Mem.own (us := [.int .i64 _, .int .i64 _]) 7 (by rfl) (by rfl)) (by rfl), by rfl, trivial⟩ HSub.nil ?_
      show Value.tuple _ = _
      unfold Lg.holdsV
      rw [if_pos c2, c4]; rfl
    ·
      try simp only [Bool.not_eq_true', Bool.not_eq_false', decide_eq_true_eq, decide_eq_false_iff_not, ne_eq, Classical.not_not, Int.not_lt, Int.not_le] at c4
      have hin := inB1.1 c4
      obtain ⟨k, rfl⟩ : ∃ k : Nat, i = (k : Int) := Int.eq_ofNat_of_zero_le hin.1
      refine W_skip ?_
      refine Then_normal ?_
      refine W_seq ?_
      refine W_region_lit (fun ds => ?_)
      refine WS_det hF (by rfl) (y_move (c := .pointer _) (by rfl)) ?_
      refine WS_det hF (by rfl) (y_move (c := .int .i64 _) (by rfl)) ?_
      refine WS_det hF (by rfl) (y_callL (by rfl) (by rfl) Try.call92 (fun w hw => at_any kb l k w (Kn.own (a := a) (cap := cap) (ae := ae) (cape := cape) (bk := bk) (g := g) (fb := fb) (capf := capf) (junk := junk) (ab := ab) (bb := bb) (by unfold knBlocks; repeat (first | exact List.Sublist.refl _ | exact List.nil_sublist _ | apply List.Sublist.cons_cons | apply List.Sublist.cons)) c2 hx he w hw) (by omega))) ?_
      refine WS_store hF (i := 7) (by rfl) (by rfl) Try.sizeOf26 (by rfl) (by rfl) (by rfl) (by first | decide | exact Nat.le_of_ble_eq_true rfl | simp) ?_
      refine WS_det hF (by rfl) (y_assign (c := .int .i64 _) (by rfl)) ?_
      refine WS_nil ?_
      refine Then_normal ?_
      refine W_ret ?_
      refine Fin_ret [_, .int .i64 _] [] Try.results43 ⟨lvN (by rfl) Try.isAgg26 Try.sizeOf26 (Mem.own (us := [.int .i64 _, .int .i64 _]) 7 (by rfl) (by rfl)) (by rfl), by rfl, trivial⟩ HSub.nil ?_
      show Value.tuple _ = _
      unfold Lg.holdsV
      rw [if_pos c2, c4, if_pos rfl, Int.toNat_natCast]; rfl
theorem before_m (bk : Nat) (l : Lg) (i : Nat) (m : Int) (s : Sn) (w : World) (hB : Bk w bk l) (hi : i < l.es.length) (hs : s.Sm) (hm : m = (i : Int)) :
    Ct Try.prog 108 #[.pointer (some ⟨bk, 0, none⟩), .int .i64 m, .agg s.cells.toArray] w fun v _ => v = .agg (l.before i s).cells.toArray := by
  subst hm; exact before_any bk l i s w hB hi hs
def Lg.moved (l : Lg) (k : Nat) : Sn := if (l.e k).kind = 2 then (l.e k).size.met ((l.before k (l.hold k)).sub (l.aft (k + 1))) else (l.e k).size.met ((l.aft (k + 1)).sub (l.before k (l.hold k)))
def Lg.movedV (l : Lg) (i : Int) : Value :=
  if l.aerr = 0 then if inB 1 l.es.length [i] && !decide ((l.e (i - 1).toNat).kind = 3) then .tuple #[.agg (l.moved (i - 1).toNat).cells.toArray, .int .i64 0] else .tuple #[.agg Sn.z.cells.toArray, .int .i64 2] else .tuple #[.agg Sn.z.cells.toArray, .int .i64 l.aerr]
theorem moved_any (l : Lg) (a : Option Addr) (cap : Nat) (ae : Option Addr) (cape : Nat) (i : Int) (w : World) (hn : l.tk.n ≤ 1000000) (hx : Ints w a l.tk.n cap l.tk.pints) (he : Ens w ae l.es.length cape l.es) : Ct Try.prog 47 #[.agg #[.slice a l.tk.n cap, .int .i64 l.tk.leak, .int .i64 l.tk.foot, .int .i64 l.start.lo, .int .i64 l.start.hi, .slice ae l.es.length cape], .int .i64 i] w fun v _ => v = l.movedV i := by
  have hF := wide_wide
  refine Ct_start (args := [_, _]) Try.func47 (by rfl) Try.ntmps47 (by rfl) ?_
  refine W_seq ?_
  refine W_region_lit (fun ds => ?_)
  refine WS_new hF (by rfl) (y_box (by rfl)) (fun b1 => ?_)
  refine WS_new hF (by rfl) (y_alloc Try.zeroValue26 (by rfl)) (fun b2 => ?_)
  refine WS_det hF (by rfl) (y_assign (c := .int .i64 _) (by rfl)) ?_
  refine WS_nil ?_
  refine Then_normal ?_
  refine W_seq ?_
  refine W_region_lit (fun ds => ?_)
  refine WS_det hF (by rfl) (y_loadN (by rfl) Try.isAgg46 Try.sizeOf46 (Mem.own (us := [.slice _ _ _, .int .i64 _, .int .i64 _, .int .i64 _, .int .i64 _, .slice _ _ _]) 1 (by rfl) (by rfl)) (by rfl)) ?_
  refine WS_gen hF (by rfl) (y_callL (by rfl) (by rfl) Try.call88 (fun w hw => asked_any l a cap ae cape w hn (hx.st w hw) (he.st w hw))) ?_
  rintro _ Hg ⟨p, rfl, hg1, hg2⟩
  refine WS_det hF (by rfl) (y_move (c := .tuple _) (by rfl)) ?_
  refine WS_det hF (by rfl) (y_extract (c := .pointer _) (by rfl) (by rfl)) ?_
  refine WS_det hF (by rfl) (y_extract (c := .int .i64 _) (by rfl) (by rfl)) ?_
  refine WS_det hF (by rfl) (y_assign (c := .pointer _) (by rfl)) ?_
  refine WS_det hF (by rfl) (y_assign (c := .int .i64 _) (by rfl)) ?_
  refine WS_nil ?_
  refine Then_normal ?_
  refine W_seq ?_
  refine W_seq ?_
  refine W_region_lit (fun ds => ?_)
  refine WS_det hF (by rfl) (y_move (c := .int .i64 _) (by rfl)) ?_
  refine WS_det hF (by rfl) (y_neq (by rfl) (by rfl)) ?_
  refine WS_nil ?_
  refine Then_normal ?_
  refine W_cond (by rfl) (fun c2 => ?_) (fun c2 => ?_)
  ·
    try simp only [Bool.not_eq_true', Bool.not_eq_false', decide_eq_true_eq, decide_eq_false_iff_not, ne_eq, Classical.not_not, Int.not_lt, Int.not_le] at c2
    obtain rfl := hg2 c2
    refine W_seq ?_
    refine W_region_lit (fun ds => ?_)
    refine WS_det hF (by rfl) (y_buildL bd26 (by rfl)) ?_
    refine WS_det hF (by rfl) (y_move (c := .int .i64 _) (by rfl)) ?_
    refine WS_store hF (i := 0) (by rfl) (by rfl) Try.sizeOf26 (by rfl) (by rfl) (by rfl) (by first | decide | exact Nat.le_of_ble_eq_true rfl | simp) ?_
    refine WS_det hF (by rfl) (y_assign (c := .int .i64 _) (by rfl)) ?_
    refine WS_nil ?_
    refine Then_normal ?_
    refine W_ret ?_
    refine Then_ret ?_
    refine Fin_ret [_, .int .i64 _] [] Try.results47 ⟨lvN (by rfl) Try.isAgg26 Try.sizeOf26 (Mem.own (us := [.int .i64 _, .int .i64 _]) 0 (by rfl) (by rfl)) (by rfl), by rfl, trivial⟩ HSub.nil ?_
    show Value.tuple _ = _
    unfold Lg.movedV
    rw [if_neg c2]; rfl
  ·
    try simp only [Bool.not_eq_true', Bool.not_eq_false', decide_eq_true_eq, decide_eq_false_iff_not, ne_eq, Classical.not_not, Int.not_lt, Int.not_le] at c2
    obtain ⟨kb, rfl, bk, g, fb, capf, junk, ab, bb, rfl⟩ := hg1 c2
    have hok := l.ok_of (l.aerr0 c2).1
    have hne := (l.aerr0 c2).2
    have hfull := hok.tk.full_bd
    have hlb := hok.last_bd hne
    have h12 := hok.n12
    refine W_skip ?_
    refine Then_normal ?_
    refine W_seq ?_
    refine W_seq ?_
    refine W_region_lit (fun ds => ?_)
    refine WS_det hF (by rfl) (y_fieldAddr (by rfl) fa46_2) ?_
    refine WS_det hF (by rfl) (y_load1 (by rfl) Try.isAgg44 (Mem.own1 7 (by rfl) (by rfl))) ?_
    refine WS_det hF (by rfl) (y_len (by rfl) Try.runUnderlying44) ?_
    refine WS_det hF (by rfl) (y_move (c := .int .i64 _) (by rfl)) ?_
    refine WS_newS hF (by rfl) (y_buildSliceL bs22_1_0 (by rfl)) (fun b3 => ?_)
    refine WS_det hF (by rfl) (y_callL (by rfl) (by rfl) Try.call65 (fun w hw => in_any _ _ _ _ _ _ w (by decide) (by first | exact Ints.one 0 rfl w hw | exact Ints.two 0 rfl w hw))) ?_
    refine WS_det hF (by rfl) (y_not (by rfl)) ?_
    refine WS_det hF (by rfl) (y_move (c := .bool _) (by rfl)) ?_
    refine WS_split 27 (by rfl) (fun g4_7 => ?_) (fun g4_7 => ?_)
    ·
      try simp only [Bool.not_eq_true', Bool.not_eq_false', decide_eq_true_eq, decide_eq_false_iff_not, ne_eq, Classical.not_not, Int.not_lt, Int.not_le] at g4_7
      refine WS_no hF (by rfl) ?_
      refine WS_no hF (by rfl) ?_
      refine WS_no hF (by rfl) ?_
      refine WS_no hF (by rfl) ?_
      refine WS_no hF (by rfl) ?_
      refine WS_no hF (by rfl) ?_
      refine WS_no hF (by rfl) ?_
      refine WS_no hF (by rfl) ?_
      refine WS_det hF (by rfl) (by first | exact y_pick_t (c := .bool _) (by rfl) (by rfl) | exact y_pick_f (c := .bool _) (by rfl) (by rfl)) ?_
      refine WS_nil ?_
      refine Then_normal ?_
      refine W_cond (by rfl) (fun c4 => ?_) (fun c4 => ?_)
      ·
        try simp only [Bool.not_eq_true', Bool.not_eq_false', decide_eq_true_eq, decide_eq_false_iff_not, ne_eq, Classical.not_not, Int.not_lt, Int.not_le] at c4
        refine W_seq ?_
        refine W_region_lit (fun ds => ?_)
        refine WS_det hF (by rfl) (y_buildL bd26 (by rfl)) ?_
        refine WS_store hF (i := 7) (by rfl) (by rfl) Try.sizeOf26 (by rfl) (by rfl) (by rfl) (by first | decide | exact Nat.le_of_ble_eq_true rfl | simp) ?_
        refine WS_det hF (by rfl) (y_assign (c := .int .i64 _) (by rfl)) ?_
        refine WS_nil ?_
        refine Then_normal ?_
        refine W_ret ?_
        refine Then_ret ?_
        refine Fin_ret [_, .int .i64 _] [] Try.results47 ⟨lvN (by rfl) Try.isAgg26 Try.sizeOf26 (Mem.own (us := [.int .i64 _, .int .i64 _]) 7 (by rfl) (by rfl)) (by rfl), by rfl, trivial⟩ HSub.nil ?_
        show Value.tuple _ = _
        unfold Lg.movedV
        rw [if_pos c2, g4_7]; rfl
      · cases c4
    ·
      try simp only [Bool.not_eq_true', Bool.not_eq_false', decide_eq_true_eq, decide_eq_false_iff_not, ne_eq, Classical.not_not, Int.not_lt, Int.not_le] at g4_7
      have hin := inB1.1 g4_7
      obtain ⟨k, rfl⟩ : ∃ k : Nat, i = (k : Int) + 1 := ⟨(i - 1).toNat, by omega⟩
      obtain ⟨b, o, rfl, hc⟩ := he.cell k (by omega)
      change At w b _ (l.e k).cells at hc
      have hk : k < l.es.length := by omega
      have hsm := hok.hold_sm (k := k) (by omega) (fun j hj => hne j (by omega)) (hne k (by omega))
      have hdr := hok.drip_bd hk
      have hab := hok.aft_bd (i := k + 1) (by omega)
      have hbs : (l.before k (l.hold k)).Sm := by
        unfold Sn.Sm at hsm ⊢
        unfold Lg.before
        simp only
        omega
      have has : (l.aft (k + 1)).Sm := by unfold Sn.Sm; omega
      have hkk : ((k : Int) + 1 - 1).toNat = k := by omega
      refine WS_det hF (by rfl) (y_fieldAddr (by rfl) fa46_2) ?_
      refine WS_det hF (by rfl) (y_load1 (by rfl) Try.isAgg44 (Mem.own1 8 (by rfl) (by rfl))) ?_
      refine WS_det hF (by rfl) (y_move (c := .int .i64 _) (by rfl)) ?_
      refine WS_det hF (by rfl) (y_sub (by rfl) (by rfl) (by unfold I64; omega)) ?_
      refine WS_det hF (by rfl) (y_index (k := k) (by rfl) (by rfl) (by first | rfl | omega) (by first | decide | omega) Try.runUnderlying44 Try.sizeOf48) ?_
      refine WS_det hF (by rfl) (y_fieldAddr (by rfl) fa48_1) ?_
      refine WS_det hF (by rfl) (y_load1 (by rfl) Try.isAgg3 (by first | exact Mem.old1 (by assumption) | exact Mem.oldAt1 (by assumption) (by rfl) | exact Mem.old (by assumption) | exact Mem.oldAtL1 (by assumption) (by rfl) (by rfl))) ?_
      refine WS_det hF (by rfl) (y_eql (by rfl) (by rfl)) ?_
      refine WS_det hF (by rfl) (by first | exact y_pick_t (c := .bool _) (by rfl) (by rfl) | exact y_pick_f (c := .bool _) (by rfl) (by rfl)) ?_
      refine WS_nil ?_
      refine Then_normal ?_
      refine W_cond (by rfl) (fun c4 => ?_) (fun c4 => ?_)
      ·
        try simp only [Bool.not_eq_true', Bool.not_eq_false', decide_eq_true_eq, decide_eq_false_iff_not, ne_eq, Classical.not_not, Int.not_lt, Int.not_le] at c4
        refine W_seq ?_
        refine W_region_lit (fun ds => ?_)
        refine WS_det hF (by rfl) (y_buildL bd26 (by rfl)) ?_
        refine WS_store hF (i := 7) (by rfl) (by rfl) Try.sizeOf26 (by rfl) (by rfl) (by rfl) (by first | decide | exact Nat.le_of_ble_eq_true rfl | simp) ?_
        refine WS_det hF (by rfl) (y_assign (c := .int .i64 _) (by rfl)) ?_
        refine WS_nil ?_
        refine Then_normal ?_
        refine W_ret ?_
        refine Then_ret ?_
        refine Fin_ret [_, .int .i64 _] [] Try.results47 ⟨lvN (by rfl) Try.isAgg26 Try.sizeOf26 (Mem.own (us := [.int .i64 _, .int .i64 _]) 7 (by rfl) (by rfl)) (by rfl), by rfl, trivial⟩ HSub.nil ?_
        show Value.tuple _ = _
        unfold Lg.movedV
        rw [if_pos c2, if_neg (by rw [g4_7, Bool.true_and, hkk, decide_eq_true c4]; exact Bool.false_ne_true)]; rfl
      ·
        try simp only [Bool.not_eq_true', Bool.not_eq_false', decide_eq_true_eq, decide_eq_false_iff_not, ne_eq, Classical.not_not, Int.not_lt, Int.not_le] at c4
        refine W_skip ?_
        refine Then_normal ?_
        refine W_seq ?_
        apply W_drawMT 33 hF Trymixed [] [] [8, 9] (by rfl) (by decide +kernel) (by decide) HSub.refl
        intro ds
        refine P_det (by rfl) (Over_nil (y_fieldAddr (by rfl) fa46_2)) ?_
        refine P_det (by rfl) (Over_nil (y_load1 (by rfl) Try.isAgg44 (Mem.own1 8 (by rfl) (by rfl)))) ?_
        refine P_det (by rfl) (Over_nil (y_move (c := .int .i64 _) (by rfl))) ?_
        refine P_det (by rfl) (Over_nil (y_sub (by rfl) (by rfl) (by unfold I64; omega))) ?_
        refine P_det (by rfl) (Over_nil (y_index (k := k) (by rfl) (by rfl) (by first | rfl | omega) (by first | decide | omega) Try.runUnderlying44 Try.sizeOf48)) ?_
        refine P_det (by rfl) (Over_nil (y_loadN (by rfl) Try.isAgg48 Try.sizeOf48 (by first | exact Mem.old (by assumption) | exact Mem.oldAt (us := [.int .i64 _, .int .i64 _, .int .i64 _, .int .i64 _]) (by assumption) (by rfl) | exact Mem.oldAtL (us := [.int .i64 _, .int .i64 _, .int .i64 _, .int .i64 _]) (by assumption) (by rfl) (by rfl)) (by rfl))) ?_
        refine P_det (by rfl) (Over_nil (y_move (c := .pointer _) (by rfl))) ?_
        refine P_det (by rfl) (Over_nil (by first | exact y_nilCheck (by rfl) | exact y_nilCheckF (by rfl))) ?_
        refine P_det (by rfl) (Over_nil (y_fieldAddr (by rfl) fa127_0)) ?_
        refine P_det (by rfl) (Over_nil (y_load1 (by rfl) Try.isAgg108 (Mem.own1 1 (by rfl) (by rfl)))) ?_
        refine P_det (by rfl) (Over_nil (y_move (c := .int .i64 _) (by rfl))) ?_
        refine P_det (by rfl) (Over_nil (y_sub (by rfl) (by rfl) (by unfold I64; omega))) ?_
        refine P_det (by rfl) (Over_nil (y_move (c := .pointer _) (by rfl))) ?_
        refine P_det (by rfl) (Over_nil (by first | exact y_nilCheck (by rfl) | exact y_nilCheckF (by rfl))) ?_
        refine P_det (by rfl) (Over_nil (y_fieldAddr (by rfl) fa127_1)) ?_
        refine P_det (by rfl) (Over_nil (y_load1 (by rfl) Try.isAgg90 (Mem.own1 1 (by rfl) (by rfl)))) ?_
        refine P_det (by rfl) (Over_nil (y_move (c := .int .i64 _) (by rfl))) ?_
        refine P_det (by rfl) (Over_nil (y_sub (by rfl) (by rfl) (by unfold I64; omega))) ?_
        refine P_det (by rfl) (Over_nil (y_index (k := k) (by rfl) (by rfl) (by first | rfl | omega) (by first | decide | omega) Try.runUnderlying90 Try.sizeOf26)) ?_
        refine P_det (by rfl) (Over_nil (y_loadN (by rfl) Try.isAgg26 Try.sizeOf26 (Mem.rowJ sn_len 2 (by rfl) (k := k) (by omega) rfl (by omega)) (by rfl))) ?_
        refine P_det (by rfl) (Over_nil (y_callL (by rfl) (by rfl) Try.call108 (fun w hw => before_m bk l k _ (l.hold k) w (Bk.own (by repeat (first | exact List.mem_cons_self | apply List.mem_cons_of_mem)) (by repeat (first | exact List.mem_cons_self | apply List.mem_cons_of_mem)) hok hx he w hw) hk hsm (by omega)))) ?_
        refine P_det (by rfl) (Over_nil (y_move (c := .pointer _) (by rfl))) ?_
        refine P_det (by rfl) (Over_nil (by first | exact y_nilCheck (by rfl) | exact y_nilCheckF (by rfl))) ?_
        refine P_det (by rfl) (Over_nil (y_fieldAddr (by rfl) fa127_2)) ?_
        refine P_det (by rfl) (Over_nil (y_load1 (by rfl) Try.isAgg90 (Mem.own1 1 (by rfl) (by rfl)))) ?_
        refine P_det (by rfl) (Over_nil (y_move (c := .int .i64 _) (by rfl))) ?_
        refine P_det (by rfl) (Over_nil (y_index (k := k + 1) (by rfl) (by rfl) (by first | rfl | omega) (by first | decide | omega) Try.runUnderlying90 Try.sizeOf26)) ?_
        refine P_det (by rfl) (Over_nil (y_loadN (by rfl) Try.isAgg26 Try.sizeOf26 (Mem.row sn_len 3 (by rfl) (k := k + 1) (by omega) rfl (by omega)) (by rfl))) ?_
        apply P_newS _ (by rfl) (by rfl) (by rfl) (Over_nil (y_alloc Try.zeroValue48 (by rfl)))
        apply P_newS _ (by rfl) (by rfl) (by rfl) (Over_out (by rfl) (Over_nil (y_alloc Try.zeroValue26 (by rfl))))
        refine P_new (by rfl) (by rfl) (Over_out (by rfl) (Over_out (by rfl) (Over_nil (y_alloc Try.zeroValue26 (by rfl))))) ?_
        refine P_st 8 2 (by rfl) (by rfl) (by rfl) (by rfl) (by rfl) (Over_out (by rfl) (Over_out (by rfl) (Over_nil (st_new (fun _ => by rfl) Try.sizeOf48 (by rfl) (by rfl) (by first | decide | exact Nat.le_of_ble_eq_true rfl | simp))))) ?_
        refine P_st 9 1 (by rfl) (by rfl) (by rfl) (by rfl) (by rfl) (Over_out (by rfl) (Over_out (by rfl) (Over_nil (st_new (fun _ => by rfl) Try.sizeOf26 (by rfl) (by rfl) (by first | decide | exact Nat.le_of_ble_eq_true rfl | simp))))) ?_
        refine PW_end (by rfl) ?_
        refine OverAll_cons (fun w10 l10 => ?_)
        refine OverAll_cons (fun w9 l9 => ?_)
        refine OverAll_cons (fun w8 l8 => ?_)
        refine OverAll_nil ?_
        rintro ⟨⟨⟨-, h10⟩, h9⟩, h8⟩
        obtain ⟨bx10, rfl, rfl⟩ := h10
        obtain ⟨bx8, rfl, rfl⟩ := h8
        obtain ⟨bx9, rfl, rfl⟩ := h9
        refine WS_store hF (i := 2) (by rfl) (by rfl) Try.sizeOf26 (by rfl) (by rfl) (by rfl) (by first | decide | exact Nat.le_of_ble_eq_true rfl | simp) ?_
        refine WS_nil ?_
        refine Then_normal ?_
        refine W_seq ?_
        refine W_seq ?_
        refine W_region_lit (fun ds => ?_)
        refine WS_det hF (by rfl) (y_fieldAddr (by rfl) fa48_1) ?_
        refine WS_det hF (by rfl) (y_load1 (by rfl) Try.isAgg3 (Mem.own1 0 (by rfl) (by rfl))) ?_
        refine WS_det hF (by rfl) (y_eql (by rfl) (by rfl)) ?_
        refine WS_nil ?_
        refine Then_normal ?_
        refine W_cond (by rfl) (fun c7 => ?_) (fun c7 => ?_)
        ·
          try simp only [Bool.not_eq_true', Bool.not_eq_false', decide_eq_true_eq, decide_eq_false_iff_not, ne_eq, Classical.not_not, Int.not_lt, Int.not_le] at c7
          refine W_region_lit (fun ds => ?_)
          refine WS_det hF (by rfl) (y_loadN (by rfl) Try.isAgg26 Try.sizeOf26 (Mem.own (us := [.int .i64 _, .int .i64 _]) 2 (by rfl) (by rfl)) (by rfl)) ?_
          refine WS_det hF (by rfl) (y_loadN (by rfl) Try.isAgg26 Try.sizeOf26 (Mem.own (us := [.int .i64 _, .int .i64 _]) 1 (by rfl) (by rfl)) (by rfl)) ?_
          refine WS_store hF (i := 1) (by rfl) (by rfl) Try.sizeOf26 (by rfl) (by rfl) (by rfl) (by first | decide | exact Nat.le_of_ble_eq_true rfl | simp) ?_
          refine WS_store hF (i := 2) (by rfl) (by rfl) Try.sizeOf26 (by rfl) (by rfl) (by rfl) (by first | decide | exact Nat.le_of_ble_eq_true rfl | simp) ?_
          refine WS_nil ?_
          refine Then_normal ?_
          refine W_seq ?_
          apply W_draw1 hF Trymixed [1000000] (i := 10) (by rfl) (by decide +kernel)
          intro ds
          refine P_det (by rfl) (Over_out (by rfl) (Over_nil (y_fieldAddr (by rfl) fa48_2))) ?_
          refine P_det (by rfl) (Over_out (by rfl) (Over_nil (y_loadN (by rfl) Try.isAgg26 Try.sizeOf26 (Mem.own (us := [.int .i64 _, .int .i64 _]) 0 (by rfl) (by rfl)) (by rfl)))) ?_
          refine P_det (by rfl) (Over_out (by rfl) (Over_nil (y_loadN (by rfl) Try.isAgg26 Try.sizeOf26 (Mem.own (us := [.int .i64 _, .int .i64 _]) 2 (by rfl) (by rfl)) (by rfl)))) ?_
          refine P_det (by rfl) (Over_out (by rfl) (Over_nil (y_loadN (by rfl) Try.isAgg26 Try.sizeOf26 (Mem.own (us := [.int .i64 _, .int .i64 _]) 1 (by rfl) (by rfl)) (by rfl)))) ?_
          refine P_det (by rfl) (Over_out (by rfl) (Over_nil (y_callL (by rfl) (by rfl) Try.call96 (fun w hw => change_any (l.before k (l.hold k)) (l.aft (k + 1)) w hbs has)))) ?_
          refine P_det (by rfl) (Over_out (by rfl) (Over_nil (y_callL (by rfl) (by rfl) Try.call109 (fun w hw => met_any _ _ _ _ w)))) ?_
          refine P_st 1000000 0 (by rfl) (by rfl) (by rfl) (by rfl) (by rfl) (Over_nil (st_pre (fun _ => by rfl) (fun _ => by rfl) Try.sizeOf26 (by rfl) (by rfl) (by first | decide | exact Nat.le_of_ble_eq_true rfl | simp))) ?_
          refine P_det (by rfl) (Over_out (by rfl) (Over_nil (y_assign (c := .int .i64 _) (by rfl)))) ?_
          refine PW_end (by rfl) ?_
          refine OverAll_cons (fun w1000000 l1000000 => ?_)
          refine OverAll_nil ?_
          rintro ⟨-, h1000000⟩
          obtain rfl := h1000000
          refine Then_normal ?_
          refine W_ret ?_
          refine Fin_ret [_, .int .i64 _] [] Try.results47 ⟨lvN (by rfl) Try.isAgg26 Try.sizeOf26 (Mem.own (us := [.int .i64 _, .int .i64 _]) 0 (by rfl) (by rfl)) (by rfl), by rfl, trivial⟩ HSub.nil ?_
          show Value.tuple _ = _
          unfold Lg.movedV
          rw [if_pos c2, if_pos (by rw [g4_7, Bool.true_and, hkk, decide_eq_false c4]; rfl), hkk, Lg.moved, if_pos c7]; rfl
        ·
          try simp only [Bool.not_eq_true', Bool.not_eq_false', decide_eq_true_eq, decide_eq_false_iff_not, ne_eq, Classical.not_not, Int.not_lt, Int.not_le] at c7
          refine W_skip ?_
          refine Then_normal ?_
          refine W_seq ?_
          apply W_draw1 hF Trymixed [1000000] (i := 10) (by rfl) (by decide +kernel)
          intro ds
          refine P_det (by rfl) (Over_out (by rfl) (Over_nil (y_fieldAddr (by rfl) fa48_2))) ?_
          refine P_det (by rfl) (Over_out (by rfl) (Over_nil (y_loadN (by rfl) Try.isAgg26 Try.sizeOf26 (Mem.own (us := [.int .i64 _, .int .i64 _]) 0 (by rfl) (by rfl)) (by rfl)))) ?_
          refine P_det (by rfl) (Over_out (by rfl) (Over_nil (y_loadN (by rfl) Try.isAgg26 Try.sizeOf26 (Mem.own (us := [.int .i64 _, .int .i64 _]) 2 (by rfl) (by rfl)) (by rfl)))) ?_
          refine P_det (by rfl) (Over_out (by rfl) (Over_nil (y_loadN (by rfl) Try.isAgg26 Try.sizeOf26 (Mem.own (us := [.int .i64 _, .int .i64 _]) 1 (by rfl) (by rfl)) (by rfl)))) ?_
          refine P_det (by rfl) (Over_out (by rfl) (Over_nil (y_callL (by rfl) (by rfl) Try.call96 (fun w hw => change_any (l.aft (k + 1)) (l.before k (l.hold k)) w has hbs)))) ?_
          refine P_det (by rfl) (Over_out (by rfl) (Over_nil (y_callL (by rfl) (by rfl) Try.call109 (fun w hw => met_any _ _ _ _ w)))) ?_
          refine P_st 1000000 0 (by rfl) (by rfl) (by rfl) (by rfl) (by rfl) (Over_nil (st_pre (fun _ => by rfl) (fun _ => by rfl) Try.sizeOf26 (by rfl) (by rfl) (by first | decide | exact Nat.le_of_ble_eq_true rfl | simp))) ?_
          refine P_det (by rfl) (Over_out (by rfl) (Over_nil (y_assign (c := .int .i64 _) (by rfl)))) ?_
          refine PW_end (by rfl) ?_
          refine OverAll_cons (fun w1000000 l1000000 => ?_)
          refine OverAll_nil ?_
          rintro ⟨-, h1000000⟩
          obtain rfl := h1000000
          refine Then_normal ?_
          refine W_ret ?_
          refine Fin_ret [_, .int .i64 _] [] Try.results47 ⟨lvN (by rfl) Try.isAgg26 Try.sizeOf26 (Mem.own (us := [.int .i64 _, .int .i64 _]) 0 (by rfl) (by rfl)) (by rfl), by rfl, trivial⟩ HSub.nil ?_
          show Value.tuple _ = _
          unfold Lg.movedV
          rw [if_pos c2, if_pos (by rw [g4_7, Bool.true_and, hkk, decide_eq_false c4]; rfl), hkk, Lg.moved, if_neg c7]; rfl
def Lg.lostV (l : Lg) (i : Int) : Value :=
  if l.aerr = 0 then if inB 1 ((l.es.length : Int) - 1) [i] then .tuple #[.agg ((Sn.met ⟨0, l.drip i.toNat⟩ ((l.hold i.toNat).sub (l.ahd i.toNat)))).cells.toArray, .int .i64 0] else .tuple #[.agg Sn.z.cells.toArray, .int .i64 2] else .tuple #[.agg Sn.z.cells.toArray, .int .i64 l.aerr]
theorem lost_any (l : Lg) (a : Option Addr) (cap : Nat) (ae : Option Addr) (cape : Nat) (i : Int) (w : World) (hn : l.tk.n ≤ 1000000) (hx : Ints w a l.tk.n cap l.tk.pints) (he : Ens w ae l.es.length cape l.es) : Ct Try.prog 49 #[.agg #[.slice a l.tk.n cap, .int .i64 l.tk.leak, .int .i64 l.tk.foot, .int .i64 l.start.lo, .int .i64 l.start.hi, .slice ae l.es.length cape], .int .i64 i] w fun v _ => v = l.lostV i := by
  have hF := wide_wide
  refine Ct_start (args := [_, _]) Try.func49 (by rfl) Try.ntmps49 (by rfl) ?_
  refine W_seq ?_
  refine W_region_lit (fun ds => ?_)
  refine WS_new hF (by rfl) (y_box (by rfl)) (fun b1 => ?_)
  refine WS_new hF (by rfl) (y_alloc Try.zeroValue26 (by rfl)) (fun b2 => ?_)
  refine WS_det hF (by rfl) (y_assign (c := .int .i64 _) (by rfl)) ?_
  refine WS_nil ?_
  refine Then_normal ?_
  refine W_seq ?_
  refine W_region_lit (fun ds => ?_)
  refine WS_det hF (by rfl) (y_loadN (by rfl) Try.isAgg46 Try.sizeOf46 (Mem.own (us := [.slice _ _ _, .int .i64 _, .int .i64 _, .int .i64 _, .int .i64 _, .slice _ _ _]) 1 (by rfl) (by rfl)) (by rfl)) ?_
  refine WS_gen hF (by rfl) (y_callL (by rfl) (by rfl) Try.call88 (fun w hw => asked_any l a cap ae cape w hn (hx.st w hw) (he.st w hw))) ?_
  rintro _ Hg ⟨p, rfl, hg1, hg2⟩
  refine WS_det hF (by rfl) (y_move (c := .tuple _) (by rfl)) ?_
  refine WS_det hF (by rfl) (y_extract (c := .pointer _) (by rfl) (by rfl)) ?_
  refine WS_det hF (by rfl) (y_extract (c := .int .i64 _) (by rfl) (by rfl)) ?_
  refine WS_det hF (by rfl) (y_assign (c := .pointer _) (by rfl)) ?_
  refine WS_det hF (by rfl) (y_assign (c := .int .i64 _) (by rfl)) ?_
  refine WS_nil ?_
  refine Then_normal ?_
  refine W_seq ?_
  refine W_seq ?_
  refine W_region_lit (fun ds => ?_)
  refine WS_det hF (by rfl) (y_move (c := .int .i64 _) (by rfl)) ?_
  refine WS_det hF (by rfl) (y_neq (by rfl) (by rfl)) ?_
  refine WS_nil ?_
  refine Then_normal ?_
  refine W_cond (by rfl) (fun c2 => ?_) (fun c2 => ?_)
  ·
    try simp only [Bool.not_eq_true', Bool.not_eq_false', decide_eq_true_eq, decide_eq_false_iff_not, ne_eq, Classical.not_not, Int.not_lt, Int.not_le] at c2
    obtain rfl := hg2 c2
    refine W_seq ?_
    refine W_region_lit (fun ds => ?_)
    refine WS_det hF (by rfl) (y_buildL bd26 (by rfl)) ?_
    refine WS_det hF (by rfl) (y_move (c := .int .i64 _) (by rfl)) ?_
    refine WS_store hF (i := 0) (by rfl) (by rfl) Try.sizeOf26 (by rfl) (by rfl) (by rfl) (by first | decide | exact Nat.le_of_ble_eq_true rfl | simp) ?_
    refine WS_det hF (by rfl) (y_assign (c := .int .i64 _) (by rfl)) ?_
    refine WS_nil ?_
    refine Then_normal ?_
    refine W_ret ?_
    refine Then_ret ?_
    refine Fin_ret [_, .int .i64 _] [] Try.results49 ⟨lvN (by rfl) Try.isAgg26 Try.sizeOf26 (Mem.own (us := [.int .i64 _, .int .i64 _]) 0 (by rfl) (by rfl)) (by rfl), by rfl, trivial⟩ HSub.nil ?_
    show Value.tuple _ = _
    unfold Lg.lostV
    rw [if_neg c2]; rfl
  ·
    try simp only [Bool.not_eq_true', Bool.not_eq_false', decide_eq_true_eq, decide_eq_false_iff_not, ne_eq, Classical.not_not, Int.not_lt, Int.not_le] at c2
    obtain ⟨kb, rfl, bk, g, fb, capf, junk, ab, bb, rfl⟩ := hg1 c2
    have hok := l.ok_of (l.aerr0 c2).1
    have hne := (l.aerr0 c2).2
    have hfull := hok.tk.full_bd
    have hlb := hok.last_bd hne
    have h12 := hok.n12
    refine W_skip ?_
    refine Then_normal ?_
    refine W_seq ?_
    refine W_seq ?_
    refine W_region_lit (fun ds => ?_)
    refine WS_det hF (by rfl) (y_fieldAddr (by rfl) fa46_2) ?_
    refine WS_det hF (by rfl) (y_load1 (by rfl) Try.isAgg44 (Mem.own1 7 (by rfl) (by rfl))) ?_
    refine WS_det hF (by rfl) (y_len (by rfl) Try.runUnderlying44) ?_
    refine WS_det hF (by rfl) (y_sub (by rfl) (by rfl) (by unfold I64; omega)) ?_
    refine WS_det hF (by rfl) (y_move (c := .int .i64 _) (by rfl)) ?_
    refine WS_newS hF (by rfl) (y_buildSliceL bs22_1_0 (by rfl)) (fun b3 => ?_)
    refine WS_det hF (by rfl) (y_callL (by rfl) (by rfl) Try.call65 (fun w hw => in_any _ _ _ _ _ _ w (by decide) (by first | exact Ints.one 0 rfl w hw | exact Ints.two 0 rfl w hw))) ?_
    refine WS_det hF (by rfl) (y_not (by rfl)) ?_
    refine WS_nil ?_
    refine Then_normal ?_
    refine W_cond (by rfl) (fun c4 => ?_) (fun c4 => ?_)
    ·
      try simp only [Bool.not_eq_true', Bool.not_eq_false', decide_eq_true_eq, decide_eq_false_iff_not, ne_eq, Classical.not_not, Int.not_lt, Int.not_le] at c4
      refine W_seq ?_
      refine W_region_lit (fun ds => ?_)
      refine WS_det hF (by rfl) (y_buildL bd26 (by rfl)) ?_
      refine WS_store hF (i := 7) (by rfl) (by rfl) Try.sizeOf26 (by rfl) (by rfl) (by rfl) (by first | decide | exact Nat.le_of_ble_eq_true rfl | simp) ?_
      refine WS_det hF (by rfl) (y_assign (c := .int .i64 _) (by rfl)) ?_
      refine WS_nil ?_
      refine Then_normal ?_
      refine W_ret ?_
      refine Then_ret ?_
      refine Fin_ret [_, .int .i64 _] [] Try.results49 ⟨lvN (by rfl) Try.isAgg26 Try.sizeOf26 (Mem.own (us := [.int .i64 _, .int .i64 _]) 7 (by rfl) (by rfl)) (by rfl), by rfl, trivial⟩ HSub.nil ?_
      show Value.tuple _ = _
      unfold Lg.lostV
      rw [if_pos c2, c4]; rfl
    ·
      try simp only [Bool.not_eq_true', Bool.not_eq_false', decide_eq_true_eq, decide_eq_false_iff_not, ne_eq, Classical.not_not, Int.not_lt, Int.not_le] at c4
      have hin := inB1.1 c4
      obtain ⟨k, rfl⟩ : ∃ k : Nat, i = (k : Int) := Int.eq_ofNat_of_zero_le (by omega)
      have hk : k < l.es.length := by omega
      have hsm := hok.hold_sm (k := k) (by omega) (fun j hj => hne j (by omega)) (hne k (by omega))
      have hdr := hok.drip_bd hk
      have hab := hok.ahd_bd (i := k) hk
      have has : (l.ahd k).Sm := by unfold Sn.Sm; omega
      refine W_skip ?_
      refine Then_normal ?_
      refine W_seq ?_
      apply W_draw1 hF Trymixed [1000000] (i := 7) (by rfl) (by decide +kernel)
      intro ds
      refine P_det (by rfl) (Over_out (by rfl) (Over_nil (y_move (c := .pointer _) (by rfl)))) ?_
      refine P_det (by rfl) (Over_out (by rfl) (Over_nil (by first | exact y_nilCheck (by rfl) | exact y_nilCheckF (by rfl)))) ?_
      refine P_det (by rfl) (Over_out (by rfl) (Over_nil (y_fieldAddr (by rfl) fa127_0))) ?_
      refine P_det (by rfl) (Over_out (by rfl) (Over_nil (y_load1 (by rfl) Try.isAgg108 (Mem.own1 1 (by rfl) (by rfl))))) ?_
      refine P_det (by rfl) (Over_out (by rfl) (Over_nil (y_move (c := .int .i64 _) (by rfl)))) ?_
      refine P_det (by rfl) (Over_out (by rfl) (Over_nil (y_callL (by rfl) (by rfl) Try.call111 (fun w hw => drip_any bk l k w (Bk.own (by repeat (first | exact List.mem_cons_self | apply List.mem_cons_of_mem)) (by repeat (first | exact List.mem_cons_self | apply List.mem_cons_of_mem)) hok hx he w hw) hk)))) ?_
      refine P_det (by rfl) (Over_out (by rfl) (Over_nil (y_buildL bd26_1 (by rfl)))) ?_
      refine P_det (by rfl) (Over_out (by rfl) (Over_nil (y_move (c := .pointer _) (by rfl)))) ?_
      refine P_det (by rfl) (Over_out (by rfl) (Over_nil (by first | exact y_nilCheck (by rfl) | exact y_nilCheckF (by rfl)))) ?_
      refine P_det (by rfl) (Over_out (by rfl) (Over_nil (y_fieldAddr (by rfl) fa127_1))) ?_
      refine P_det (by rfl) (Over_out (by rfl) (Over_nil (y_load1 (by rfl) Try.isAgg90 (Mem.own1 1 (by rfl) (by rfl))))) ?_
      refine P_det (by rfl) (Over_out (by rfl) (Over_nil (y_move (c := .int .i64 _) (by rfl)))) ?_
      refine P_det (by rfl) (Over_out (by rfl) (Over_nil (y_index (k := k) (by rfl) (by rfl) (by first | rfl | omega) (by first | decide | omega) Try.runUnderlying90 Try.sizeOf26))) ?_
      refine P_det (by rfl) (Over_out (by rfl) (Over_nil (y_loadN (by rfl) Try.isAgg26 Try.sizeOf26 (Mem.rowJ sn_len 2 (by rfl) (k := k) (by omega) rfl (by omega)) (by rfl)))) ?_
      refine P_det (by rfl) (Over_out (by rfl) (Over_nil (y_move (c := .pointer _) (by rfl)))) ?_
      refine P_det (by rfl) (Over_out (by rfl) (Over_nil (by first | exact y_nilCheck (by rfl) | exact y_nilCheckF (by rfl)))) ?_
      refine P_det (by rfl) (Over_out (by rfl) (Over_nil (y_fieldAddr (by rfl) fa127_3))) ?_
      refine P_det (by rfl) (Over_out (by rfl) (Over_nil (y_load1 (by rfl) Try.isAgg90 (Mem.own1 1 (by rfl) (by rfl))))) ?_
      refine P_det (by rfl) (Over_out (by rfl) (Over_nil (y_move (c := .int .i64 _) (by rfl)))) ?_
      refine P_det (by rfl) (Over_out (by rfl) (Over_nil (y_index (k := k) (by rfl) (by rfl) (by first | rfl | omega) (by first | decide | omega) Try.runUnderlying90 Try.sizeOf26))) ?_
      refine P_det (by rfl) (Over_out (by rfl) (Over_nil (y_loadN (by rfl) Try.isAgg26 Try.sizeOf26 (Mem.row sn_len 4 (by rfl) (k := k) (by omega) rfl (by omega)) (by rfl)))) ?_
      refine P_det (by rfl) (Over_out (by rfl) (Over_nil (y_callL (by rfl) (by rfl) Try.call96 (fun w hw => change_any (l.hold k) (l.ahd k) w hsm has)))) ?_
      refine P_det (by rfl) (Over_out (by rfl) (Over_nil (y_callL (by rfl) (by rfl) Try.call109 (fun w hw => met_any _ _ _ _ w)))) ?_
      refine P_st 1000000 0 (by rfl) (by rfl) (by rfl) (by rfl) (by rfl) (Over_nil (st_pre (fun _ => by rfl) (fun _ => by rfl) Try.sizeOf26 (by rfl) (by rfl) (by first | decide | exact Nat.le_of_ble_eq_true rfl | simp))) ?_
      refine P_det (by rfl) (Over_out (by rfl) (Over_nil (y_assign (c := .int .i64 _) (by rfl)))) ?_
      refine PW_end (by rfl) ?_
      refine OverAll_cons (fun w1000000 l1000000 => ?_)
      refine OverAll_nil ?_
      rintro ⟨-, h1000000⟩
      obtain rfl := h1000000
      refine Then_normal ?_
      refine W_ret ?_
      refine Fin_ret [_, .int .i64 _] [] Try.results49 ⟨lvN (by rfl) Try.isAgg26 Try.sizeOf26 (Mem.own (us := [.int .i64 _, .int .i64 _]) 0 (by rfl) (by rfl)) (by rfl), by rfl, trivial⟩ HSub.nil ?_
      show Value.tuple _ = _
      unfold Lg.lostV
      rw [if_pos c2, c4, if_pos rfl, Int.toNat_natCast]; rfl
def Lg.tr (l : Lg) : Nat → Int
  | 0 => (l.at 0).lo
  | k + 1 => max (l.after k ⟨l.tr k, l.tr k⟩).lo (l.aft (k + 1)).lo
theorem Lg.Ok.after_lo {l : Lg} (h : l.Ok) {i : Nat} (hi : i < l.es.length) {s : Sn} (hs : 0 ≤ s.lo) : 0 ≤ (l.after i s).lo ∧ (l.after i s).lo ≤ s.lo + 1000000 := by
  have hd := h.drip_bd hi
  have hf := h.tk.full_bd
  have hz := Sn.inB_iff.1 (h.size i hi)
  have hhb : l.tk.height ≤ 160 := by have := h.tk.n21; unfold Tk.height; omega
  have hup := h.tk.eight_bd (x := (l.e i).size.lo)
  have hkd := h.kind i hi
  unfold Tk.most at hz
  unfold Lg.after Tk.forth Lg.before
  split
  · rename_i h1
    rw [if_neg (by omega)] at hz
    simp only [Sn.met, Sn.add, Tk.all]
    omega
  · split
    · rename_i h1 h2
      rw [if_neg (by omega)] at hz
      simp only [Sn.met, Sn.sub, Tk.all]
      omega
    · rename_i h1 h2
      rw [if_pos (by omega)] at hz
      have hup := hup (by omega) (by omega)
      simp only [Sn.met, Tk.dip, Tk.up]
      omega
theorem Lg.Ok.tr_bd {l : Lg} (h : l.Ok) (hne : ∀ k, k ≤ l.es.length → (l.hold k).empty = false) : ∀ k, k ≤ l.es.length → 0 ≤ l.tr k ∧ l.tr k ≤ 10000000 + 1000000 * k
  | 0, _ => by
    have := h.at_bd hne (i := 0) (by omega)
    show 0 ≤ (l.at 0).lo ∧ (l.at 0).lo ≤ _
    omega
  | k + 1, hk => by
    have ih := Lg.Ok.tr_bd h hne k (by omega)
    have h1 := h.after_lo (i := k) (by omega) (s := ⟨l.tr k, l.tr k⟩) ih.1
    have h2 := h.aft_bd hk
    simp only at h1
    show 0 ≤ max _ _ ∧ max _ _ ≤ _
    push_cast
    omega
def iEnc (x : Int) : List Value := [.int .i64 x]
theorem ii_len (x : Int) : (iEnc x).length = 1 := rfl
abbrev iRow (f : Nat → Int) (n : Nat) : List Value := rowOf iEnc f n
theorem Mem.iRowJ {C : Ctx} {H : List Blk} {b o n k : Nat} {f : Nat → Int} {T : TypeId} {junk : List Value} (i : Nat) (hi : H[i]? = some (b, CB (iRow f n ++ junk) T)) (hk : k < n) (ho : o = k * 1) : Mem C H b o [.int .i64 (f k)] :=
  Mem.rowJ (enc := iEnc) ii_len i hi hk rfl ho
def TruthV (l : Lg) (v : Value) (Hn : List Blk) : Prop :=
  (l.aerr ≠ 0 → v = .tuple #[.slice none 0 0, .int .i64 l.aerr] ∧ Hn = []) ∧ (l.aerr = 0 → ∃ tb cap junk, v = .tuple #[.slice (some ⟨tb, 0, none⟩) (l.es.length + 1) cap, .int .i64 0] ∧ l.es.length + 1 ≤ cap ∧ Hn = [(tb, CB (iRow l.tr (l.es.length + 1) ++ junk) 3)])
theorem truth_any (l : Lg) (a : Option Addr) (cap : Nat) (ae : Option Addr) (cape : Nat) (w : World) (hn : l.tk.n ≤ 1000000) (hx : Ints w a l.tk.n cap l.tk.pints) (he : Ens w ae l.es.length cape l.es) : Ct Try.prog 41 #[.agg #[.slice a l.tk.n cap, .int .i64 l.tk.leak, .int .i64 l.tk.foot, .int .i64 l.start.lo, .int .i64 l.start.hi, .slice ae l.es.length cape]] w (TruthV l) := by
  have hF := wide_wide
  refine Ct_start (args := [_]) Try.func41 (by rfl) Try.ntmps41 (by rfl) ?_
  refine W_seq ?_
  refine W_region_lit (fun ds => ?_)
  refine WS_new hF (by rfl) (y_box (by rfl)) (fun b1 => ?_)
  refine WS_det hF (by rfl) (y_assign (c := .slice _ _ _) (by rfl)) ?_
  refine WS_det hF (by rfl) (y_assign (c := .int .i64 _) (by rfl)) ?_
  refine WS_nil ?_
  refine Then_normal ?_
  refine W_seq ?_
  refine W_region_lit (fun ds => ?_)
  refine WS_det hF (by rfl) (y_loadN (by rfl) Try.isAgg46 Try.sizeOf46 (Mem.own (us := [.slice _ _ _, .int .i64 _, .int .i64 _, .int .i64 _, .int .i64 _, .slice _ _ _]) 0 (by rfl) (by rfl)) (by rfl)) ?_
  refine WS_gen hF (by rfl) (y_callL (by rfl) (by rfl) Try.call88 (fun w hw => asked_any l a cap ae cape w hn (hx.st w hw) (he.st w hw))) ?_
  rintro _ Hg ⟨p, rfl, hg1, hg2⟩
  refine WS_det hF (by rfl) (y_move (c := .tuple _) (by rfl)) ?_
  refine WS_det hF (by rfl) (y_extract (c := .pointer _) (by rfl) (by rfl)) ?_
  refine WS_det hF (by rfl) (y_extract (c := .int .i64 _) (by rfl) (by rfl)) ?_
  refine WS_det hF (by rfl) (y_assign (c := .pointer _) (by rfl)) ?_
  refine WS_det hF (by rfl) (y_assign (c := .int .i64 _) (by rfl)) ?_
  refine WS_nil ?_
  refine Then_normal ?_
  refine W_seq ?_
  refine W_seq ?_
  refine W_region_lit (fun ds => ?_)
  refine WS_det hF (by rfl) (y_move (c := .int .i64 _) (by rfl)) ?_
  refine WS_det hF (by rfl) (y_neq (by rfl) (by rfl)) ?_
  refine WS_nil ?_
  refine Then_normal ?_
  refine W_cond (by rfl) (fun c2 => ?_) (fun c2 => ?_)
  ·
    try simp only [Bool.not_eq_true', Bool.not_eq_false', decide_eq_true_eq, decide_eq_false_iff_not, ne_eq, Classical.not_not, Int.not_lt, Int.not_le] at c2
    obtain rfl := hg2 c2
    refine W_seq ?_
    refine W_region_lit (fun ds => ?_)
    refine WS_det hF (by rfl) (y_move (c := .int .i64 _) (by rfl)) ?_
    refine WS_det hF (by rfl) (y_assign (c := .slice _ _ _) (by rfl)) ?_
    refine WS_det hF (by rfl) (y_assign (c := .int .i64 _) (by rfl)) ?_
    refine WS_nil ?_
    refine Then_normal ?_
    refine W_ret ?_
    refine Then_ret ?_
    refine Fin_ret [.slice _ _ _, .int .i64 _] [] Try.results41 ⟨by rfl, by rfl, trivial⟩ HSub.nil ?_
    exact ⟨fun _ => ⟨rfl, rfl⟩, fun h => absurd h c2⟩
  ·
    try simp only [Bool.not_eq_true', Bool.not_eq_false', decide_eq_true_eq, decide_eq_false_iff_not, ne_eq, Classical.not_not, Int.not_lt, Int.not_le] at c2
    obtain ⟨kb, rfl, bk, g, fb, capf, junk, ab, bb, rfl⟩ := hg1 c2
    have hok := l.ok_of (l.aerr0 c2).1
    have hne := (l.aerr0 c2).2
    have hfull := hok.tk.full_bd
    have hlb := hok.last_bd hne
    have h12 := hok.n12
    refine W_skip ?_
    refine Then_normal ?_
    refine W_seq ?_
    refine W_region_lit (fun ds => ?_)
    refine WS_det hF (by rfl) (y_move (c := .pointer _) (by rfl)) ?_
    refine WS_det hF (by rfl) (y_callL (by rfl) (by rfl) Try.call92 (fun w hw => at_any kb l 0 w (Kn.own (a := a) (cap := cap) (ae := ae) (cape := cape) (bk := bk) (g := g) (fb := fb) (capf := capf) (junk := junk) (ab := ab) (bb := bb) (by unfold knBlocks; repeat (first | exact List.Sublist.refl _ | exact List.nil_sublist _ | apply List.Sublist.cons_cons | apply List.Sublist.cons)) c2 hx he w hw) (by omega))) ?_
    refine WS_det hF (by rfl) (y_field (by rfl) fd26_0) ?_
    refine WS_newS hF (by rfl) (y_buildSliceL bs22_1_0 (by rfl)) (fun b2 => ?_)
    refine WS_det hF (by rfl) (y_assign (c := .slice _ _ _) (by rfl)) ?_
    refine WS_nil ?_
    refine Then_normal ?_
    refine W_seq ?_
    refine W_seq ?_
    refine W_region_lit (fun ds => ?_)
    refine WS_det hF (by rfl) (y_fieldAddr (by rfl) fa46_2) ?_
    refine WS_det hF (by rfl) (y_load1 (by rfl) Try.isAgg44 (Mem.own1 7 (by rfl) (by rfl))) ?_
    refine WS_det hF (by rfl) (y_len (by rfl) Try.runUnderlying44) ?_
    refine WS_det hF (by rfl) (y_move (c := .int .i64 _) (by rfl)) ?_
    refine WS_nil ?_
    refine Then_normal ?_
    refine W_block ?_
    refine W_loop (γ := Nat × Nat × Nat × List Value) (fun p => p.1 ≤ l.es.length ∧ (iRow l.tr (p.1 + 1) ++ p.2.2.2).length = p.2.2.1 * 1 ∧ p.1 + 1 ≤ p.2.2.1) (fun p => [(4, .pointer (some ⟨kb, 0, none⟩)), (6, .slice (some ⟨p.2.1, 0, none⟩) (p.1 + 1) p.2.2.1), (23, .int .i64 (l.es.length : Int)), (24, .int .i64 (p.1 : Int))]) (fun p => (p.2.1, CB (iRow l.tr (p.1 + 1) ++ p.2.2.2) 3) :: knBlocks l a cap ae cape kb bk g fb capf junk ab bb) (fun p => l.es.length - p.1) ((0, b2, 1, [])) ⟨Nat.zero_le _, rfl, Nat.le_refl _⟩ (by repeat (first | exact trivial | refine ⟨by rfl, ?_⟩)) ((by repeat (first | exact List.Sublist.refl _ | exact List.nil_sublist _ | apply List.Sublist.cons_cons | apply List.Sublist.cons))) ?_
    rintro ⟨k, tb, tcap, tjunk⟩ e ⟨hk, hlen, hcap⟩
    refine W_seq ?_
    refine W_region_lit (fun ds => ?_)
    refine WS_det hF (by rfl) (y_lss (by rfl) (by rfl)) ?_
    refine WS_nil ?_
    refine Then_normal ?_
    refine W_seq ?_
    refine W_cond (by rfl) (fun c6 => ?_) (fun c6 => ?_)
    ·
      try simp only [Bool.not_eq_true', Bool.not_eq_false', decide_eq_true_eq, decide_eq_false_iff_not, ne_eq, Classical.not_not, Int.not_lt, Int.not_le] at c6
      simp only at hlen hcap
      have htb := hok.tr_bd hne k (by omega)
      have hto : (⟨l.tr k, l.tr k⟩ : Sn).Sm := by unfold Sn.Sm; simp only; omega
      refine W_skip ?_
      refine Then_normal ?_
      refine W_seq ?_
      refine W_block ?_
      refine W_seq ?_
      refine W_region_lit (fun ds => ?_)
      refine WS_det hF (by rfl) (y_move (c := .int .i64 _) (by rfl)) ?_
      refine WS_det hF (by rfl) (y_assign (c := .int .i64 _) (by rfl)) ?_
      refine WS_nil ?_
      refine Then_normal ?_
      refine W_seq ?_
      refine W_draw0 hF Trymixed [8] (by decide +kernel) (fun ds => ?_)
      refine P_det (by rfl) (Over_nil (y_move (c := .pointer _) (by rfl))) ?_
      refine P_det (by rfl) (Over_nil (by first | exact y_nilCheck (by rfl) | exact y_nilCheckF (by rfl))) ?_
      refine P_det (by rfl) (Over_nil (y_fieldAddr (by rfl) fa127_0)) ?_
      refine P_det (by rfl) (Over_nil (y_load1 (by rfl) Try.isAgg108 (Mem.own1 1 (by rfl) (by rfl)))) ?_
      refine P_det (by rfl) (Over_nil (y_move (c := .int .i64 _) (by rfl))) ?_
      refine P_det (by rfl) (Over_nil (y_move (c := .slice _ _ _) (by rfl))) ?_
      refine P_det (by rfl) (Over_nil (y_move (c := .int .i64 _) (by rfl))) ?_
      refine P_det (by rfl) (Over_nil (y_index (k := k) (by rfl) (by rfl) (by first | rfl | omega) (by first | decide | omega) Try.runUnderlying22 Try.sizeOf3)) ?_
      refine P_det (by rfl) (Over_nil (y_load1 (by rfl) Try.isAgg3 (Mem.iRowJ 0 (by rfl) (k := k) (by omega) (by omega)))) ?_
      refine P_det (by rfl) (Over_nil (y_move (c := .slice _ _ _) (by rfl))) ?_
      refine P_det (by rfl) (Over_nil (y_move (c := .int .i64 _) (by rfl))) ?_
      refine P_det (by rfl) (Over_nil (y_index (k := k) (by rfl) (by rfl) (by first | rfl | omega) (by first | decide | omega) Try.runUnderlying22 Try.sizeOf3)) ?_
      refine P_det (by rfl) (Over_nil (y_load1 (by rfl) Try.isAgg3 (Mem.iRowJ 0 (by rfl) (k := k) (by omega) (by omega)))) ?_
      refine P_det (by rfl) (Over_nil (y_buildL bd26_0_1 (by rfl))) ?_
      refine P_det (by rfl) (Over_nil (y_callL (by rfl) (by rfl) Try.call103 (fun w hw => after_any bk l k ⟨l.tr k, l.tr k⟩ w (Bk.own (by repeat (first | exact List.mem_cons_self | apply List.mem_cons_of_mem)) (by repeat (first | exact List.mem_cons_self | apply List.mem_cons_of_mem)) hok hx he w hw) (by omega) hto))) ?_
      apply P_newS _ (by rfl) (by rfl) (by rfl) (Over_nil (y_alloc Try.zeroValue26 (by rfl)))
      refine P_st 8 0 (by rfl) (by rfl) (by rfl) (by rfl) (by rfl) (Over_nil (st_new (fun _ => by rfl) Try.sizeOf26 (by rfl) (by rfl) (by first | decide | exact Nat.le_of_ble_eq_true rfl | simp))) ?_
      refine PW_end (by rfl) ?_
      refine OverAll_cons (fun w8 l8 => ?_)
      refine OverAll_nil ?_
      rintro ⟨-, h8⟩
      obtain ⟨bs, rfl, rfl⟩ := h8
      refine Then_normal ?_
      apply W_drawMT 14 hF Trymixed [] [] [] (by rfl) (by decide +kernel) (by decide) HSub.refl
      intro ds
      refine P_det (by rfl) (Over_nil (y_move (c := .slice _ _ _) (by rfl))) ?_
      refine P_det (by rfl) (Over_nil (y_fieldAddr (by rfl) fa26_0)) ?_
      refine P_det (by rfl) (Over_nil (y_load1 (by rfl) Try.isAgg3 (Mem.own1 0 (by rfl) (by rfl)))) ?_
      refine P_det (by rfl) (Over_nil (y_move (c := .pointer _) (by rfl))) ?_
      refine P_det (by rfl) (Over_nil (by first | exact y_nilCheck (by rfl) | exact y_nilCheckF (by rfl))) ?_
      refine P_det (by rfl) (Over_nil (y_fieldAddr (by rfl) fa127_2)) ?_
      refine P_det (by rfl) (Over_nil (y_load1 (by rfl) Try.isAgg90 (Mem.own1 2 (by rfl) (by rfl)))) ?_
      refine P_det (by rfl) (Over_nil (y_move (c := .int .i64 _) (by rfl))) ?_
      refine P_det (by rfl) (Over_nil (y_add (by rfl) (by rfl) (by unfold I64; omega))) ?_
      refine P_det (by rfl) (Over_nil (y_index (k := k + 1) (by rfl) (by rfl) (by first | rfl | omega) (by first | decide | omega) Try.runUnderlying90 Try.sizeOf26)) ?_
      refine P_det (by rfl) (Over_nil (y_fieldAddr (by rfl) fa26_0)) ?_
      refine P_det (by rfl) (Over_nil (y_load1 (by rfl) Try.isAgg3 (Mem.rowAt sn_len 4 (by rfl) (k := k + 1) (j := 0) (by omega) rfl (by rfl) (by omega)))) ?_
      refine P_det (by rfl) (Over_nil (y_max (by rfl) (by rfl))) ?_
      refine P_new (by rfl) (by rfl) (Over_nil (y_buildSliceL bs22_1_0 (by rfl))) ?_
      refine PW_end (by rfl) ?_
      refine OverAll_cons (fun w55 l55 => ?_)
      refine OverAll_nil ?_
      rintro ⟨-, h55⟩
      obtain ⟨b3, rfl, rfl⟩ := h55
      refine WS_append hF (H1 := [_, _]) (Hn := [(tb, CB (iRow l.tr (k + 1) ++ tjunk) 3)]) (by rfl) (by rfl) (by rfl) Try.underlying22 infInt (by rfl) (by rfl) (.inr ⟨tb, tjunk, rfl, rfl, by rw [rowOf_len ii_len], hlen, hcap⟩) (.inr ⟨_, _, rfl, Mem.own (us := [.int _ _]) 0 (by rfl) (by rfl)⟩) (by rfl) (by rfl) (by omega) (by omega) ?_
      intro ta2 tcap2 Hf2 hrow2
      have hrow3 : Row 3 1 ta2 (k + 1 + 1) tcap2 (iRow l.tr (k + 1 + 1)) Hf2 := by rw [iRow, rowOf_succ]; exact hrow2
      obtain ⟨_, h0, _⟩ | ⟨tb2, tjunk2, rfl, rfl, hl1, hlen2, hcap2⟩ := hrow3
      · omega
      refine WS_det hF (by rfl) (y_assign (c := .slice _ _ _) (by rfl)) ?_
      refine WS_nil ?_
      refine InB_normal ?_
      refine Then_normal ?_
      refine W_region_lit (fun ds => ?_)
      refine WS_det hF (by rfl) (y_add (by rfl) (by rfl) (by unfold I64; omega)) ?_
      refine WS_det hF (by rfl) (y_move (c := .int .i64 _) (by rfl)) ?_
      refine WS_nil ?_
      exact Loop_next (k + 1, tb2, tcap2, tjunk2) ⟨by omega, hlen2, hcap2⟩ (by repeat (first | exact trivial | refine ⟨by rfl, ?_⟩)) (by repeat (first | exact List.Sublist.refl _ | exact List.nil_sublist _ | apply List.Sublist.cons_cons | apply List.Sublist.cons)) (by simp only; omega)
    ·
      try simp only [Bool.not_eq_true', Bool.not_eq_false', decide_eq_true_eq, decide_eq_false_iff_not, ne_eq, Classical.not_not, Int.not_lt, Int.not_le] at c6
      refine W_exit ?_
      refine Then_exit ?_
      refine Loop_exit ?_
      refine InB_same ?_
      refine Then_normal ?_
      refine W_seq ?_
      refine W_region_lit (fun ds => ?_)
      refine WS_det hF (by rfl) (y_move (c := .slice _ _ _) (by rfl)) ?_
      refine WS_det hF (by rfl) (y_assign (c := .slice _ _ _) (by rfl)) ?_
      refine WS_det hF (by rfl) (y_assign (c := .int .i64 _) (by rfl)) ?_
      refine WS_nil ?_
      refine Then_normal ?_
      refine W_ret ?_
      refine Fin_ret [.slice _ _ _, .int .i64 _] [(tb, _)] Try.results41 ⟨by rfl, by rfl, trivial⟩ (HSub.sub (by repeat (first | exact List.nil_sublist _ | apply List.Sublist.cons_cons | apply List.Sublist.cons))) ?_
      simp only at hk hcap
      obtain rfl : k = l.es.length := by omega
      exact ⟨fun h => absurd c2 h, fun _ => ⟨tb, tcap, tjunk, rfl, hcap, rfl⟩⟩
end Go.Proofs.Ythkimgfgpphgnaa.T

namespace Go.Eng
open Go.RowKit
section
variable {C : Ctx} {e : Env} {H : List Blk} {d : Option Tmp} {ty : TypeId} {pos : String} {af : Array Edge} {g : Option (Nat × Bool)} {x y : Operand} {t t' : TypeId} {m n : Int}
theorem wrapU {r : Int} (h0 : 0 ≤ r) (h1 : r < 18446744073709551616) : IntKind.u64.wrap r = r := by rw [IntKind.wrap_u64]; omega
theorem y_addU (hx : ev e x = .int .u64 m) (hy : ev e y = .int .u64 n) (h0 : 0 ≤ m + n) (h1 : m + n < 18446744073709551616) : YD C ⟨d, .binOp .add t x y t', ty, pos, af, g⟩ e H (.int .u64 (m + n)) :=
  yd_of fun w _ => by simp [execOp, hx, hy, eqGuard, binOp, Op.intArith, wrapU h0 h1]
theorem y_mulU (hx : ev e x = .int .u64 m) (hy : ev e y = .int .u64 n) (h0 : 0 ≤ m * n) (h1 : m * n < 18446744073709551616) : YD C ⟨d, .binOp .mul t x y t', ty, pos, af, g⟩ e H (.int .u64 (m * n)) :=
  yd_of fun w _ => by simp [execOp, hx, hy, eqGuard, binOp, Op.intArith, wrapU h0 h1]
theorem y_maskU (hx : ev e x = .int .u64 m) (hy : ev e y = .int .u64 4294967295) (h0 : 0 ≤ m) (h1 : m < 4294967296) : YD C ⟨d, .binOp .and t x y t', ty, pos, af, g⟩ e H (.int .u64 m) := yd_of fun w _ => by
  obtain ⟨k, rfl⟩ := Int.eq_ofNat_of_zero_le h0
  have h := bits_and_u64_nat k 4294967295 (by omega) (by omega)
  have e1 : k &&& 4294967295 = k % 4294967296 := Nat.and_two_pow_sub_one_eq_mod k 32
  rw [e1, Nat.mod_eq_of_lt (by omega)] at h
  have h2 : (Op.intBits .and .u64 (k : Int) 4294967295).run C.P w = .ok (.int .u64 (bits .and .u64 (k : Int) ((4294967295 : Nat) : Int))) w := rfl
  rw [h] at h2
  simp [execOp, hx, hy, eqGuard, binOp, h2]
theorem y_shrU0 (hx : ev e x = .int .u64 m) (hy : ev e y = .int .u64 32) (h0 : 0 ≤ m) (h1 : m < 4294967296) : YD C ⟨d, .binOp .shr t x y t', ty, pos, af, g⟩ e H (.int .u64 0) :=
  y_shr hx hy (by decide) (by
    rw [show min (32 : Int).toNat IntKind.u64.bits = 32 from rfl, Int.fdiv_eq_ediv_of_nonneg _ (by decide)]
    omega)
end
section
variable {C : Ctx} {F : Fence} {n : Nat} {ds : List Deferred} {all : Array Oper} {Q : Exit → Env → List Blk → Prop} {rest : List Oper} {e : Env} {H : List Blk}
variable {d : Option Tmp} {ty : TypeId} {pos : String} {af : Array Edge} {g : Option (Nat × Bool)}
theorem run_copy {x y : Operand} {T T2 E : TypeId} {i : TypeInfo} {b o b2 o2 dl dcap sl scap k : Nat} {vs us : List Value} {Tb : TypeId} {w : World} (hx : ev e x = .slice (some ⟨b, o, none⟩) dl dcap) (hy : ev e y = .slice (some ⟨b2, o2, none⟩) sl scap)
    (hT : C.P.underlying T = some (.slice E)) (hi : C.P.info? E = some i) (hk : k = min sl dl) (hm : At w b2 o2 us) (hl : us.length = k * i.size) (hone : us.all Value.oneCell' = true) (hb : w.heap[b]? = some (CB vs Tb)) (hfit : o + us.length ≤ vs.length) :
    (execOp (ev e) ⟨d, .call ⟨.builtin .copy, #[x, y], #[T, T2]⟩, ty, pos, af, g⟩).run C.P w = .ok (.value (.int .i64 (k : Int))) (w.setRow b (splice vs o us).toArray) := by
  have h := run_storeCells_at (P := C.P) b o Tb us 0 vs.toArray w hb (by simpa using hfit) (fun v hv => List.all_eq_true.1 hone v hv)
  simp only [Nat.add_zero] at h
  have h' : (storeCells ⟨b, o, none⟩ us).run C.P w = .ok () (w.setRow b (splice vs o us).toArray) := h
  have hf : (Builtin.firstCells i.size k (.slice (some ⟨b2, o2, none⟩) sl scap)).run C.P w = .ok us.toArray w := by
    have := run_loads (P := C.P) (i := 0) (acc := #[]) (by simpa using hm)
    simp [Builtin.firstCells, loadCells, ← hl, this]
  have hmin : Nat.min sl dl = k := hk.symm
  simp [execOp, resolve, invoke, builtin, hx, hy, Builtin.copy_, run_underlying hT, Builtin.lenOf, sizeOf, typeInfo, hi, hmin, hf, h', goInt]
theorem WS_copy (hF : Wide F) {x y : Operand} {T T2 E : TypeId} {b o b2 o2 dl dcap sl scap k sz by_ idx : Nat} {vs us : List Value} {z : Value} {Tb : TypeId} (hc : chk n all e ⟨d, .call ⟨.builtin .copy, #[x, y], #[T, T2]⟩, ty, pos, af, g⟩ = true)
    (hx : ev e x = .slice (some ⟨b, o, none⟩) dl dcap) (hy : ev e y = .slice (some ⟨b2, o2, none⟩) sl scap) (hT : C.P.underlying T = some (.slice E)) (hinf : (C.P.info? E).map (fun i => (i.zero, i.size, i.bytes)) = some (some z, sz, by_))
    (hk : k = min sl dl) (hm : Mem C H b2 o2 us) (hl : us.length = k * sz) (hone : us.all Value.oneCell' = true) (hi : H[idx]? = some (b, CB vs Tb)) (hfit : o + us.length ≤ vs.length)
    (hq : WS C F n ds all Q rest (updo e d (.int .i64 (k : Int))) (H.set idx (b, CB (splice vs o us) Tb))) :
    WS C F n ds all Q (⟨d, .call ⟨.builtin .copy, #[x, y], #[T, T2]⟩, ty, pos, af, g⟩ :: rest) e H := fun w hw act ha => by
  have hck := chk_spec hc
  have hwant := gd_wanted ha hck.2.1 (gOk_lt hck.2.2.1)
  have hb := hw.get hi
  unfold wpListIn
  rw [if_pos hwant]
  refine ⟨fun f _ => hF.fn f, ?_⟩
  obtain ⟨i, hii, hz, hsz, hby⟩ := info_parts hinf
  subst hsz
  rw [semAt_of hck.1, ha.eval, run_copy hx hy hT hii hk (hm w hw) hl hone hb hfit]
  exact hq _ (hw.set hi (swap_setRow hb)) _ (ha.put d hck.2.2.2)
end
section
variable {C : Ctx} {F : Fence} {n : Nat} {ds : List Deferred} {Q : Exit → Env → List Blk → Prop} {e : Env} {H : List Blk}
theorem ro_move {P : Program} {ρ : Operand → Value} {d : Option Tmp} {x : Operand} {ty : TypeId} {pos : String} {af : Array Edge} {g : Option (Nat × Bool)} (w : World) :
    (∃ v, (execOp ρ ⟨d, .move x, ty, pos, af, g⟩).run P w = .ok (.value v) w) ∨ ∃ h, (execOp ρ ⟨d, .move x, ty, pos, af, g⟩).run P w = .halt h w ∧ ∀ v, h ≠ .panic v := .inl ⟨ρ x, by simp [execOp]⟩
theorem W_drawZR {id : Nat} {l post' : List Oper} {H0 : List Blk} (m z : Nat) {om oz : Oper} {dz : Nat} (hF : Wide F) (hm : C.P.follows .mixedOrders = true) (pres : List Pre) (slots S : List Nat) (hs : pres.map (·.slot) = slots)
    (hph : (phased (l.take m).toArray slots && ((l.take m).all fun o => dOk n o.dst && gOk n (l.take m).toArray o) && (slots.all fun p => S.contains p) && tailZB l.toArray m z && Nat.ble m l.length) = true) (hnd : slots.Nodup)
    (hdrop : l.drop m = om :: post') (hoz : l[z]? = some oz) (hgz : oz.guard = none) (hdz : oz.dst = some dz) (hnd0 : noDefer oz = true) (hro : ∀ (ρ : Operand → Value) (w : World), (∃ v, (execOp ρ oz).run C.P w = .ok (.value v) w) ∨ ∃ h, (execOp ρ oz).run C.P w = .halt h w ∧ ∀ v, h ≠ .panic v)
    (hH : HSub H (pres.map (fun p => (p.b, p.o)) ++ H0))
    (hp : ∀ ds, PW (C.at ds) (l.take m).toArray S (fun us e => OverAll (fun e H => WS (C.at ds) F n ds l.toArray Q (om :: post') e H ∧ ∀ x, WS (C.at ds) F n ds l.toArray Q (om :: oz :: post') (upd e dz x) H) (fun _ => True) us e H0) H0 (l.take m) [] (pres.map Pre.un) e) :
    W C F n ds (.region id l.toArray true) Q e H := fun dd w hw a ha => by
  subst hs
  rw [List.all_map] at hph
  simp only [Bool.and_eq_true] at hph
  obtain ⟨⟨⟨⟨hph, hdk⟩, hsub⟩, ht⟩, hml⟩ := hph
  have hml : m ≤ l.length := Nat.le_of_ble_eq_true hml
  have hlen : (l.take m).length = m := by simp; omega
  have hl : l.take m ++ om :: post' = l := by rw [← hdrop]; exact List.take_append_drop m l
  have ht' : TailZ (l.take m ++ om :: post').toArray (l.take m).length z := by rw [hl, hlen]; exact tailZ_of ht
  have hozp : (l.take m)[z]? = some oz := by
    rw [List.getElem?_take, if_pos (by have := ht'.zlt; omega)]; exact hoz
  have hdzn : dz < n := by
    have := List.all_eq_true.1 hdk oz (List.mem_of_getElem? hozp)
    simp only [Bool.and_eq_true] at this
    have := this.1
    rw [hdz] at this
    simpa [dOk, Nat.blt_eq] using this
  refine wpIn_mono (Q := lift (C.at dd) n dd Q) (wpIn_region_any hm ?_) fun _ _ _ h => lift_M h
  have h1 := draw_any (C := C.at dd) (ds := dd) (F := F) (n := n) (ops := (l.take m).toArray) (Q := tailZQ (C.at dd) F n dd l.toArray om oz dz post' Q) (e := e) (H := H) (H0 := H0) hF pres S (fun _ hw => ⟨hw.1, hH _ _ hw.2, hw.3⟩) hph (by simpa using hdk) hsub hnd (hp dd) w hw a ha
  have h2 := tail_anyZ (P := C.P) (F := F) (pre := l.take m) (post' := post') (om := om) (oz := oz) (z := z) (Q := lift (C.at dd) n dd Q) (Q' := lift (C.at dd) n dd (tailZQ (C.at dd) F n dd l.toArray om oz dz post' Q)) ht' hozp (phased_spec hph).down
    (fun x hx a w ⟨e, H, g1, g2, g3⟩ => ⟨e, H, g1, g2, by cases x <;> first | exact g3 | exact absurd rfl hx⟩) (fun a w ⟨e, H, g1, g2, g3⟩ => by rw [hl]; exact g3.1 w g2 a g1)
    (fun a w hz => by
      rw [hl]
      unfold wpOpIn at hz
      rw [show (l.take m).toArray[z]? = some oz by simpa using hozp] at hz
      simp only [] at hz
      rw [if_pos (by unfold Region.wanted; rw [hgz])] at hz
      obtain ⟨_, hz⟩ := hz
      rw [semAt_of hnd0] at hz
      rcases hro a.eval w with ⟨v, hr⟩ | ⟨x, hr, hnp⟩
      · rw [hr] at hz
        obtain ⟨e', H', g1, g2, g3⟩ := hz
        rw [hdz] at g1
        have hrep : Rep n dd a (upd e' dz (a.tmps.getD dz undef)) := by
          refine ⟨by have := g1.size; simpa [Act.put] using this, by have := g1.defers; simpa [Act.put] using this, fun t => ?_⟩
          by_cases ht : t = dz
          · subst ht; rw [upd_same]
          · rw [upd_ne _ _ ht, ← g1.val t]
            simp only [Act.put, Array.getD_eq_getD_getElem?, Array.getElem?_setIfInBounds]
            rw [if_neg (fun h => ht h.symm)]
        exact g3.2 _ w g2 a hrep
      · rw [hr] at hz
        cases x
        case panic v => exact absurd rfl (hnp v)
        all_goals exact hz.elim)
    (l.take m).toArray.size l.toArray.size (Array.replicate (l.take m).toArray.size false) a w.drew (by simp) (fun j k hj => by
      unfold Lst at hj
      rw [Array.getD_eq_getD_getElem?, Array.getElem?_replicate] at hj
      split at hj <;> cases hj) (by
        have := congrArg List.length hl
        simp only [List.length_append] at this
        simp at this ⊢; omega) h1
  rw [hl] at h2
  have hrep : Array.replicate (l.take m).toArray.size false ++ Array.replicate (om :: post').length false = Array.replicate l.toArray.size false := by
    rw [Array.replicate_append_replicate]
    congr 1
    have := congrArg List.length hl
    simp only [List.length_append] at this
    simp at this ⊢; omega
  rw [hrep] at h2
  exact h2
end
section
variable {α : Type} {enc : α → List Value} {sz : Nat}
theorem rowOf_add (f : Nat → α) (a : Nat) : ∀ b, rowOf enc f (a + b) = rowOf enc f a ++ rowOf enc (fun j => f (a + j)) b
  | 0 => by simp [rowOf]
  | b + 1 => by rw [← Nat.add_assoc, rowOf_succ, rowOf_add f a b, rowOf_succ, List.append_assoc]
/-- Several elements are written. -/
theorem rowOf_splices (hz : ∀ x, (enc x).length = sz) {f g h : Nat → α} {k m n : Nat} (hkm : k + m ≤ n) (hg : ∀ j, j < m → h (k + j) = g j) (ho : ∀ j, j < n → j < k ∨ k + m ≤ j → h j = f j) : splice (rowOf enc f n) (k * sz) (rowOf enc g m) = rowOf enc h n := by
  obtain ⟨r, rfl⟩ : ∃ r, n = k + (m + r) := ⟨n - k - m, by omega⟩
  rw [rowOf_add f k, rowOf_add (fun j => f (k + j)) m, rowOf_add h k, rowOf_add (fun j => h (k + j)) m]
  rw [rowOf_congr (f := h) (g := f) k fun j hj => ho j (by omega) (.inl hj), rowOf_congr (f := fun j => h (k + j)) (g := g) m fun j hj => hg j hj,
    rowOf_congr (f := fun j => h (k + (m + j))) (g := fun j => f (k + (m + j))) r fun j hj => ho _ (by omega) (.inr (by omega))]
  unfold splice
  rw [rowOf_len hz g m, ← rowOf_len hz f k, List.take_left, List.append_assoc]
  congr 2
  rw [← List.drop_drop, List.drop_left, ← rowOf_len hz (fun j => f (k + j)) m, List.drop_left]
end
end Go.Eng
