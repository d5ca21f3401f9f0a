/- make of slices; rows of several cells each. No project text. -/
import Derived.Test.YthkimgfgpphgnaaEng12
namespace Go.Eng
open Go.RowKit
def rowOf {α : Type} (enc : α → List Value) (f : Nat → α) (n : Nat) : List Value := (List.range n).flatMap fun k => enc (f k)
section
variable {α : Type} {enc : α → List Value} {sz : Nat}
theorem rowOf_succ (f : Nat → α) (n : Nat) : rowOf enc f (n + 1) = rowOf enc f n ++ enc (f n) := by
  unfold rowOf; rw [List.range_succ, List.flatMap_append]; simp
theorem rowOf_len (hz : ∀ x, (enc x).length = sz) (f : Nat → α) : ∀ n, (rowOf enc f n).length = n * sz
  | 0 => by simp [rowOf]
  | n + 1 => by rw [rowOf_succ, List.length_append, rowOf_len hz f n, hz, Nat.add_mul, Nat.one_mul]
theorem rowOf_congr {f g : Nat → α} : ∀ n, (∀ k, k < n → f k = g k) → rowOf enc f n = rowOf enc g n
  | 0, _ => rfl
  | n + 1, h => by rw [rowOf_succ, rowOf_succ, rowOf_congr n fun k hk => h k (by omega), h n (by omega)]
theorem rowOf_split (hz : ∀ x, (enc x).length = sz) (f : Nat → α) (k : Nat) : ∀ n, k < n → ∃ t, rowOf enc f n = rowOf enc f k ++ (enc (f k) ++ t) ∧ t = rowOf enc (fun j => f (k + 1 + j)) (n - (k + 1))
  | n + 1, h => by
    by_cases hk : k = n
    · subst hk
      exact ⟨[], by rw [rowOf_succ, List.append_nil], by rw [Nat.sub_self]; rfl⟩
    · obtain ⟨t, h1, h2⟩ := rowOf_split hz f k n (by omega)
      refine ⟨t ++ enc (f n), by rw [rowOf_succ, h1]; simp, ?_⟩
      rw [show n + 1 - (k + 1) = (n - (k + 1)) + 1 by omega, rowOf_succ, ← h2, show k + 1 + (n - (k + 1)) = n by omega]
/-- What lies at an element. -/
theorem rowOf_drop (hz : ∀ x, (enc x).length = sz) (f : Nat → α) {k n : Nat} (h : k < n) : ∃ t, (rowOf enc f n).drop (k * sz) = enc (f k) ++ t := by
  obtain ⟨t, h1, _⟩ := rowOf_split hz f k n h
  exact ⟨t, by rw [h1, ← rowOf_len hz f k, List.drop_left]⟩
theorem rowOf_get (hz : ∀ x, (enc x).length = sz) (f : Nat → α) {k n j : Nat} (h : k < n) {v : Value} (hv : (enc (f k))[j]? = some v) : (rowOf enc f n)[k * sz + j]? = some v := by
  obtain ⟨t, ht⟩ := rowOf_drop hz f h
  have h2 := congrArg (fun l => l[j]?) ht
  simp only [List.getElem?_drop] at h2
  rw [h2, List.getElem?_append_left (by have := List.getElem?_eq_some_iff.1 hv; exact this.1)]; exact hv
/-- One element more is written. -/
theorem rowOf_splice (hz : ∀ x, (enc x).length = sz) {f g : Nat → α} {k n : Nat} (h : k < n) {us : List Value} (hk : us = enc (g k)) (ho : ∀ j, j < n → j ≠ k → g j = f j) : splice (rowOf enc f n) (k * sz) us = rowOf enc g n := by
  obtain ⟨t, h1, h2⟩ := rowOf_split hz f k n h
  obtain ⟨t', h1', h2'⟩ := rowOf_split hz g k n h
  have ht : t = t' := by
    rw [h2, h2']
    exact rowOf_congr _ fun j hj => (ho _ (by omega) (by omega)).symm
  have hp : rowOf enc f k = rowOf enc g k := rowOf_congr k fun j hj => (ho j (by omega) (by omega)).symm
  subst hk
  unfold splice
  rw [h1', ← ht, ← hp, h1, hz, ← rowOf_len hz f k, List.take_left, List.append_assoc]
  congr 2
  rw [List.drop_append, List.drop_of_length_le (by omega), List.nil_append, Nat.add_sub_cancel_left, ← hz (f k), List.drop_left]
end
theorem range_mod (zs : List Value) : ∀ n, (List.range (n * zs.length)).map (fun i => zs[i % zs.length]!) = (List.range n).flatMap fun _ => zs
  | 0 => by simp
  | n + 1 => by
    rw [Nat.add_mul, Nat.one_mul, List.range_add, List.map_append, range_mod zs n, List.range_succ, List.flatMap_append]
    congr 1
    simp only [List.flatMap_cons, List.flatMap_nil, List.append_nil, List.map_map]
    refine List.ext_getElem (by simp) fun i h1 h2 => ?_
    simp only [List.getElem_map, List.getElem_range, Function.comp]
    rw [Nat.add_comm, Nat.add_mul_mod_self_right, Nat.mod_eq_of_lt h2]
    simp [h2]
section
variable {C : Ctx} {e : Env} {H : List Blk} {d : Option Tmp} {ty : TypeId} {pos : String} {af : Array Edge} {g : Option (Nat × Bool)}
theorem run_makeSlice {P : Program} {w : World} {T E : TypeId} {i : TypeInfo} {z : Value} {zs : List Value} {kl kc : IntKind} {n : Nat} (hT : P.underlying T = some (.slice E)) (hi : P.info? E = some i) (hz : i.zero = some z) (hzs : z.cells = zs.toArray) (hsz : zs.length = i.size)
    (hb : n * i.bytes ≤ 140737488355328) (hn : n ≤ 140737488355328) :
    (Instr.makeSlice T (.int kl n) (.int kc n)).run P w = .ok (.slice (some ⟨w.heap.size, 0, none⟩) n n) (w.alloc (CB ((List.range n).flatMap fun _ => zs) E)) := by
  have wl : IntKind.i64.wrap (n : Int) = n := by rw [IntKind.wrap_i64]; omega
  have hb' : (i.bytes : Int) * (n : Int) ≤ 281474976710656 := by
    have h : ((n * i.bytes : Nat) : Int) ≤ 281474976710656 := by omega
    rw [Int.natCast_mul] at h
    rwa [Int.mul_comm]
  have n1 : ¬ (n : Int) < 0 := by omega
  have n2 : ¬ (281474976710656 < (i.bytes : Int) * (n : Int)) := by omega
  have hcells : (Array.map (fun x => zs[x % i.size]!) (Array.range (n * i.size))) = ((List.range n).flatMap fun _ => zs).toArray := by
    have h := range_mod zs n
    rw [hsz] at h
    rw [← h, ← List.map_toArray, ← Array.toList_range]
  by_cases h0 : n * i.size = 0
  · have hz0 : (List.range n).flatMap (fun _ => zs) = [] := by
      rw [← range_mod zs n, hsz, h0]; rfl
    simp [go_sem, Instr.makeSlice, run_underlying hT, typeInfo, sizeOf, hi, asInt, asIntOf, wl, n1, n2, askRoom, h0, newRow, newObj, CB, hz0]
    rfl
  · unfold CB
    rw [← hcells]
    have hz2 := hzs
    unfold Value.cells at hz2
    have hg : ∀ x : Nat, zs.toArray[x]! = zs[x]! := fun x => by simp
    simp [-List.getElem!_eq_getElem?_getD, go_sem, Instr.makeSlice, run_underlying hT, typeInfo, sizeOf, hi, asInt, asIntOf, wl, n1, n2, askRoom, h0, newRow, newObj, zeroValue, hz]
    simp only [hz2, List.size_toArray, hsz, hg]
    rfl
theorem y_makeSlice {x y : Operand} {T E : TypeId} {z : Value} {zs : List Value} {kl kc : IntKind} {n sz by_ : Nat} {l c : Int} (hx : ev e x = .int kl l) (hy : ev e y = .int kc c) (hl : l = (n : Int)) (hc : c = (n : Int))
    (hT : C.P.underlying T = some (.slice E)) (hinf : (C.P.info? E).map (fun i => (i.zero, i.size, i.bytes)) = some (some z, sz, by_)) (hzs : z.cells = zs.toArray) (hsz : zs.length = sz) (hb : n * by_ ≤ 140737488355328) (hn : n ≤ 140737488355328) :
    YR C ⟨d, .makeSlice T x y, ty, pos, af, g⟩ e H (NewSlice (CB ((List.range n).flatMap fun _ => zs) E) n) := fun w _ => by
  obtain ⟨i, hi, hz, hsz', hby⟩ := info_parts hinf
  subst hl hc hsz' hby
  have : (execOp (ev e) ⟨d, .makeSlice T x y, ty, pos, af, g⟩).run C.P w = .ok (.value (.slice (some ⟨w.heap.size, 0, none⟩) n n)) (w.alloc (CB ((List.range n).flatMap fun _ => zs) E)) := by
    simp [execOp, hx, hy, run_makeSlice (w := w) (kl := kl) (kc := kc) hT hi hz hzs hsz hb hn]
  rw [this]; exact out_new (fun h => by cases h) ⟨_, rfl, rfl⟩
end
end Go.Eng
