/- append onto a slice without room, equality of flat structs. No project text. -/
import Derived.Test.YthkimgfgpphgnaaEng8
namespace Go.Eng
open Go.RowKit
section
variable {C : Ctx} {F : Fence} {n : Nat} {ds : List Deferred} {all : Array Oper} {Q : Exit → Env → List Blk → Prop} {rest : List Oper} {e : Env} {H : List Blk} {o : Oper}
variable {d : Option Tmp} {ty : TypeId} {pos : String} {af : Array Edge} {g : Option (Nat × Bool)}

/-- The cells of a slice's first elements. -/
def Src (C : Ctx) (H : List Blk) (a : Option Addr) (m : Nat) (us : List Value) : Prop := m = 0 ∧ us = [] ∨ ∃ b o, a = some ⟨b, o, none⟩ ∧ Mem C H b o us

/-- A new row that begins with some cells; no row at all if there are none. -/
def NewRow (T : TypeId) (sz m : Nat) (us : List Value) (v : Value) (Hn : List Blk) : Prop :=
  ∃ a cap, v = .slice a m cap ∧ m ≤ cap ∧ ((0 < m ∧ ∃ b junk, a = some ⟨b, 0, none⟩ ∧ Hn = [(b, CB (us ++ junk) T)] ∧ (us ++ junk).length = cap * sz) ∨ (m = 0 ∧ Hn = [] ∧ cap = 0))

theorem run_firstCells {P : Program} {w : World} {a : Option Addr} {m sz cap : Nat} {us : List Value} (h : m = 0 ∧ us = [] ∨ ∃ b o, a = some ⟨b, o, none⟩ ∧ At w b o us) (hl : us.length = m * sz) :
    (Builtin.firstCells sz m (.slice a m cap)).run P w = .ok us.toArray w := by
  rcases h with ⟨rfl, rfl⟩ | ⟨b, o, rfl, h⟩
  · cases a with
    | none => simp [Builtin.firstCells]
    | some a => simp [Builtin.firstCells, loadCells, loadCellsFrom]
  · have := run_loads (P := P) (i := 0) (acc := #[]) (by simpa using h)
    simp [Builtin.firstCells, loadCells, ← hl, this]

theorem out_new_drew {w : World} {o : Obj} {R : Value → List Blk → Prop} {v : Value} (hk : o ≠ .deferred (some [])) (h : R v [(w.heap.size, o)]) : Out R v w (w.drew.alloc o) := by
  refine ⟨[(w.heap.size, o)], (Below.refl _ _).drew.alloc (Nat.le_refl _) _, ⟨fun x hx => ?_, by simp, fun x hx => ?_⟩, h⟩
  · simp only [List.mem_singleton] at hx
    subst hx
    exact ⟨Nat.le_refl _, heap_alloc_new w.drew _⟩
  · simp only [List.mem_singleton] at hx
    subst hx
    exact hk

theorem addr_add (b o j : Nat) : (⟨b, o, none⟩ : Addr).add j = ⟨b, o + j, none⟩ := by unfold Addr.add; split <;> simp_all
theorem exec_append {x y : Operand} {T : TypeId} {s t v : Value} {w w' : World} {P : Program} (hx : ev e x = s) (hy : ev e y = t) (h : (Builtin.append_ #[T, T] ty #[s, t]).run P w = .ok v w') :
    (execOp (ev e) ⟨d, .call ⟨.builtin .append, #[x, y], #[T, T]⟩, ty, pos, af, g⟩).run P w = .ok (.value v) w' := by
  simp [execOp, resolve, invoke, builtin, hx, hy, h]
theorem run_append_none {P : Program} {w : World} {T E : TypeId} {i : TypeInfo} {s a : Option Addr} {n cap c : Nat} (hT : P.underlying T = some (.slice E)) (hE : P.info? E = some i) :
    (Builtin.append_ #[T, T] ty #[.slice s n cap, .slice a 0 c]).run P w = if n ≤ cap then .ok (.slice s n cap) w else (Builtin.append_ #[T, T] ty #[.slice s n cap, .slice a 0 c]).run P w := by
  split
  · rename_i hle
    cases s with
    | none => cases a with
      | none => simp [Builtin.append_, run_underlying hT, sizeOf, typeInfo, hE, Builtin.lenOf, Builtin.firstCells, hle]
      | some a => simp [Builtin.append_, run_underlying hT, sizeOf, typeInfo, hE, Builtin.lenOf, Builtin.firstCells, loadCells, loadCellsFrom, hle]
    | some s => cases a with
      | none => simp [Builtin.append_, run_underlying hT, sizeOf, typeInfo, hE, Builtin.lenOf, Builtin.firstCells, hle, storeCells]
      | some a => simp [Builtin.append_, run_underlying hT, sizeOf, typeInfo, hE, Builtin.lenOf, Builtin.firstCells, loadCells, loadCellsFrom, hle, storeCells]
  · rfl
theorem src_get {w : World} {a : Addr} {b o : Nat} {us : List Value} (ha : a = ⟨b, o, none⟩) (h : At w b o us) : ∀ j v, us[j]? = some v → w.cell? (a.add j) = some v := fun j v hv => by
  subst ha; rw [addr_add]; exact h.get j v hv
theorem y_append0 {x y : Operand} {T E : TypeId} {a0 a : Option Addr} {m cap sz by_ : Nat} {us : List Value} {z : Value} (hx : ev e x = .slice a0 0 0) (hy : ev e y = .slice a m cap)
    (hT : C.P.underlying T = some (.slice E)) (hinf : (C.P.info? E).map (fun i => (i.zero, i.size, i.bytes)) = some (some z, sz, by_))
    (hzs : z.cells.size = sz) (hs : Src C H a m us) (hl : us.length = m * sz) (hb : m * by_ ≤ 140737488355328) (hm : m ≤ 140737488355328) :
    YR C ⟨d, .call ⟨.builtin .append, #[x, y], #[T, T]⟩, ty, pos, af, g⟩ e H (NewRow E sz m us) := fun w hw => by
  obtain ⟨i, hi, hz, hsz, hby⟩ := info_parts hinf
  by_cases h0 : m = 0
  · subst h0
    have hus : us = [] := by simpa using hl
    subst hus
    have h1 := run_append_none (ty := ty) (w := w) (s := a0) (a := a) (n := 0) (cap := 0) (c := cap) hT hi
    rw [if_pos (Nat.le_refl _)] at h1
    rw [exec_append hx hy h1]
    exact ⟨[], Below.refl _ _, HOk.nil _ _, a0, 0, rfl, Nat.le_refl _, .inr ⟨rfl, rfl, rfl⟩⟩
  · obtain ⟨b, o, rfl, hmem⟩ := hs.resolve_left fun h => h0 h.1
    have hat := src_get rfl (hmem w hw)
    subst hsz hby
    have hge := grownCap_ge w m 0 E
    have hlen : ∀ (l : List Value), l.length = m * i.size → (l ++ (Builtin.zeroCells z.cells (grownCap w m 0 E - m)).toList).length = grownCap w m 0 E * i.size := fun l hl => by
      rw [List.length_append, hl, Array.length_toList, size_zeroCells, hzs, ← Nat.add_mul]
      congr 1; omega
    have key : (Builtin.append_ #[T, T] ty #[.slice a0 0 0, .slice (some ⟨b, o, none⟩) m cap]).run C.P w =
        .ok (.slice (some ⟨w.heap.size, 0, none⟩) m (grownCap w m 0 E)) (w.drew.alloc (CB (us ++ (Builtin.zeroCells z.cells (grownCap w m 0 E - m)).toList) E)) := by
      have hobj : CB (us ++ (Builtin.zeroCells z.cells (grownCap w m 0 E - m)).toList) E = .cells (us.toArray ++ Builtin.zeroCells z.cells (grownCap w m 0 E - m)) E := by
        unfold CB; congr 1; simp
      rw [hobj]
      cases a0 with
      | none => exact run_append_nil (P := C.P) w T ty E i z hT hi hz ⟨b, o, none⟩ m cap us hl hat (by omega) (by omega) (by omega)
      | some a0 =>
        have := run_append_grow (P := C.P) w T ty E i z hT hi hz a0 0 0 [] (by simp) (by simp) ⟨b, o, none⟩ m cap us hl hat (by omega) (by omega) (growslice_fits (by omega) (by rw [Nat.zero_add]; exact hb))
        simpa using this
    rw [exec_append hx hy key]
    exact out_new_drew (fun h => by cases h) ⟨_, _, rfl, hge, .inl ⟨by omega, _, _, rfl, rfl, hlen us hl⟩⟩

/-- A slice of the call's own: nil, or at the head of a block of its own. -/
def Row (E : TypeId) (sz : Nat) (a : Option Addr) (n cap : Nat) (us : List Value) (Hn : List Blk) : Prop :=
  (a = none ∧ n = 0 ∧ cap = 0 ∧ us = [] ∧ Hn = []) ∨ ∃ b junk, a = some ⟨b, 0, none⟩ ∧ Hn = [(b, CB (us ++ junk) E)] ∧ us.length = n * sz ∧ (us ++ junk).length = cap * sz ∧ n ≤ cap
theorem Row.nil (E : TypeId) (sz : Nat) : Row E sz none 0 0 [] [] := .inl ⟨rfl, rfl, rfl, rfl, rfl⟩
theorem NewRow.row {E : TypeId} {sz m : Nat} {us : List Value} {v : Value} {Hn : List Blk} (h : NewRow E sz m us v Hn) (hl : us.length = m * sz) (hm : 0 < m) : ∃ a cap, v = .slice a m cap ∧ Row E sz a m cap us Hn := by
  obtain ⟨a, cap, rfl, hle, ⟨_, b, junk, rfl, rfl, hlen⟩ | ⟨h0, _⟩⟩ := h
  · exact ⟨_, _, rfl, .inr ⟨b, junk, rfl, rfl, hl, hlen, hle⟩⟩
  · omega

theorem WS_append (hF : Wide F) {x y : Operand} {T E : TypeId} {a a' : Option Addr} {n' m cap cap' sz by_ : Nat} {us news : List Value} {z : Value} {H1 Hn H2 : List Blk} (hc : chk n all e ⟨d, .call ⟨.builtin .append, #[x, y], #[T, T]⟩, ty, pos, af, g⟩ = true)
    (hx : ev e x = .slice a n' cap) (hy : ev e y = .slice a' m cap') (hT : C.P.underlying T = some (.slice E)) (hinf : (C.P.info? E).map (fun i => (i.zero, i.size, i.bytes)) = some (some z, sz, by_))
    (hzs : z.cells.size = sz) (hH : H = H1 ++ (Hn ++ H2)) (hrow : Row E sz a n' cap us Hn) (hs : Src C H a' m news) (hl : news.length = m * sz) (hone : news.all Value.oneCell' = true) (hb : (n' + m) * by_ ≤ 140737488355328) (hm : n' + m ≤ 140737488355328)
    (hk : ∀ a' cap' Hn', Row E sz a' (n' + m) cap' (us ++ news) Hn' → WS C F n ds all Q rest (updo e d (.slice a' (n' + m) cap')) (H1 ++ (Hn' ++ H2))) :
    WS C F n ds all Q (⟨d, .call ⟨.builtin .append, #[x, y], #[T, T]⟩, ty, pos, af, g⟩ :: rest) e H := fun w hw act ha => by
  have hck := chk_spec hc
  have hwant := gd_wanted ha hck.2.1 (gOk_lt hck.2.2.1)
  unfold wpListIn
  rw [if_pos hwant]
  refine ⟨fun f _ => hF.fn f, ?_⟩
  rw [semAt_of hck.1, ha.eval]
  obtain ⟨i, hi, hz, hsz, hby⟩ := info_parts hinf
  have hput := fun v => ha.put (v := v) d hck.2.2.2
  have nil_sub : St C (H1 ++ (Hn ++ H2)) w := by rw [← hH]; exact hw
  by_cases h0 : m = 0
  · subst h0
    have hn : news = [] := by simpa using hl
    subst hn
    have hle : n' ≤ cap := by rcases hrow with ⟨_, h1, h2, _⟩ | ⟨_, _, _, _, _, _, h⟩ <;> omega
    have h1 := run_append_none (ty := ty) (w := w) (s := a) (a := a') (n := n') (cap := cap) (c := cap') hT hi
    rw [if_pos hle] at h1
    rw [exec_append hx hy h1]
    refine hk a cap Hn (by simpa using hrow) w nil_sub _ (hput _)
  · obtain ⟨b', o', rfl, hmem⟩ := hs.resolve_left fun h => h0 h.1
    have hat := src_get rfl (hmem w hw)
    subst hsz hby
    -- a new row
    have grow : ∀ old, old < n' + m → us.length = n' * i.size → ∀ X : List Blk, St C (Hn ++ X) w → X = H1 ++ H2 →
        (Builtin.append_ #[T, T] ty #[.slice a n' cap, .slice (some ⟨b', o', none⟩) m cap']).run C.P w = .ok (.slice (some ⟨w.heap.size, 0, none⟩) (n' + m) (grownCap w (n' + m) old E)) (w.drew.alloc (.cells (us.toArray ++ news.toArray ++ Builtin.zeroCells z.cells (grownCap w (n' + m) old E - (n' + m))) E)) →
        Oper.uponIn F 0 C.P ⟨d, .call ⟨.builtin .append, #[x, y], #[T, T]⟩, ty, pos, af, g⟩ act (wpListIn F 0 C.P all (lift C n ds Q) rest) (lift C n ds Q)
          ((execOp (ev e) ⟨d, .call ⟨.builtin .append, #[x, y], #[T, T]⟩, ty, pos, af, g⟩).run C.P w) := by
      intro old hold hul X hX hXe hr
      rw [exec_append hx hy hr]
      have hge := grownCap_ge w (n' + m) old E
      have hobj : (Obj.cells (us.toArray ++ news.toArray ++ Builtin.zeroCells z.cells (grownCap w (n' + m) old E - (n' + m))) E) = CB ((us ++ news) ++ (Builtin.zeroCells z.cells (grownCap w (n' + m) old E - (n' + m))).toList) E := by
        unfold CB; congr 1; simp
      rw [hobj]
      have hlen : ((us ++ news) ++ (Builtin.zeroCells z.cells (grownCap w (n' + m) old E - (n' + m))).toList).length = grownCap w (n' + m) old E * i.size := by
        rw [List.length_append, List.length_append, hul, hl, Array.length_toList, size_zeroCells, hzs, ← Nat.add_mul, ← Nat.add_mul]
        congr 1; omega
      refine hk _ _ [(w.heap.size, _)] (.inr ⟨_, _, rfl, rfl, by rw [List.length_append, hul, hl, Nat.add_mul], hlen, hge⟩) _ ?_ _ (hput _)
      have h1 : St C ([(w.heap.size, CB ((us ++ news) ++ (Builtin.zeroCells z.cells (grownCap w (n' + m) old E - (n' + m))).toList) E)] ++ (Hn ++ X)) (w.drew.alloc (CB ((us ++ news) ++ (Builtin.zeroCells z.cells (grownCap w (n' + m) old E - (n' + m))).toList) E)) :=
        hX.grow ((Below.refl _ _).drew.alloc (Nat.le_refl _) _) ⟨fun x hx => by simp only [List.mem_singleton] at hx; subst hx; exact ⟨Nat.le_refl _, heap_alloc_new w.drew _⟩, by simp, fun x hx h => by simp only [List.mem_singleton] at hx; subst hx; cases h⟩
      subst hXe
      have h2 := h1.sub (H' := [(w.heap.size, CB ((us ++ news) ++ (Builtin.zeroCells z.cells (grownCap w (n' + m) old E - (n' + m))).toList) E)] ++ (H1 ++ H2)) (List.Sublist.append_left (List.sublist_append_right _ _) _)
      exact h2.perm (List.perm_append_comm_assoc ..)
    have hX : St C (Hn ++ (H1 ++ H2)) w := nil_sub.perm (List.perm_append_comm_assoc ..)
    rcases hrow with ⟨rfl, rfl, rfl, rfl, rfl⟩ | ⟨b, junk, rfl, rfl, hul, hcl, hle⟩
    · refine grow 0 (by omega) (by simp) (H1 ++ H2) hX rfl ?_
      have := run_append_nil (P := C.P) w T ty E i z hT hi hz ⟨b', o', none⟩ m cap' news hl hat (by omega) (by omega) (by rw [Nat.zero_add] at hb; omega)
      simpa using this
    · have hbk : w.heap[b]? = some (CB (us ++ junk) E) := hX.get (i := 0) rfl
      by_cases hroom : n' + m ≤ cap
      · have hr := run_append_room (P := C.P) w T ty E i hT hi b n' cap (us ++ junk).toArray hbk ⟨b', o', none⟩ m cap' news hl hat (fun u hu => List.all_eq_true.1 hone u hu) hroom (by
          rw [hl, List.size_toArray, hcl, ← Nat.add_mul]; exact Nat.mul_le_mul_right _ hroom)
        rw [exec_append hx hy hr]
        have hsp : (us ++ junk).toArray.toList.take (n' * i.size) ++ news ++ (us ++ junk).toArray.toList.drop (n' * i.size + news.length) = (us ++ news) ++ junk.drop news.length := by
          rw [← hul, List.take_left, List.append_assoc, List.append_assoc, ← List.drop_drop, List.drop_left]
        rw [hsp]
        refine hk _ _ [(b, CB ((us ++ news) ++ junk.drop news.length) E)] (.inr ⟨b, _, rfl, rfl, by rw [List.length_append, hul, hl, Nat.add_mul], ?_, hroom⟩) _ ?_ _ (hput _)
        · have h1 : news.length ≤ junk.length := by
            have h2 : n' * i.size + m * i.size ≤ cap * i.size := by rw [← Nat.add_mul]; exact Nat.mul_le_mul_right _ hroom
            rw [List.length_append, hul] at hcl
            omega
          simp only [List.length_append, List.length_drop] at hcl ⊢
          omega
        · have h3 := hX.set (i := 0) (o' := CB ((us ++ news) ++ junk.drop news.length) E) rfl (swap_setRow hbk)
          exact h3.perm (List.perm_append_comm_assoc ..)
      · refine grow cap (by omega) hul (H1 ++ H2) hX rfl ?_
        exact run_append_grow (P := C.P) w T ty E i z hT hi hz ⟨b, 0, none⟩ n' cap us hul (fun j u hu => by
          rw [addr_add]; exact (at_block (rest := junk) hbk (by simp)).get j u hu) ⟨b', o', none⟩ m cap' news hl hat (by omega) (by omega) (growslice_fits (by omega) hb)

/-! Equality of flat structs -/
theorem y_eqlA {x y : Operand} {T T' : TypeId} {xs ys : Array Value} {b : Bool} (hx : ev e x = .agg xs) (hy : ev e y = .agg ys)
    (hr : ∀ w, ((do eqGuard .eql T x y (.agg xs) (.agg ys); binOp .eql T (.agg xs) (.agg ys)) : Sem Value).run C.P w = .ok (.bool b) w) : YD C ⟨d, .binOp .eql T x y T', ty, pos, af, g⟩ e H (.bool b) :=
  yd_of fun w _ => by
    have := hr w
    simp only [execOp, hx, hy]
    simp only [Sem.run_bind, this]
    rfl
end
end Go.Eng
