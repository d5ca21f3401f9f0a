/- slices.Backward over entries, and what the tank can hold by what is behind: the walks. -/
import Derived.Test.YtjekjehgmljbgaaDoorMb1
import Derived.Laws.Bits64b
import Derived.MapKept
import Derived.Scope
import Derived.Maps.RangeRun
import Derived.Test.YtjekjehgmljbgaaDoorChecked
import Derived.Test.YtjekjehgmljbgaaDoorRows
import Derived.WalkKit
import Derived.ProofKit
import Derived.OpenShut
import Derived.Lib.SmallJoins
import Derived.ChangeOld
import Derived.Below
set_option linter.unusedVariables false
set_option linter.unusedSimpArgs false
/- Numbers without a sign; copies; readings that may go late, once more. No project text. -/
namespace Go.Eng
open Go.RowKit
section
variable {C : Ctx} {e : Env} {H : List Blk} {d : Option Tmp} {ty : TypeId} {pos : String} {af : Array Edge} {g : Option (Nat × Bool)} {x y : Operand} {t t' : TypeId} {m n : Int}
end
section
variable {C : Ctx} {F : Fence} {n : Nat} {ds : List Deferred} {all : Array Oper} {Q : Exit → Env → List Blk → Prop} {rest : List Oper} {e : Env} {H : List Blk}
variable {d : Option Tmp} {ty : TypeId} {pos : String} {af : Array Edge} {g : Option (Nat × Bool)}
end
section
variable {C : Ctx} {F : Fence} {n : Nat} {ds : List Deferred} {Q : Exit → Env → List Blk → Prop} {e : Env} {H : List Blk}
end
section
variable {α : Type} {enc : α → List Value} {sz : Nat}
end
end Go.Eng

/- Maps whose keys are integers, as lists of entries. No project text. -/
namespace Go.Eng
open Go.RowKit
/-- A key, its value, and when it was born. -/
abbrev Ent := Int × Value × Nat
def mEnt (x : Ent) : MapEntry := { key := .int .i64 x.1, val := x.2.1, born := x.2.2 }
def MO (l : List Ent) (clock : Nat) : Obj := .map (l.map mEnt).toArray clock
def hasK (k : Int) (x : Ent) : Bool := x.1 == k
theorem findNow_ent (k : Int) : ∀ (l : List Ent) (i : Nat), ∃ r, Instr.findNow (.int .i64) (.int .i64 k) (l.map mEnt) i = some r ∧ r.map Prod.snd = (l.find? (hasK k)).map (·.2.1) ∧ (r = none → l.eraseP (hasK k) = l) ∧ ∀ j v, r = some (j, v) → i ≤ j ∧ l.eraseIdx (j - i) = l.eraseP (hasK k)
  | [], i => ⟨none, rfl, rfl, fun _ => rfl, fun _ _ h => by cases h⟩
  | x :: l, i => by
    obtain ⟨r, h1, h2, h3, h4⟩ := findNow_ent k l (i + 1)
    by_cases hk : x.1 = k
    · refine ⟨some (i, x.2.1), ?_, ?_, (fun h => by cases h), fun j v h => ?_⟩
      · simp [Instr.findNow, mEnt, Instr.sameNow, hk]
      · simp [hasK, hk]
      · cases h
        refine ⟨Nat.le_refl _, ?_⟩
        rw [Nat.sub_self]
        simp [hasK, hk]
    · refine ⟨r, ?_, ?_, fun h => ?_, fun j v h => ?_⟩
      · have hk' : ¬ k = x.1 := fun h => hk h.symm
        have hkb : (k == x.1) = false := by simp [hk']
        simp only [List.map_cons, Instr.findNow, mEnt, Instr.sameNow, if_true, hkb]
        exact h1
      · simp [hasK, hk] at h2 ⊢; exact h2
      · have := h3 h
        have hxb : hasK k x = false := by simp [hasK, hk]
        rw [List.eraseP_cons, hxb, cond_false, this]
      · obtain ⟨h5, h6⟩ := h4 j v h
        refine ⟨by omega, ?_⟩
        obtain ⟨m, hm⟩ : ∃ m, j - i = m + 1 := ⟨j - i - 1, by omega⟩
        rw [hm, List.eraseIdx_cons_succ, show m = j - (i + 1) by omega, h6]
        simp [hasK, hk]
theorem map_eraseIdx {α β : Type} (f : α → β) : ∀ (l : List α) (j : Nat), (l.eraseIdx j).map f = (l.map f).eraseIdx j
  | [], _ => by simp
  | _ :: _, 0 => rfl
  | x :: l, j + 1 => by simp [map_eraseIdx f l j]
section
variable {C : Ctx} {F : Fence} {n : Nat} {ds : List Deferred} {all : Array Oper} {Q : Exit → Env → List Blk → Prop} {rest : List Oper} {e : Env} {H : List Blk}
variable {d : Option Tmp} {ty : TypeId} {pos : String} {af : Array Edge} {g : Option (Nat × Bool)}
def NewMap (v : Value) (Hn : List Blk) : Prop := ∃ b, v = .map (some b) ∧ Hn = [(b, MO [] 0)]
theorem y_makeMap {T : TypeId} : YR C ⟨d, .makeMap T none, ty, pos, af, g⟩ e H NewMap := fun w _ => by
  have : (execOp (ev e) ⟨d, .makeMap T none, ty, pos, af, g⟩).run C.P w = .ok (.value (.map (some w.heap.size))) (w.alloc (MO [] 0)) := by
    simp [execOp, Instr.makeMap, newObj, MO]; rfl
  rw [this]; exact out_new (fun h => by cases h) ⟨_, rfl, rfl⟩
theorem WS_newM (hF : Wide F) {o : Oper} (hc : chk n all e o = true) (hy : YR C o e H NewMap) (hk : ∀ b, WS C F n ds all Q rest (updo e o.dst (.map (some b))) ((b, MO [] 0) :: H)) : WS C F n ds all Q (o :: rest) e H :=
  WS_gen hF hc hy fun v Hn hr => by
    obtain ⟨b, rfl, rfl⟩ := hr
    exact hk b
theorem run_mapUpd {P : Program} {w : World} {T kT eT : TypeId} {b clock : Nat} {l : List Ent} {k : Int} {v : Value} (hT : P.underlying T = some (.map kT eT)) (hk : P.underlying kT = some (.int .i64)) (hb : w.heap[b]? = some (MO l clock)) (hn : l.find? (hasK k) = none) :
    (Instr.mapUpdate T (.map (some b)) (.int .i64 k) v).run P w = .ok () (w.putObj b (MO (l ++ [(k, v, clock)]) (clock + 1))) := by
  obtain ⟨r, h1, h2, _, _⟩ := findNow_ent k l 0
  rw [hn] at h2
  have hr : r = none := by cases r <;> simp_all
  subst hr
  have hkey : MapKept.IsKey (.int .i64) (.int .i64 k) := rfl
  have hf := MapKept.run_findKey (P := P) (w := w) hk h1
  have hb' : w.heap[b]? = some (.map (l.map mEnt).toArray clock) := hb
  have h3 : MO (l ++ [(k, v, clock)]) (clock + 1) = .map ((l.map mEnt).toArray.push (mEnt (k, v, clock))) (clock + 1) := by unfold MO; simp
  rw [h3]
  simp [Instr.mapUpdate, run_underlying hT, MapKept.run_getObj_map hb', MapKept.run_checkKey hk hkey, hf, MapKept.run_setObj_map _ hb', Result.andThen]
  rfl
theorem run_delete {P : Program} {w : World} {T kT eT : TypeId} {b clock : Nat} {l : List Ent} {k : Int} (hT : P.underlying T = some (.map kT eT)) (hk : P.underlying kT = some (.int .i64)) (hb : w.heap[b]? = some (MO l clock)) :
    (Builtin.delete_ #[T, kT] ty #[.map (some b), .int .i64 k]).run P w = .ok (.tuple #[]) (w.putObj b (MO (l.eraseP (hasK k)) clock)) := by
  obtain ⟨r, h1, _, h3, h4⟩ := findNow_ent k l 0
  have hkey : MapKept.IsKey (.int .i64) (.int .i64 k) := rfl
  have hf := MapKept.run_findKey (P := P) (w := w) hk h1
  have hb' : w.heap[b]? = some (.map (l.map mEnt).toArray clock) := hb
  cases r with
  | none =>
    rw [h3 rfl]
    simp [Builtin.delete_, run_underlying hT, MapKept.run_getObj_map hb', MapKept.run_checkKey hk hkey, hf, MapKept.run_setObj_map _ hb', Result.andThen]
    rfl
  | some p =>
    obtain ⟨j, v⟩ := p
    obtain ⟨_, h5⟩ := h4 j v rfl
    rw [Nat.sub_zero] at h5
    have h6 : MO (l.eraseP (hasK k)) clock = .map ((l.map mEnt).toArray.eraseIdxIfInBounds j) clock := by
      unfold MO
      rw [← h5]
      congr 1
      rw [map_eraseIdx]; simp
    rw [h6]
    simp [Builtin.delete_, run_underlying hT, MapKept.run_getObj_map hb', MapKept.run_checkKey hk hkey, hf, MapKept.run_setObj_map _ hb', Result.andThen]
    rfl
def lookV (z : Value) : Option Value → Value
  | some v => .tuple #[v, .bool true]
  | none => .tuple #[z, .bool false]
theorem run_lookup {P : Program} {w : World} {T kT eT : TypeId} {b clock : Nat} {l : List Ent} {k : Int} {z : Value} (hT : P.underlying T = some (.map kT eT)) (hk : P.underlying kT = some (.int .i64)) (hb : w.heap[b]? = some (MO l clock)) (hz : ∀ w, (zeroValue eT).run P w = .ok z w) :
    (Instr.lookup T (.map (some b)) (.int .i64 k) true).run P w = .ok (lookV z ((l.find? (hasK k)).map (·.2.1))) w := by
  obtain ⟨r, h1, h2, _, _⟩ := findNow_ent k l 0
  have hkey : MapKept.IsKey (.int .i64) (.int .i64 k) := rfl
  have hf := MapKept.run_findKey (P := P) (w := w) hk h1
  have hb' : w.heap[b]? = some (.map (l.map mEnt).toArray clock) := hb
  rw [← h2]
  cases r with
  | none => simp [Instr.lookup, run_underlying hT, MapKept.run_getObj_map hb', MapKept.run_checkKey hk hkey, hf, hz, Result.andThen, lookV]
  | some p => simp [Instr.lookup, run_underlying hT, MapKept.run_getObj_map hb', MapKept.run_checkKey hk hkey, hf, Result.andThen, lookV]
theorem WS_mapUpd (hF : Wide F) {x y v : Operand} {T kT eT : TypeId} {b clock i : Nat} {l : List Ent} {k : Int} {u : Value} (hx : ev e x = .map (some b)) (hy : ev e y = .int .i64 k) (hv : ev e v = u) (hT : C.P.underlying T = some (.map kT eT)) (hk : C.P.underlying kT = some (.int .i64))
    (hi : H[i]? = some (b, MO l clock)) (hn : l.find? (hasK k) = none) (hq : WS C F n ds all Q rest e (H.set i (b, MO (l ++ [(k, u, clock)]) (clock + 1)))) :
    WS C F n ds all Q (⟨none, .mapUpdate T x y v, ty, pos, af, none⟩ :: rest) e H := fun w hw a ha => by
  have hb := hw.get hi
  unfold wpListIn
  rw [if_pos (by rfl)]
  refine ⟨fun f _ => hF.fn f, ?_⟩
  have : (execOp (ev e) ⟨none, .mapUpdate T x y v, ty, pos, af, none⟩).run C.P w = .ok .skip (w.putObj b (MO (l ++ [(k, u, clock)]) (clock + 1))) := by
    simp [execOp, hx, hy, hv, run_mapUpd hT hk hb hn]
  rw [semAt_of rfl, ha.eval, this]
  exact hq _ (hw.set hi (swap_put hb (fun h => by cases h))) _ ha
theorem WS_delete (hF : Wide F) {x y : Operand} {T kT eT : TypeId} {b clock i : Nat} {l : List Ent} {k : Int} (hx : ev e x = .map (some b)) (hy : ev e y = .int .i64 k) (hT : C.P.underlying T = some (.map kT eT)) (hk : C.P.underlying kT = some (.int .i64))
    (hi : H[i]? = some (b, MO l clock)) (hq : WS C F n ds all Q rest e (H.set i (b, MO (l.eraseP (hasK k)) clock))) :
    WS C F n ds all Q (⟨none, .call ⟨.builtin .delete, #[x, y], #[T, kT]⟩, ty, pos, af, none⟩ :: rest) e H := fun w hw a ha => by
  have hb := hw.get hi
  unfold wpListIn
  rw [if_pos (by rfl)]
  refine ⟨fun f _ => hF.fn f, ?_⟩
  have : (execOp (ev e) ⟨none, .call ⟨.builtin .delete, #[x, y], #[T, kT]⟩, ty, pos, af, none⟩).run C.P w = .ok (.value (.tuple #[])) (w.putObj b (MO (l.eraseP (hasK k)) clock)) := by
    simp [execOp, resolve, invoke, builtin, hx, hy, run_delete hT hk hb]
  rw [semAt_of rfl, ha.eval, this]
  exact hq _ (hw.set hi (swap_put hb (fun h => by cases h))) _ ha
theorem y_lookup {x y : Operand} {T kT eT : TypeId} {b clock i : Nat} {l : List Ent} {k : Int} {z : Value} {r : Option Value} (hx : ev e x = .map (some b)) (hy : ev e y = .int .i64 k) (hT : C.P.underlying T = some (.map kT eT)) (hk : C.P.underlying kT = some (.int .i64))
    (hz : ∀ w, (zeroValue eT).run C.P w = .ok z w) (hi : H[i]? = some (b, MO l clock)) (hr : (l.find? (hasK k)).map (·.2.1) = r) :
    YD C ⟨d, .lookup T x y true, ty, pos, af, g⟩ e H (lookV z r) := yd_of fun w hw => by
  subst hr
  simp [execOp, hx, hy, run_lookup hT hk (hw.get hi) hz]
end
end Go.Eng

/- append onto a row that is the last of the blocks; a map's entry, as told. No project text. -/
namespace Go.Eng
open Go.RowKit
section
variable {C : Ctx} {F : Fence} {n : Nat} {ds : List Deferred} {all : Array Oper} {Q : Exit → Env → List Blk → Prop} {rest : List Oper} {e : Env} {H : List Blk}
variable {d : Option Tmp} {ty : TypeId} {pos : String} {af : Array Edge} {g : Option (Nat × Bool)}
theorem WS_appendE (hF : Wide F) {x y : Operand} {T E : TypeId} {a a' : Option Addr} {n' m cap cap' sz by_ : Nat} {us news : List Value} {z : Value} {H1 Hn : List Blk} (hc : chk n all e ⟨d, .call ⟨.builtin .append, #[x, y], #[T, T]⟩, ty, pos, af, g⟩ = true)
    (hx : ev e x = .slice a n' cap) (hy : ev e y = .slice a' m cap') (hT : C.P.underlying T = some (.slice E)) (hinf : (C.P.info? E).map (fun i => (i.zero, i.size, i.bytes)) = some (some z, sz, by_))
    (hzs : z.cells.size = sz) (hH : H = H1 ++ Hn) (hrow : Row E sz a n' cap us Hn) (hs : Src C H a' m news) (hl : news.length = m * sz) (hone : news.all Value.oneCell' = true) (hb : (n' + m) * by_ ≤ 140737488355328) (hm : n' + m ≤ 140737488355328)
    (hk : ∀ a' cap' Hn', Row E sz a' (n' + m) cap' (us ++ news) Hn' → WS C F n ds all Q rest (updo e d (.slice a' (n' + m) cap')) (H1 ++ Hn')) :
    WS C F n ds all Q (⟨d, .call ⟨.builtin .append, #[x, y], #[T, T]⟩, ty, pos, af, g⟩ :: rest) e H :=
  WS_append (H1 := H1) (H2 := []) hF hc hx hy hT hinf hzs (by rw [hH, List.append_nil]) hrow hs hl hone hb hm fun a' cap' Hn' hr => by
    rw [List.append_nil]; exact hk a' cap' Hn' hr
theorem y_lookupE {x y : Operand} {T kT eT : TypeId} {b clock i : Nat} {l : List Ent} {k : Int} {z c : Value} (hx : ev e x = .map (some b)) (hy : ev e y = .int .i64 k) (hT : C.P.underlying T = some (.map kT eT)) (hk : C.P.underlying kT = some (.int .i64))
    (hz : ∀ w, (zeroValue eT).run C.P w = .ok z w) (hi : H[i]? = some (b, MO l clock)) (hr : lookV z ((l.find? (hasK k)).map (·.2.1)) = c) : YD C ⟨d, .lookup T x y true, ty, pos, af, g⟩ e H c := by
  subst hr; exact y_lookup hx hy hT hk hz hi rfl
end
end Go.Eng

/- A region whose order is open, order by order: pure operations first, then the others as they are ready. No project text. -/
namespace Go.Eng
open Go.RowKit
section
variable {C : Ctx} {F : Fence} {n : Nat} {ds : List Deferred} {ops : Array Oper} {Q : Exit → Env → List Blk → Prop} {fuel : Nat} {listed : Array Bool} {e : Env} {H : List Blk}
def WA (C : Ctx) (F : Fence) (n : Nat) (ds : List Deferred) (ops : Array Oper) (Q : Exit → Env → List Blk → Prop) (fuel : Nat) (listed : Array Bool) (e : Env) (H : List Blk) : Prop :=
  ∀ w, St C H w → ∀ a, Rep n ds a e → wpAnyIn F 0 C.P .any ops (lift C n ds Q) fuel listed a w
/-- Only the normal end. -/
def OnlyQ (M : Env → List Blk → Prop) : Exit → Env → List Blk → Prop
  | .normal, e, H => M e H
  | _, _, _ => False
def Pure (P : Program) (e : Env) (o : Oper) (c : Value) : Prop := (∀ w, (execOp (ev e) o).run P w = .ok (.value c) w) ∧ ∀ w, o.about P w (ev e) = none
def NextQ (M : Env → List Blk → Prop) (N : Env → List Blk → Prop) : Exit → Env → List Blk → Prop
  | .normal, e, H => N e H
  | x, e, H => OnlyQ M x e H
end
end Go.Eng

/- Scopes through which no jump goes; labels. No project text. -/
namespace Go.Eng
open Go.RowKit
section
variable {C : Ctx} {F : Fence} {n : Nat} {ds : List Deferred} {Q : Exit → Env → List Blk → Prop} {e : Env} {H : List Blk}
def NoG (Q : Exit → Env → List Blk → Prop) : Exit → Env → List Blk → Prop
  | .goto _, _, _ => False
  | x, e, H => Q x e H
end
end Go.Eng

/- Blocks whose contents nobody asks for any more: stores into them, one by one. No project text. -/
namespace Go.Eng
open Go.RowKit

theorem W_sub {C : Ctx} {F : Fence} {n : Nat} {ds : List Deferred} {c : Code} {Q : Exit → Env → List Blk → Prop} {e : Env} {H H' : List Blk} (hs : HSub H H') (h : W C F n ds c Q e H') : W C F n ds c Q e H :=
  fun dd w hw a ha => h dd w ⟨hw.1, hs _ _ hw.2, hw.3⟩ a ha
theorem W_perm {C : Ctx} {F : Fence} {n : Nat} {ds : List Deferred} {c : Code} {Q : Exit → Env → List Blk → Prop} {e : Env} {H H' : List Blk} (hs : H.Perm H') (h : W C F n ds c Q e H') : W C F n ds c Q e H :=
  W_sub (fun _ _ h => h.perm hs.symm) h
section
variable {S1 S2 M M' L : List Blk} {x y : Blk}
theorem Pul.base : (S1 ++ x :: S2).Perm (x :: (S1 ++ S2)) := List.perm_middle
theorem Pul.base0 : (x :: S2).Perm (x :: S2) := List.Perm.refl _
theorem Pul.cons (h : M.Perm (x :: M')) : (y :: M).Perm (x :: y :: M') := (h.cons y).trans (List.Perm.swap ..)
theorem Pul.app (h : M.Perm (x :: M')) : (L ++ M).Perm (x :: (L ++ M')) := (h.append_left L).trans List.perm_middle
theorem Pul.end (h : M.Perm (x :: M')) : M.Perm (x :: M') := h
end

/-- Two blocks of one shape: the place, the length and the kind. -/
def Sh1 (x y : Blk) : Prop := x.1 = y.1 ∧ ∃ vs us T, x.2 = CB vs T ∧ y.2 = CB us T ∧ us.length = vs.length
inductive Shp : List Blk → List Blk → Prop
  | nil : Shp [] []
  | cons {x y : Blk} {l m : List Blk} : Sh1 x y → Shp l m → Shp (x :: l) (y :: m)
theorem Sh1.refl {b : Nat} {vs : List Value} {T : TypeId} : Sh1 (b, CB vs T) (b, CB vs T) := ⟨rfl, vs, vs, T, rfl, rfl, rfl⟩
theorem Shp.app {a b c d : List Blk} (h : Shp a b) (h' : Shp c d) : Shp (a ++ c) (b ++ d) := by
  induction h with
  | nil => exact h'
  | cons h1 _ ih => exact .cons h1 ih
theorem NewRow.shp {T : TypeId} {sz m : Nat} {us : List Value} {v : Value} {Hn : List Blk} (h : NewRow T sz m us v Hn) : Shp Hn Hn := by
  obtain ⟨a, cap, rfl, _, ⟨_, b, junk, rfl, rfl, _⟩ | ⟨_, rfl, _⟩⟩ := h
  · exact .cons Sh1.refl .nil
  · exact .nil
theorem CB_inj {vs us : List Value} {T T' : TypeId} (h : CB vs T = CB us T') : vs = us ∧ T = T' := by
  unfold CB at h
  simp only [Obj.cells.injEq] at h
  exact ⟨by simpa using h.1, by simpa using h.2⟩
/-- A block of such a list stands somewhere in it, and a store leaves the shape. -/
theorem Shp.get {S0 S : List Blk} {b : Nat} {vs : List Value} {T : TypeId} (h : Shp S0 S) (hm : (b, CB vs T) ∈ S0) :
    ∃ S1 us S2, S = S1 ++ (b, CB us T) :: S2 ∧ us.length = vs.length ∧ ∀ us', us'.length = us.length → Shp S0 (S1 ++ (b, CB us' T) :: S2) := by
  induction h with
  | nil => cases hm
  | @cons x y l m h1 h2 ih =>
    rcases List.mem_cons.1 hm with rfl | hm
    · obtain ⟨rfl, vs', us, T', e1, e2, hl⟩ := h1
      obtain ⟨rfl, rfl⟩ := CB_inj e1
      obtain ⟨yb, yo⟩ := y
      simp only at e2
      subst e2
      exact ⟨[], us, m, rfl, hl, fun us' hl' => .cons ⟨rfl, _, _, _, rfl, rfl, hl'.trans hl⟩ h2⟩
    · obtain ⟨S1, us, S2, rfl, hl, hp⟩ := ih hm
      exact ⟨y :: S1, us, S2, rfl, hl, fun us' hl' => .cons h1 (hp us' hl')⟩
/-- A slice whose cells lie in such a block. -/
def OwnR (S0 : List Blk) (T : TypeId) (sz : Nat) (a : Option Addr) (n : Nat) : Prop := n = 0 ∨ ∃ b vs, a = some ⟨b, 0, none⟩ ∧ (b, CB vs T) ∈ S0 ∧ n * sz ≤ vs.length
theorem NewRow.own {S0 : List Blk} {T : TypeId} {sz n cap : Nat} {us : List Value} {a : Option Addr} {Hn : List Blk} (h : NewRow T sz n us (.slice a n cap) Hn) (hs : ∀ x ∈ Hn, x ∈ S0) : OwnR S0 T sz a n := by
  obtain ⟨a', cap', he, hle, ⟨hn, b, junk, rfl, rfl, hl⟩ | ⟨h0, _⟩⟩ := h
  · cases he
    exact .inr ⟨b, _, rfl, hs _ (List.mem_singleton.2 rfl), by rw [hl]; exact Nat.mul_le_mul_right _ hle⟩
  · exact .inl h0
theorem OwnR.get {S0 S : List Blk} {T : TypeId} {sz n k : Nat} {a : Option Addr} (h : OwnR S0 T sz a n) (hk : k < n) (hS : Shp S0 S) :
    ∃ b S1 us S2, a = some ⟨b, 0, none⟩ ∧ S = S1 ++ (b, CB us T) :: S2 ∧ k * sz + sz ≤ us.length ∧ ∀ us', us'.length = us.length → Shp S0 (S1 ++ (b, CB us' T) :: S2) := by
  rcases h with h | ⟨b, vs, rfl, hm, hl⟩
  · omega
  · obtain ⟨S1, us, S2, rfl, hu, hp⟩ := hS.get hm
    refine ⟨b, S1, us, S2, rfl, rfl, ?_, hp⟩
    rw [hu]
    refine Nat.le_trans ?_ hl
    rw [← Nat.succ_mul]
    exact Nat.mul_le_mul_right _ hk
end Go.Eng
namespace Go.Eng
section
variable {C : Ctx} {F : Fence} {n : Nat} {ds : List Deferred} {c : Code} {Q : Exit → Env → List Blk → Prop} {e : Env} {H M M' : List Blk}
theorem W_pull (x : Blk) (hp : H.Perm (x :: M')) (h : W C F n ds c Q e (x :: M')) : W C F n ds c Q e H := W_perm hp h
theorem W_push {x : Blk} (hp : M.Perm (x :: M')) (h : W C F n ds c Q e M) : W C F n ds c Q e (x :: M') := W_perm hp.symm h
end
end Go.Eng

/- Comparisons whose answer is known; equality of Bools. No project text. -/
namespace Go.Eng
open Go.RowKit
section
variable {C : Ctx} {e : Env} {H : List Blk} {o : Oper} {d : Option Tmp} {x y : Operand} {t t' ty : TypeId} {pos : String} {af : Array Edge} {g : Option (Nat × Bool)} {b c : Bool}
theorem YD_eq {u v : Value} (h : YD C o e H u) (hb : u = v) : YD C o e H v := by subst hb; exact h
end
end Go.Eng
namespace Go.Eng
/-- Slots that nobody reads any more are forgotten. -/
theorem W_keep {C : Ctx} {F : Fence} {n : Nat} {ds : List Deferred} {c : Code} {Q : Exit → Env → List Blk → Prop} {e : Env} {H : List Blk} (L : List (Nat × Value)) (hL : Slots e L) (h : ∀ e, W C F n ds c Q (sets e L) H) : W C F n ds c Q e H := by
  have := h e
  rwa [hL.sets] at this
end Go.Eng

/- Short words for what is asked often; a rest that is walked once. No project text. -/
namespace Go.Eng
open Go.RowKit
theorem sbA {A B : List Blk} (h : A.Sublist B := by (try simp only [List.append_assoc, List.cons_append, List.nil_append, List.set_cons_zero, List.set_cons_succ]); repeat (first | exact List.Sublist.refl _ | exact List.nil_sublist _ | exact List.sublist_append_left _ _ | apply List.Sublist.append_left | apply List.Sublist.cons_cons | apply List.Sublist.cons | refine List.Sublist.trans ?_ (List.sublist_append_right _ _))) : A.Sublist B := h
theorem slt {e : Env} {L : List (Nat × Value)} (h : Slots e L := by repeat (first | exact trivial | refine ⟨by rfl, ?_⟩)) : Slots e L := h
section
variable {C : Ctx} {F : Fence} {n : Nat} {ds : List Deferred} {x1 x2 x3 x4 x5 x6 y : Code} {Q : Exit → Env → List Blk → Prop} {e : Env} {H : List Blk} {γ : Type}
/-- The rest, whatever way led to it: some slots as they were, some as a ghost says. -/
def Rest (C : Ctx) (F : Fence) (n : Nat) (ds : List Deferred) (y : Code) (Q : Exit → Env → List Blk → Prop) {γ : Type} (I : γ → Prop) (L : List (Nat × Value)) (M : γ → List (Nat × Value)) (B : γ → List Blk) : Prop :=
  ∀ g e H, I g → Slots e L → Slots e (M g) → HSub H (B g) → W C F n ds y Q e H
theorem Slots.app {e : Env} : ∀ {L M : List (Nat × Value)}, Slots e L → Slots e M → Slots e (L ++ M)
  | [], _, _, h => h
  | _ :: _, _, h, h' => ⟨h.1, Slots.app h.2 h'⟩
theorem rest_of {I : γ → Prop} {L : List (Nat × Value)} {M : γ → List (Nat × Value)} {B : γ → List Blk} (h : ∀ g e, I g → W C F n ds y Q (sets e (L ++ M g)) (B g)) : Rest C F n ds y Q I L M B := fun g e H hi hL hM hB => by
  have := h g e hi
  rw [(hL.app hM).sets] at this
  exact W_sub hB this
theorem W_J1H (I : γ → Prop) (L : List (Nat × Value)) (M : γ → List (Nat × Value)) (_ : Slots e L) (hr : ∀ g e, I g → W C F n ds y Q (sets e (L ++ M g)) H) (h : Rest C F n ds y Q I L M (fun _ => H) → W C F n ds (.seq x1 y) Q e H) :
    W C F n ds (.seq x1 y) Q e H := h (rest_of (B := (fun _ => H)) hr)
end
end Go.Eng

/- append onto a full slice: a new row. No project text. -/
namespace Go.Eng
open Go.RowKit
section
variable {C : Ctx} {e : Env} {H : List Blk} {d : Option Tmp} {ty : TypeId} {pos : String} {af : Array Edge} {g : Option (Nat × Bool)}
end
end Go.Eng
namespace Go.Eng
end Go.Eng

/- Slices of arrays; the builtin copy into a block of the call's own. No project text. -/
namespace Go.Eng
open Go.RowKit
section
variable {C : Ctx} {F : Fence} {n : Nat} {ds : List Deferred} {all : Array Oper} {Q : Exit → Env → List Blk → Prop} {rest : List Oper} {e : Env} {H : List Blk}
variable {d : Option Tmp} {ty : TypeId} {pos : String} {af : Array Edge} {g : Option (Nat × Bool)}
theorem y_sliceA_lo {x lo : Operand} {T E : TypeId} {b o l m sz : Nat} {k : Int} {kk : IntKind} (hx : ev e x = .pointer (some ⟨b, o, none⟩)) (hlo : ev e lo = .int kk k) (hk : k = (l : Int)) (hl : l < m)
    (hT : ∀ w, (underlying T).run C.P w = .ok (.array m E) w) (hE : ∀ w, (sizeOf E).run C.P w = .ok sz w) :
    YD C ⟨d, .slice T x (some lo) none none, ty, pos, af, g⟩ e H (.slice (some ⟨b, o + l * sz, none⟩) (m - l) (m - l)) := yd_of fun w _ => by
  subst hk
  have h1 : ¬ m = l := by omega
  have h2 : l ≤ m := by omega
  simp [execOp, hx, hlo, Instr.sliceAt, Instr.slice, Instr.sliceBounds, Instr.sliceBound, Instr.sureAddr, asIntOf, hT, hE, h1, h2, addr_add]
theorem y_sliceA_lohi {x lo hi : Operand} {T E : TypeId} {b o l h m sz : Nat} {k k' : Int} {kk kk' : IntKind} (hx : ev e x = .pointer (some ⟨b, o, none⟩)) (hlo : ev e lo = .int kk k) (hhi : ev e hi = .int kk' k') (hk : k = (l : Int)) (hk' : k' = (h : Int)) (hl : l < m) (hlh : l ≤ h) (hh : h ≤ m)
    (hT : ∀ w, (underlying T).run C.P w = .ok (.array m E) w) (hE : ∀ w, (sizeOf E).run C.P w = .ok sz w) :
    YD C ⟨d, .slice T x (some lo) (some hi) none, ty, pos, af, g⟩ e H (.slice (some ⟨b, o + l * sz, none⟩) (h - l) (m - l)) := yd_of fun w _ => by
  subst hk hk'
  have h1 : ¬ m = l := by omega
  simp [execOp, hx, hlo, hhi, Instr.sliceAt, Instr.slice, Instr.sliceBounds, Instr.sliceBound, Instr.sureAddr, asIntOf, hT, hE, h1, hlh, hh, addr_add]
theorem y_indexV {x i : Operand} {T E : TypeId} {len sz k : Nat} {cs : Array Value} {c : Value} {n : Int} {kk : IntKind} (hx : ev e x = .agg cs) (hi : ev e i = .int kk n) (hn : n = (k : Int)) (hk : k < len)
    (hT : ∀ w, (underlying T).run C.P w = .ok (.array len E) w) (hE : ∀ w, (sizeOf E).run C.P w = .ok sz w) (hp : ∀ w, (part E cs (k * sz)).run C.P w = .ok c w) : YD C ⟨d, .index T x i, ty, pos, af, g⟩ e H c := yd_of fun w _ => by
  subst hn
  have h1 : (0 : Int) ≤ (k : Int) ∧ (k : Int) < (len : Int) := by omega
  have h2 : ((k : Int)).toNat = k := by omega
  simp [execOp, hx, hi, Instr.index, asIntOf, hT, hE, hp]
  omega
theorem run_copyS {P : Program} {w : World} {dT sT E : TypeId} {b o dn dcap m cap sz : Nat} {a : Option Addr} {vs us : List Value} {Tb : TypeId} (hT : ∀ w, (underlying dT).run P w = .ok (.slice E) w) (hE : ∀ w, (sizeOf E).run P w = .ok sz w)
    (hs : m = 0 ∧ us = [] ∨ ∃ b' o', a = some ⟨b', o', none⟩ ∧ At w b' o' us) (hl : us.length = m * sz) (hm : m ≤ dn) (hone : us.all Value.oneCell' = true) (hfit : o + us.length ≤ vs.length) (hb : w.heap[b]? = some (CB vs Tb)) :
    (Builtin.copy_ #[dT, sT] ty #[.slice (some ⟨b, o, none⟩) dn dcap, .slice a m cap]).run P w = .ok (.int .i64 m) (w.setRow b (splice vs o us).toArray) := by
  have h := run_storeCells_at (P := P) b o Tb us 0 vs.toArray w hb (by simpa using hfit) (fun v hv => List.all_eq_true.1 hone v hv)
  simp only [Nat.add_zero] at h
  have h' : (storeCells ⟨b, o, none⟩ us).run P w = .ok () (w.setRow b (splice vs o us).toArray) := h
  have h3 := run_firstCells (P := P) (cap := cap) hs hl
  have h4 : Nat.min m dn = m := Nat.min_eq_left hm
  simp [Builtin.copy_, hT, hE, Builtin.lenOf, h4, h3, h', goInt]
theorem WS_copyS (hF : Wide F) {x y : Operand} {dT sT E : TypeId} {b o dn dcap m cap sz i : Nat} {a : Option Addr} {vs us : List Value} {Tb : TypeId} (hc : chk n all e ⟨d, .call ⟨.builtin .copy, #[x, y], #[dT, sT]⟩, ty, pos, af, g⟩ = true)
    (hx : ev e x = .slice (some ⟨b, o, none⟩) dn dcap) (hy : ev e y = .slice a m cap) (hT : ∀ w, (underlying dT).run C.P w = .ok (.slice E) w) (hE : ∀ w, (sizeOf E).run C.P w = .ok sz w)
    (hs : Src C H a m us) (hl : us.length = m * sz) (hm : m ≤ dn) (hone : us.all Value.oneCell' = true) (hi : H[i]? = some (b, CB vs Tb)) (hfit : o + us.length ≤ vs.length)
    (hk : WS C F n ds all Q rest (updo e d (.int .i64 m)) (H.set i (b, CB (splice vs o us) Tb))) :
    WS C F n ds all Q (⟨d, .call ⟨.builtin .copy, #[x, y], #[dT, sT]⟩, ty, pos, af, g⟩ :: rest) e H := fun w hw act ha => by
  have hck := chk_spec hc
  have hwant := gd_wanted ha hck.2.1 (gOk_lt hck.2.2.1)
  unfold wpListIn
  rw [if_pos hwant]
  refine ⟨fun f _ => hF.fn f, ?_⟩
  rw [semAt_of hck.1, ha.eval]
  have hb := hw.get hi
  have hs' : m = 0 ∧ us = [] ∨ ∃ b' o', a = some ⟨b', o', none⟩ ∧ At w b' o' us := by
    rcases hs with h | ⟨b', o', h1, h2⟩
    · exact .inl h
    · exact .inr ⟨b', o', h1, h2 w hw⟩
  have hr := run_copyS (ty := ty) (sT := sT) (dcap := dcap) (cap := cap) hT hE hs' hl hm hone hfit hb
  have : (execOp (ev e) ⟨d, .call ⟨.builtin .copy, #[x, y], #[dT, sT]⟩, ty, pos, af, g⟩).run C.P w = .ok (.value (.int .i64 m)) (w.setRow b (splice vs o us).toArray) := by
    simp [execOp, resolve, invoke, builtin, hx, hy, hr]
  rw [this]
  exact hk _ (hw.set hi (swap_setRow hb)) _ (ha.put d hck.2.2.2)
end
end Go.Eng

/- Maps whose keys are arrays or structs; loops over maps. No project text. -/
namespace Go.Eng
open Go.RowKit
section
variable {K : Type} [DecidableEq K]
/-- A key, its value, and when it was born. -/
abbrev EntK (K : Type) := K × Value × Nat
def mK (enc : K → Value) (x : EntK K) : MapEntry := { key := enc x.1, val := x.2.1, born := x.2.2 }
def MK (enc : K → Value) (l : List (EntK K)) (clock : Nat) : Obj := .map (l.map (mK enc)).toArray clock
structure KeyOk (P : Program) (kT : TypeId) (enc : K → Value) : Prop where
  now : ∃ td, P.underlying kT = some td ∧ ∀ a b, Instr.sameNow td (enc a) (enc b) = none
  eq : ∀ x y w, (Op.equal kT (enc x) (enc y)).run P w = .ok (decide (x = y)) w
  chk : ∀ b x w, (Instr.checkKey b 10000 kT (enc x)).run P w = .ok () w
  bits : ∀ x, Instr.sameBits 10000 (enc x) (enc x) = true
def fndK (k : K) : List (EntK K) → Nat → Option (Nat × Value)
  | [], _ => none
  | x :: l, i => if x.1 = k then some (i, x.2.1) else fndK k l (i + 1)
def lookK (k : K) (l : List (EntK K)) : Option Value := (l.find? fun x => decide (x.1 = k)).map (·.2.1)
def setK (k : K) (v : Value) : List (EntK K) → List (EntK K)
  | [] => []
  | x :: l => if x.1 = k then (k, v, x.2.2) :: l else x :: setK k v l
def putL (k : K) (v : Value) (l : List (EntK K)) (c : Nat) : List (EntK K) := if (lookK k l).isSome then setK k v l else l ++ [(k, v, c)]
def putC (k : K) (l : List (EntK K)) (c : Nat) : Nat := if (lookK k l).isSome then c else c + 1
def delK (k : K) (l : List (EntK K)) : List (EntK K) := l.eraseP fun x => decide (x.1 = k)
structure GoodM (l : List (EntK K)) (c : Nat) : Prop where
  old : ∀ x ∈ l, x.2.2 < c
  born : (l.map (·.2.2)).Nodup
  keys : (l.map (·.1)).Nodup
variable {P : Program} {kT : TypeId} {enc : K → Value} {k : K}
section
variable {w : World} {T eT ty : TypeId} {b clock : Nat} {l : List (EntK K)} {v : Value}
end
end
section
variable {K : Type} [DecidableEq K]
variable {C : Ctx} {F : Fence} {n : Nat} {ds : List Deferred} {all : Array Oper} {Q : Exit → Env → List Blk → Prop} {rest : List Oper} {e : Env} {H : List Blk}
variable {d : Option Tmp} {ty : TypeId} {pos : String} {af : Array Edge} {g : Option (Nat × Bool)}
variable {kT T eT : TypeId} {enc : K → Value} {k : K} {b clock i : Nat} {l : List (EntK K)}
end
section
variable {K : Type}
variable {C : Ctx} {F : Fence} {n : Nat} {ds : List Deferred} {all : Array Oper} {Q : Exit → Env → List Blk → Prop} {rest : List Oper} {e : Env} {H : List Blk}
variable {d : Option Tmp} {ty : TypeId} {pos : String} {af : Array Edge} {g : Option (Nat × Bool)}
variable {kT T eT : TypeId} {enc : K → Value} {k : K} {b clock i : Nat} {l : List (EntK K)}
def NewMapK (enc : K → Value) (v : Value) (Hn : List Blk) : Prop := ∃ b, v = .map (some b) ∧ Hn = [(b, MK enc [] 0)]
end
end Go.Eng

/- What a map tells, by its entries. No project text. -/
namespace Go.Eng
open Go.RowKit
theorem GoodM.nil {K : Type} : GoodM ([] : List (EntK K)) 0 := ⟨fun _ h => (by cases h), List.nodup_nil, List.nodup_nil⟩
section
variable {K : Type} [DecidableEq K]
theorem lookK_nil (k : K) : lookK k ([] : List (EntK K)) = none := rfl
theorem lookK_cons (k : K) (x : EntK K) (l : List (EntK K)) : lookK k (x :: l) = if x.1 = k then some x.2.1 else lookK k l := by
  unfold lookK
  rw [List.find?_cons]
  split
  · rename_i h; simp only [decide_eq_true_eq] at h; rw [if_pos h]; rfl
  · rename_i h; simp only [decide_eq_false_iff_not] at h; rw [if_neg h]
theorem lookK_none {k : K} {l : List (EntK K)} : lookK k l = none ↔ k ∉ l.map (·.1) := by
  induction l with
  | nil => simp [lookK_nil]
  | cons x l ih =>
    rw [lookK_cons, List.map_cons, List.mem_cons]
    by_cases hx : x.1 = k
    · simp [hx]
    · rw [if_neg hx, ih]; simp [Ne.symm hx]
theorem setK_born (k : K) (v : Value) (l : List (EntK K)) : (setK k v l).map (·.2.2) = l.map (·.2.2) := by
  induction l with
  | nil => rfl
  | cons x l ih => unfold setK; split <;> simp [ih]
theorem setK_keys (k : K) (v : Value) (l : List (EntK K)) : (setK k v l).map (·.1) = l.map (·.1) := by
  induction l with
  | nil => rfl
  | cons x l ih =>
    unfold setK
    split
    · rename_i h; simp [h]
    · simp [ih]
theorem GoodM.put {l : List (EntK K)} {c : Nat} (h : GoodM l c) (k : K) (v : Value) : GoodM (putL k v l c) (putC k l c) := by
  unfold putL putC
  split
  · refine ⟨fun x hx => ?_, by rw [setK_born]; exact h.born, by rw [setK_keys]; exact h.keys⟩
    have : x.2.2 ∈ (setK k v l).map (·.2.2) := List.mem_map.2 ⟨x, hx, rfl⟩
    rw [setK_born] at this
    obtain ⟨y, hy, he⟩ := List.mem_map.1 this
    have := h.old y hy
    omega
  · rename_i h0
    have h0 : lookK k l = none := by
      cases hl : lookK k l with
      | none => rfl
      | some u => rw [hl] at h0; exact absurd rfl h0
    rw [lookK_none] at h0
    refine ⟨fun x hx => ?_, ?_, ?_⟩
    · rcases List.mem_append.1 hx with hx | hx
      · have := h.old x hx; omega
      · simp only [List.mem_singleton] at hx; subst hx; exact Nat.lt_succ_self _
    · rw [List.map_append, List.nodup_append]
      refine ⟨h.born, by simp, fun a ha b hb => ?_⟩
      simp only [List.map_cons, List.map_nil, List.mem_singleton] at hb
      subst hb
      obtain ⟨y, hy, rfl⟩ := List.mem_map.1 ha
      exact Nat.ne_of_lt (h.old y hy)
    · rw [List.map_append, List.nodup_append]
      refine ⟨h.keys, by simp, fun a ha b hb => ?_⟩
      simp only [List.map_cons, List.map_nil, List.mem_singleton] at hb
      subst hb
      exact fun he => h0 (he ▸ ha)
end
end Go.Eng

/- Slices of ints and of structs that read as lists: the words of all layers. -/
namespace Go.Proofs.YtjekjehgmljbgaaDoor.T
open Go.RowKit Go.Proofs Go.Eng
set_option maxRecDepth 100000
set_option maxHeartbeats 1000000
set_option linter.unusedVariables false

theorem Ct_eq {P : Program} {f : FuncId} {args : Array Value} {w : World} {c c' : Value} (hc : Ct P f args w fun v _ => v = c) (h : c = c') : Ct P f args w fun v _ => v = c' := h ▸ hc
def iv (xs : List Int) : List Value := xs.map (Value.int .i64)
theorem Ints.row {w : World} {b o n cap : Nat} {xs : List Int} (h : Ints w (some ⟨b, o, none⟩) n cap xs) : At w b o (iv xs) := At.of fun j v hv => by
  have hj : j < xs.length := by have := (List.getElem?_eq_some_iff.1 hv).1; simpa [iv] using this
  have h1 := h.at (k := j) (by rw [← h.len]; exact hj)
  have h2 : v = .int .i64 (xs.getD j 0) := by
    rw [iv, List.getElem?_map, List.getElem?_eq_getElem hj] at hv
    simp only [Option.map_some, Option.some.injEq] at hv
    rw [← hv]; simp [List.getD_eq_getElem?_getD, hj]
  rw [h2]
  have := h1.1
  rwa [show o + j * 1 = o + j by omega] at this
theorem Ints.src {C : Ctx} {H : List Blk} {a : Option Addr} {n cap : Nat} {xs : List Int} (h : Ints C.w0 a n cap xs) : Src C H a n (iv xs) := by
  by_cases hn : n = 0
  · refine .inl ⟨hn, ?_⟩
    have := h.len
    rw [hn] at this
    rw [List.length_eq_zero_iff.1 this]; rfl
  · obtain ⟨b, o, rfl⟩ := h.adr (by omega)
    exact .inr ⟨b, o, rfl, Mem.old h.row⟩
theorem NewRow.ints {C : Ctx} {H Hn : List Blk} {a : Option Addr} {n cap : Nat} {xs : List Int} {T : TypeId} (h : NewRow T 1 n (iv xs) (.slice a n cap) Hn) (hl : xs.length = n) (hs : Hn.Sublist H) (w : World) (hw : St C H w) : Ints w a n cap xs := by
  obtain ⟨a', cap', he, hle, hc⟩ := h
  cases he
  rcases hc with ⟨hn, b, junk, rfl, rfl, hlen⟩ | ⟨hn, rfl, rfl⟩
  · exact Ints.mem (rest := junk) 0 rfl hl hle w (hw.sub hs)
  · subst hn
    rw [List.length_eq_zero_iff.1 hl]
    exact Ints.nil _ _ _
theorem infInt : (Tryd.prog.info? 3).map (fun i => (i.zero, i.size, i.bytes)) = some (some (.int .i64 0), 1, 8) := by kernel_rfl
/-- A slice whose elements read as a list. -/
structure Rws {α : Type} (enc : α → List Value) (sz : Nat) (d : α) (w : World) (a : Option Addr) (n cap : Nat) (xs : List α) : Prop where
  len : xs.length = n
  le : n ≤ cap
  cell : ∀ k, k < n → ∃ b o, a = some ⟨b, o, none⟩ ∧ At w b (o + k * sz) (enc (xs.getD k d))
section
variable {α : Type} {enc : α → List Value} {sz : Nat} {d : α} {w w' : World} {a : Option Addr} {n cap : Nat} {xs : List α}
theorem Rws.below (h : Rws enc sz d w a n cap xs) (hb : Below w.heap.size w w') : Rws enc sz d w' a n cap xs :=
  ⟨h.len, h.le, fun k hk => by obtain ⟨b, o, h1, h2⟩ := h.cell k hk; exact ⟨b, o, h1, At.old hb h2⟩⟩
theorem Rws.st {C : Ctx} {H : List Blk} (h : Rws enc sz d C.w0 a n cap xs) (w : World) (hw : St C H w) : Rws enc sz d w a n cap xs := h.below hw.1
theorem Rws.at {b o : Nat} (h : Rws enc sz d w (some ⟨b, o, none⟩) n cap xs) {k : Nat} (hk : k < n) : At w b (o + k * sz) (enc (xs.getD k d)) := by
  obtain ⟨b', o', h1, h2⟩ := h.cell k hk
  simp only [Option.some.injEq, Addr.mk.injEq] at h1
  obtain ⟨rfl, rfl, _⟩ := h1
  exact h2
theorem Rws.adr (h : Rws enc sz d w a n cap xs) (hn : 0 < n) : ∃ b o, a = some ⟨b, o, none⟩ := by
  obtain ⟨b, o, h1, _⟩ := h.cell 0 hn
  exact ⟨b, o, h1⟩
theorem Rws.nil (w : World) (a : Option Addr) (cap : Nat) : Rws enc sz d w a 0 cap [] := ⟨rfl, Nat.zero_le _, fun k hk => by omega⟩
end
theorem At.app {w : World} {b : Nat} : ∀ {us vs : List Value} {o : Nat}, At w b o us → At w b (o + us.length) vs → At w b o (us ++ vs)
  | [], vs, o, _, h => by simpa using h
  | u :: us, vs, o, h, h' => ⟨h.1, At.app (us := us) h.2 (by rw [show o + 1 + us.length = o + (u :: us).length by simp; omega]; exact h')⟩
section
variable {α : Type} {enc : α → List Value} {sz : Nat} {d : α} {w : World} {a : Option Addr} {n cap : Nat} {xs : List α}
theorem Rws.row (hz : ∀ x, (enc x).length = sz) {b o : Nat} (h : Rws enc sz d w (some ⟨b, o, none⟩) n cap xs) : ∀ m, m ≤ n → At w b o (rowOf enc (fun k => xs.getD k d) m)
  | 0, _ => trivial
  | m + 1, hm => by
    rw [rowOf_succ]
    refine At.app (Rws.row hz h m (by omega)) ?_
    rw [rowOf_len hz]
    exact h.at (k := m) (by omega)
theorem Rws.src (hz : ∀ x, (enc x).length = sz) {C : Ctx} {H : List Blk} (h : Rws enc sz d C.w0 a n cap xs) : Src C H a n (rowOf enc (fun k => xs.getD k d) n) := by
  by_cases hn : n = 0
  · subst hn; exact .inl ⟨rfl, rfl⟩
  · obtain ⟨b, o, rfl⟩ := h.adr (by omega)
    exact .inr ⟨b, o, rfl, Mem.old (Rws.row hz h n (Nat.le_refl _))⟩
theorem NewRow.rws (hz : ∀ x, (enc x).length = sz) {C : Ctx} {H Hn : List Blk} {T : TypeId} (h : NewRow T sz n (rowOf enc (fun k => xs.getD k d) n) (.slice a n cap) Hn) (hl : xs.length = n) (hs : Hn.Sublist H) (w : World) (hw : St C H w) : Rws enc sz d w a n cap xs := by
  obtain ⟨a', cap', he, hle, hc⟩ := h
  cases he
  refine ⟨hl, hle, fun k hk => ?_⟩
  rcases hc with ⟨hn, b, junk, rfl, rfl, hlen⟩ | ⟨hn, rfl, rfl⟩
  · refine ⟨b, 0, rfl, ?_⟩
    exact Mem.rowJ (junk := junk) (k := k) (o := 0 + k * sz) hz 0 rfl hk rfl (Nat.zero_add _) w (hw.sub hs)
  · omega
end
/-- A row that is told, at the head of a block. -/
theorem NewRow.head {T : TypeId} {sz m cap : Nat} {us : List Value} {a : Option Addr} {Hn : List Blk} (h : NewRow T sz m us (.slice a m cap) Hn) (h0 : 0 < m) : ∃ b junk, a = some ⟨b, 0, none⟩ ∧ Hn = [(b, CB (us ++ junk) T)] ∧ (us ++ junk).length = cap * sz ∧ m ≤ cap := by
  obtain ⟨a', cap', hv, hle, ⟨_, b, junk, rfl, rfl, hlen⟩ | ⟨h1, _⟩⟩ := h
  · cases hv; exact ⟨b, junk, rfl, rfl, hlen, hle⟩
  · omega
theorem NewRow.mk {T : TypeId} {sz m cap : Nat} {us ws : List Value} {b : Nat} {junk : List Value} (hw : ws = us ++ junk) (hl : ws.length = cap * sz) (hle : m ≤ cap) (h0 : 0 < m) : NewRow T sz m us (.slice (some ⟨b, 0, none⟩) m cap) [(b, CB ws T)] :=
  ⟨_, _, rfl, hle, .inl ⟨h0, b, junk, rfl, by rw [hw], by rw [← hw]; exact hl⟩⟩
theorem Row.ints {C : Ctx} {H Hn : List Blk} {T : TypeId} {a : Option Addr} {n cap : Nat} {xs : List Int} (h : Row T 1 a n cap (iv xs) Hn) (hl : xs.length = n) (hs : Hn.Sublist H) (w : World) (hw : St C H w) : Ints w a n cap xs := by
  rcases h with ⟨rfl, rfl, rfl, _, rfl⟩ | ⟨b, junk, rfl, rfl, h1, h2, h3⟩
  · rw [List.length_eq_zero_iff.1 hl]; exact Ints.nil _ _ _
  · exact Ints.mem (rest := junk) 0 rfl hl h3 w (hw.sub hs)
theorem Row.rws {α : Type} {enc : α → List Value} {sz : Nat} {d : α} (hz : ∀ x, (enc x).length = sz) {C : Ctx} {H Hn : List Blk} {T : TypeId} {a : Option Addr} {n cap : Nat} {xs : List α} (h : Row T sz a n cap (rowOf enc (fun k => xs.getD k d) n) Hn) (hl : xs.length = n) (hs : Hn.Sublist H) (w : World) (hw : St C H w) : Rws enc sz d w a n cap xs := by
  rcases h with ⟨rfl, rfl, rfl, _, rfl⟩ | ⟨b, junk, rfl, rfl, h1, h2, h3⟩
  · rw [List.length_eq_zero_iff.1 hl]; exact Rws.nil _ _ _
  · refine ⟨hl, h3, fun k hk => ⟨b, 0, rfl, ?_⟩⟩
    exact Mem.rowJ (junk := junk) (k := k) (o := 0 + k * sz) hz 0 rfl hk rfl (Nat.zero_add _) w (hw.sub hs)
theorem Row.newRow {T : TypeId} {sz n cap : Nat} {us : List Value} {a : Option Addr} {Hn : List Blk} (h : Row T sz a n cap us Hn) (hn : 0 < n) : NewRow T sz n us (.slice a n cap) Hn := by
  obtain ⟨_, h, _⟩ | ⟨b, junk, rfl, rfl, h1, h2, h3⟩ := h
  · omega
  · exact ⟨_, _, rfl, h3, .inl ⟨hn, b, junk, rfl, rfl, h2⟩⟩
section
variable {C : Ctx} {e : Env} {H : List Blk} {d : Option Tmp} {ty : TypeId} {pos : String} {af : Array Edge} {g : Option (Nat × Bool)}
theorem y_eqlNil {x y : Operand} {T E T' : TypeId} {a : Option Addr} {n c : Nat} (hx : ev e x = .slice a n c) (hy : ev e y = .slice none 0 0) (hT : ∀ w, (underlying T).run C.P w = .ok (.slice E) w) : YD C ⟨d, .binOp .eql T x y T', ty, pos, af, g⟩ e H (.bool a.isNone) := yd_of fun w _ => by
  have h : (Op.equalIn Op.maxDepth T (.slice a n c) (.slice none 0 0)).run C.P w = .ok a.isNone w := by
    unfold Op.maxDepth Op.equalIn
    rw [Sem.run_bind, hT]
    cases a <;> simp
  simp [execOp, hx, hy, eqGuard, binOp, Op.equal, h]
end
end Go.Proofs.YtjekjehgmljbgaaDoor.T

/- The arguments of the laws, opened: what all layers use. -/
namespace Go.Proofs.YtjekjehgmljbgaaDoor.T
open Go.RowKit Go.Proofs Go.Eng Go.ChangeShapes Go.WideShapes Go.ChangeAt Go.Joins Go.Deep
set_option maxRecDepth 100000
set_option maxHeartbeats 1000000
set_option linter.unusedVariables false
theorem mapM_get {α β : Type} {f : α → Option β} : ∀ {l : List α} {cs : List β}, l.mapM f = some cs → ∀ (j : Nat) (v : β), cs[j]? = some v → ∃ x, l[j]? = some x ∧ f x = some v
  | [], cs, h, j, v, hv => by
    simp only [List.mapM_nil, Option.pure_def, Option.some.injEq] at h
    subst h; simp at hv
  | x :: l, cs, h, j, v, hv => by
    simp only [List.mapM_cons, Option.bind_eq_bind, Option.bind_eq_some_iff, Option.pure_def, Option.some.injEq] at h
    obtain ⟨c, hc, cs', hcs, rfl⟩ := h
    cases j with
    | zero => simp only [List.getElem?_cons_zero, Option.some.injEq] at hv; subst hv; exact ⟨x, rfl, hc⟩
    | succ j => exact mapM_get hcs j v (by simpa using hv)
theorem cells_AtN {w : World} {base : Nat} {b o n : Nat} {cs : List Value} (h : w.cells? base ⟨b, o, none⟩ n = some cs) : At w b o cs := by
  unfold World.cells? at h
  split at h
  · refine At.of fun j v hv => ?_
    obtain ⟨x, hx, hf⟩ := mapM_get h j v hv
    have hxj : x = j := by
      rw [List.getElem?_range (by rcases Nat.lt_or_ge j n with hj | hj; exact hj; rw [List.getElem?_eq_none (by simpa using hj)] at hx; cases hx)] at hx
      simpa using hx.symm
    subst hxj
    have ha : (⟨b, o, none⟩ : Addr).add x = ⟨b, o + x, none⟩ := by unfold Addr.add; split <;> simp_all
    rw [← ha]; exact hf
  · cases h
theorem cells_spot {w : World} {base : Nat} {a : Addr} {n : Nat} {cs : List Value} (h : w.cells? base a (n + 1) = some cs) : a.spot = none := by
  unfold World.cells? at h
  split at h
  · rw [List.range_succ_eq_map] at h
    simp only [List.mapM_cons, Option.bind_eq_bind, Option.bind_eq_some_iff] at h
    obtain ⟨c0, h0, _⟩ := h
    have := World.cell?_spot h0
    simpa [Addr.add] using this
  · cases h
section
variable {H : Type} {enc : TypeId × Value → H} {w : World} {base : Nat} {spare : Nat → Bool} {held : Bool}
theorem open_intsT {fuel : Nat} {v : Value} {y : DataW H × List MemPlace} (h : DataW.trod enc Tryd.prog w base spare held fuel 22 [v] = some y) (hs : ∀ b, spare b = true) : ∃ a n cap xs, v = .slice a n cap ∧ Ints w a n cap xs := by
  rcases open_ints Tryd.underlying22 Tryd.underlying3 (by kernel_rfl) h with ⟨hcs, _⟩ | ⟨x, l, c, zs, hcs, _, hl, hm, hz, _, hcell, hwz⟩
  · simp only [List.cons.injEq, and_true] at hcs
    subst hcs
    exact ⟨_, _, _, [], rfl, Ints.nil _ _ _⟩
  · simp only [List.cons.injEq, and_true] at hcs
    subst hcs
    rw [hs, if_pos rfl] at hz
    refine ⟨_, _, _, zs.take l, rfl, by simp; omega, hl, fun k hk => ?_⟩
    have hc := hcell k (by omega)
    obtain ⟨b, off, spot⟩ := x
    have hspot : spot = none := by
      have := World.cell?_spot (hcell 0 (by omega))
      simpa [Addr.add] using this
    subst hspot
    have ha : (⟨b, off, none⟩ : Addr).add k = ⟨b, off + k * 1, none⟩ := by unfold Addr.add; split <;> simp_all
    rw [ha] at hc
    refine ⟨b, off, rfl, ?_, trivial⟩
    rw [hc]
    simp [List.getD_eq_getElem?_getD, hk]
theorem cells3 : Tryd.prog.cellsOf 3 = 1 := by kernel_rfl
theorem cells22 : Tryd.prog.cellsOf 22 = 1 := by kernel_rfl
theorem open_rws {P : Program} {α : Type} {ea : α → List Value} {sz : Nat} {d : α} {T E : TypeId} (hT : P.underlying T = some (.slice E)) (hc : P.cellsOf E = sz + 1) (hd : ∀ {fuel : Nat} {cs : List Value} {y : DataW H × List MemPlace}, DataW.trod enc P w base spare held fuel E cs = some y → ∃ x, cs = ea x)
    {fuel : Nat} {v : Value} {y : DataW H × List MemPlace} (h : DataW.trod enc P w base spare held fuel T [v] = some y) : ∃ a n cap xs, v = .slice a n cap ∧ Rws ea (sz + 1) d w a n cap xs := by
  rcases DataW.trod_slice hT h with ⟨hcs, _⟩ | ⟨a, len, cap, elems, rest, n, _, hcs, _, hb, hl, hm, hlen, hel, _, _⟩
  · simp only [List.cons.injEq, and_true] at hcs
    subst hcs
    exact ⟨_, _, _, [], rfl, Rws.nil _ _ _⟩
  · simp only [List.cons.injEq, and_true] at hcs
    subst hcs
    have hsp : 0 < len → a.spot = none := fun h0 => by
      have h1 := hel 0 h0
      rw [List.getElem?_eq_getElem (by omega), Option.bind_eq_some_iff] at h1
      obtain ⟨cs, hcs, hy⟩ := h1
      rw [hc] at hcs
      have := cells_spot hcs
      simpa [Addr.add] using this
    have key : ∀ i, i < len → ∃ x : α, a.spot = none ∧ At w a.block (a.off + i * (sz + 1)) (ea x) := fun i hi => by
      have h1 := hel i hi
      rw [List.getElem?_eq_getElem (by omega), Option.bind_eq_some_iff] at h1
      obtain ⟨cs, hcs, hy⟩ := h1
      obtain ⟨x, rfl⟩ := hd hy
      refine ⟨x, hsp (by omega), ?_⟩
      rw [hc] at hcs
      have hsp := hsp (by omega)
      obtain ⟨b, off, spot⟩ := a
      simp only at hsp
      subst hsp
      have ha : (⟨b, off, none⟩ : Addr).add (i * (sz + 1)) = ⟨b, off + i * (sz + 1), none⟩ := by unfold Addr.add; split <;> simp_all
      rw [ha] at hcs
      exact cells_AtN hcs
    refine ⟨_, _, _, (List.range len).map (fun i => if h : i < len then Classical.choose (key i h) else d), rfl, by simp, hl, fun k hk => ?_⟩
    have hsp := Classical.choose_spec (key k hk)
    refine ⟨a.block, a.off, ?_, ?_⟩
    · obtain ⟨b, off, spot⟩ := a
      have := hsp.1
      simp only at this
      subst this; rfl
    · rw [show ((List.range len).map (fun i => if h : i < len then Classical.choose (key i h) else d)).getD k d = Classical.choose (key k hk) by simp [List.getD_eq_getElem?_getD, hk]]
      exact hsp.2
theorem open_rwsV {P : Program} {α : Type} {ea : α → List Value} {sz : Nat} {d : α} {T E : TypeId} {r : Reach} {b0 : Nat} {v : Value} {dd : DataW H} {p : List MemPlace} (hT : P.underlying T = some (.slice E)) (hc : P.cellsOf E = sz + 1) (hd : ∀ {fuel : Nat} {cs : List Value} {y : DataW H × List MemPlace}, DataW.trod enc P w base spare held fuel E cs = some y → ∃ x, cs = ea x)
    (hv : Value.okWide P w r b0 T v) (h : DataW.Trod enc P w base spare held T v dd p) : ∃ a n cap xs, v = .slice a n cap ∧ Rws ea (sz + 1) d w a n cap xs := by
  obtain ⟨a, n, cap, rfl⟩ := okWide_slice hT hv
  obtain ⟨fuel, hf⟩ := h
  exact open_rws hT hc hd hf
theorem open_intsV {r : Reach} {b0 : Nat} {v : Value} {d : DataW H} {p : List MemPlace} (hv : Value.okWide Tryd.prog w r b0 22 v) (h : DataW.Trod enc Tryd.prog w base spare held 22 v d p) (hs : ∀ b, spare b = true) : ∃ (a : Option Addr) (n cap : Nat) (xs : List Int), v = .slice a n cap ∧ Ints w a n cap xs := by
  obtain ⟨a, n, cap, rfl⟩ := okWide_slice Tryd.underlying22 hv
  obtain ⟨fuel, hf⟩ := h
  exact open_intsT hf hs
end
theorem own : ownKnob Tryd.prog.godebug = none := by kernel_rfl
theorem laidOut : laidOutB Tryd.prog = true := by kernel_rfl
end Go.Proofs.YtjekjehgmljbgaaDoor.T

/- Walks of tank: met, empty, in, span, times, up, down, dip. -/
namespace Go.Proofs.YtjekjehgmljbgaaDoor.T
open Go.RowKit Go.Proofs Go.Eng
set_option maxRecDepth 100000
set_option maxHeartbeats 1000000
set_option linter.unusedVariables false
set_option linter.unusedSimpArgs false

theorem Trydmixed : Tryd.prog.follows .mixedOrders = true := by kernel_rfl
theorem bd63_0_1 {x0 : Int} {x1 : Int} : ∀ w, (Instr.build 63 #[(0, .int .i64 x0), (1, .int .i64 x1)]).run Tryd.prog w = .ok (.agg #[.int .i64 x0, .int .i64 x1]) w := fun w => by kernel_rfl
theorem bs22_2_0_1 {x0 : Int} {x1 : Int} : ∀ w, (Instr.buildSlice 22 2 #[(0, .int .i64 x0), (1, .int .i64 x1)]).run Tryd.prog w = .ok (.slice (some ⟨w.heap.size, 0, none⟩) 2 2) (w.alloc (CB [.int .i64 x0, .int .i64 x1] 3)) := fun w => by kernel_rfl
theorem fa191_0 : ∀ b o w, (Instr.fieldAt 191 (.pointer (some ⟨b, o, none⟩)) 0).run Tryd.prog w = .ok (.pointer (some ⟨b, o + 0, none⟩)) w := fun b o w => by kernel_rfl
theorem fa61_0 : ∀ b o w, (Instr.fieldAt 61 (.pointer (some ⟨b, o, none⟩)) 0).run Tryd.prog w = .ok (.pointer (some ⟨b, o + 0, none⟩)) w := fun b o w => by kernel_rfl
theorem fa63_0 : ∀ b o w, (Instr.fieldAt 63 (.pointer (some ⟨b, o, none⟩)) 0).run Tryd.prog w = .ok (.pointer (some ⟨b, o + 0, none⟩)) w := fun b o w => by kernel_rfl
theorem fa63_1 : ∀ b o w, (Instr.fieldAt 63 (.pointer (some ⟨b, o, none⟩)) 1).run Tryd.prog w = .ok (.pointer (some ⟨b, o + 1, none⟩)) w := fun b o w => by kernel_rfl

theorem met_any (a b c d : Int) (w : World) :
    Ct Tryd.prog 168 #[.agg #[.int .i64 a, .int .i64 b], .agg #[.int .i64 c, .int .i64 d]] w fun v _ => v = .agg #[.int .i64 (max a c), .int .i64 (min b d)] := by
  have hF := wide_wide
  refine Ct_start (args := [_, _]) Tryd.func168 (by rfl) Tryd.ntmps168 (by rfl) ?_
  refine W_seq ?_
  refine W_region_lit (fun ds => ?_)
  refine WS_new hF (by rfl) (y_box (by rfl)) (fun b1 => ?_)
  refine WS_new hF (by rfl) (y_box (by rfl)) (fun b2 => ?_)
  refine WS_new hF (by rfl) (y_alloc Tryd.zeroValue63 (by rfl)) (fun b3 => ?_)
  refine WS_nil ?_
  refine Then_normal ?_
  refine W_seq ?_
  refine W_region_lit (fun ds => ?_)
  refine WS_det hF (by rfl) (y_fieldAddr (by rfl) fa63_0) ?_
  refine WS_det hF (by rfl) (y_load1 (by rfl) Tryd.isAgg3 (Mem.own1 2 (by rfl) (by rfl))) ?_
  refine WS_det hF (by rfl) (y_fieldAddr (by rfl) fa63_0) ?_
  refine WS_det hF (by rfl) (y_load1 (by rfl) Tryd.isAgg3 (Mem.own1 1 (by rfl) (by rfl))) ?_
  refine WS_det hF (by rfl) (y_max (by rfl) (by rfl)) ?_
  refine WS_det hF (by rfl) (y_fieldAddr (by rfl) fa63_1) ?_
  refine WS_det hF (by rfl) (y_load1 (by rfl) Tryd.isAgg3 (Mem.own1 2 (by rfl) (by rfl))) ?_
  refine WS_det hF (by rfl) (y_fieldAddr (by rfl) fa63_1) ?_
  refine WS_det hF (by rfl) (y_load1 (by rfl) Tryd.isAgg3 (Mem.own1 1 (by rfl) (by rfl))) ?_
  refine WS_det hF (by rfl) (y_min (by rfl) (by rfl)) ?_
  refine WS_det hF (by rfl) (y_buildL bd63_0_1 (by rfl)) ?_
  refine WS_store hF (i := 0) (by rfl) (by rfl) Tryd.sizeOf63 (by rfl) (by rfl) (by rfl) (by first | decide | exact Nat.le_of_ble_eq_true rfl | simp) ?_
  refine WS_nil ?_
  refine Then_normal ?_
  refine W_ret ?_
  refine Fin_ret [_] [] Tryd.results168 ⟨lvN (by rfl) Tryd.isAgg63 Tryd.sizeOf63 (Mem.own (us := [.int .i64 _, .int .i64 _]) 0 (by rfl) (by rfl)) (by rfl), trivial⟩ HSub.nil ?_
  rfl
theorem empty_any (a b : Int) (w : World) :
    Ct Tryd.prog 136 #[.agg #[.int .i64 a, .int .i64 b]] w fun v _ => v = .bool (decide (b < a)) := by
  have hF := wide_wide
  refine Ct_start (args := [_]) Tryd.func136 (by rfl) Tryd.ntmps136 (by rfl) ?_
  refine W_seq ?_
  refine W_region_lit (fun ds => ?_)
  refine WS_new hF (by rfl) (y_box (by rfl)) (fun b1 => ?_)
  refine WS_det hF (by rfl) (y_assign (c := .bool _) (by rfl)) ?_
  refine WS_nil ?_
  refine Then_normal ?_
  refine W_seq ?_
  refine W_region_lit (fun ds => ?_)
  refine WS_det hF (by rfl) (y_fieldAddr (by rfl) fa63_0) ?_
  refine WS_det hF (by rfl) (y_load1 (by rfl) Tryd.isAgg3 (Mem.own1 0 (by rfl) (by rfl))) ?_
  refine WS_det hF (by rfl) (y_fieldAddr (by rfl) fa63_1) ?_
  refine WS_det hF (by rfl) (y_load1 (by rfl) Tryd.isAgg3 (Mem.own1 0 (by rfl) (by rfl))) ?_
  refine WS_det hF (by rfl) (y_gtr (by rfl) (by rfl)) ?_
  refine WS_det hF (by rfl) (y_assign (c := .bool _) (by rfl)) ?_
  refine WS_nil ?_
  refine Then_normal ?_
  refine W_ret ?_
  refine Fin_ret [.bool _] [] Tryd.results136 ⟨by rfl, trivial⟩ HSub.nil ?_
  rfl
theorem in1_any (n lo hi : Int) (p q o1 o2 : Nat) (w : World) (h1 : At w p o1 [.int .i64 lo]) (h2 : At w q o2 [.int .i64 hi]) :
    Ct Tryd.prog 146 #[.int .i64 n, .pointer (some ⟨p, o1, none⟩), .pointer (some ⟨q, o2, none⟩)] w fun v _ => v = .bool (outB lo hi n) := by
  have hF := wide_wide
  refine Ct_start (args := [_, _, _]) Tryd.func146 (by rfl) Tryd.ntmps146 (by rfl) ?_
  refine W_seq ?_
  refine W_region_lit (fun ds => ?_)
  refine WS_det hF (by rfl) (y_assign (c := .bool _) (by rfl)) ?_
  refine WS_nil ?_
  refine Then_normal ?_
  refine W_seq ?_
  refine W_region_lit (fun ds => ?_)
  refine WS_det hF (by rfl) (y_move (c := .int .i64 _) (by rfl)) ?_
  refine WS_det hF (by rfl) (y_load1 (by rfl) Tryd.isAgg3 (by first | exact Mem.old1 (by assumption) | exact Mem.oldAt1 (by assumption) (by rfl) | exact Mem.old (by assumption) | exact Mem.oldAtL1 (by assumption) (by rfl) (by rfl))) ?_
  refine WS_det hF (by rfl) (y_lss (by rfl) (by rfl)) ?_
  refine WS_det hF (by rfl) (y_move (c := .bool _) (by rfl)) ?_
  refine WS_split 8 (by rfl) (fun g1_3 => ?_) (fun g1_3 => ?_)
  ·
    try simp only [Bool.not_eq_true', Bool.not_eq_false', decide_eq_true_eq, decide_eq_false_iff_not, ne_eq, Classical.not_not, Int.not_lt, Int.not_le] at g1_3
    refine WS_no hF (by rfl) ?_
    refine WS_no hF (by rfl) ?_
    refine WS_no hF (by rfl) ?_
    refine WS_det hF (by rfl) (by first | exact y_pick_t (c := .bool _) (by rfl) (by rfl) | exact y_pick_f (c := .bool _) (by rfl) (by rfl)) ?_
    refine WS_det hF (by rfl) (y_assign (c := .bool _) (by rfl)) ?_
    refine WS_nil ?_
    refine Then_normal ?_
    refine W_ret ?_
    refine Fin_ret [.bool _] [] Tryd.results146 ⟨by rfl, trivial⟩ HSub.nil ?_
    show _ = _
    simp [tupOf, outB, *] <;> omega
  ·
    try simp only [Bool.not_eq_true', Bool.not_eq_false', decide_eq_true_eq, decide_eq_false_iff_not, ne_eq, Classical.not_not, Int.not_lt, Int.not_le] at g1_3
    refine WS_det hF (by rfl) (y_move (c := .int .i64 _) (by rfl)) ?_
    refine WS_det hF (by rfl) (y_load1 (by rfl) Tryd.isAgg3 (by first | exact Mem.old1 (by assumption) | exact Mem.oldAt1 (by assumption) (by rfl) | exact Mem.old (by assumption) | exact Mem.oldAtL1 (by assumption) (by rfl) (by rfl))) ?_
    refine WS_det hF (by rfl) (y_gtr (by rfl) (by rfl)) ?_
    refine WS_det hF (by rfl) (by first | exact y_pick_t (c := .bool _) (by rfl) (by rfl) | exact y_pick_f (c := .bool _) (by rfl) (by rfl)) ?_
    refine WS_det hF (by rfl) (y_assign (c := .bool _) (by rfl)) ?_
    refine WS_nil ?_
    refine Then_normal ?_
    refine W_ret ?_
    refine Fin_ret [.bool _] [] Tryd.results146 ⟨by rfl, trivial⟩ HSub.nil ?_
    show _ = _
    simp [tupOf, outB, *] <;> omega
theorem ixf_any (a : Option Addr) (n cap : Nat) (xs : List Int) (lo hi : Int) (p q o1 o2 : Nat) (w : World) (hn : (n : Int) ≤ 9223372036854775806) (hx : Ints w a n cap xs) (h1 : At w p o1 [.int .i64 lo]) (h2 : At w q o2 [.int .i64 hi]) :
    Ct Tryd.prog 128 #[.slice a n cap, .func (.func 146) #[] #[.pointer (some ⟨p, o1, none⟩), .pointer (some ⟨q, o2, none⟩)]] w fun v _ => v = .int .i64 (firstOut lo hi xs 0) := by
  have hl := hx.len
  have hF := wide_wide
  refine Ct_start (args := [_, _]) Tryd.func128 (by rfl) Tryd.ntmps128 (by rfl) ?_
  refine W_seq ?_
  refine W_region_lit (fun ds => ?_)
  refine WS_det hF (by rfl) (y_assign (c := .int .i64 _) (by rfl)) ?_
  refine WS_nil ?_
  refine Then_normal ?_
  refine W_seq ?_
  refine W_seq ?_
  refine W_region_lit (fun ds => ?_)
  refine WS_det hF (by rfl) (y_move (c := .slice _ _ _) (by rfl)) ?_
  refine WS_det hF (by rfl) (y_len (by rfl) Tryd.runUnderlying22) ?_
  refine WS_det hF (by rfl) (y_move (c := .int .i64 _) (by rfl)) ?_
  refine WS_nil ?_
  refine Then_normal ?_
  refine W_block ?_
  refine W_loop (γ := Nat) (fun k => k ≤ n ∧ firstOut lo hi (xs.drop k) k = firstOut lo hi xs 0) (fun k => [(8, .int .i64 (k : Int)), (7, .int .i64 (n : Int)), (0, .slice a n cap), (1, .func (.func 146) #[] #[.pointer (some ⟨p, o1, none⟩), .pointer (some ⟨q, o2, none⟩)])]) (fun _ => _) (fun k => n - k) (0) ⟨Nat.zero_le _, by simp⟩ (by repeat (first | exact trivial | refine ⟨by rfl, ?_⟩)) (List.Sublist.refl _) ?_
  intro k e hk
  refine W_seq ?_
  refine W_region_lit (fun ds => ?_)
  refine WS_det hF (by rfl) (y_lss (by rfl) (by rfl)) ?_
  refine WS_nil ?_
  refine Then_normal ?_
  refine W_seq ?_
  refine W_cond (by rfl) (fun c2 => ?_) (fun c2 => ?_)
  ·
    try simp only [Bool.not_eq_true', Bool.not_eq_false', decide_eq_true_eq, decide_eq_false_iff_not, ne_eq, Classical.not_not, Int.not_lt, Int.not_le] at c2
    obtain ⟨b, o, rfl, hc⟩ := hx.cell k (by omega)
    refine W_skip ?_
    refine Then_normal ?_
    refine W_seq ?_
    refine W_block ?_
    refine W_seq ?_
    refine W_region_lit (fun ds => ?_)
    refine WS_det hF (by rfl) (y_move (c := .int .i64 _) (by rfl)) ?_
    refine WS_det hF (by rfl) (y_assign (c := .int .i64 _) (by rfl)) ?_
    refine WS_nil ?_
    refine Then_normal ?_
    refine W_seq ?_
    refine W_region_lit (fun ds => ?_)
    refine WS_det hF (by rfl) (y_move (c := _) (by rfl)) ?_
    refine WS_det hF (by rfl) (y_move (c := .slice _ _ _) (by rfl)) ?_
    refine WS_det hF (by rfl) (y_move (c := .int .i64 _) (by rfl)) ?_
    refine WS_det hF (by rfl) (y_index (k := k) (by rfl) (by rfl) (by first | rfl | omega) (by first | decide | omega) Tryd.runUnderlying22 Tryd.sizeOf3) ?_
    refine WS_det hF (by rfl) (y_load1 (by rfl) Tryd.isAgg3 (by first | exact Mem.old1 (by assumption) | exact Mem.oldAt1 (by assumption) (by rfl) | exact Mem.old (by assumption) | exact Mem.oldAtL1 (by assumption) (by rfl) (by rfl))) ?_
    refine WS_det hF (by rfl) (y_callL (by rfl) (by rfl) Tryd.call146 (fun w hw => in1_any _ lo hi _ _ _ _ w (Mem.old h1 w hw) (Mem.old h2 w hw))) ?_
    refine WS_nil ?_
    refine Then_normal ?_
    refine W_cond (by rfl) (fun c4 => ?_) (fun c4 => ?_)
    ·
      try simp only [Bool.not_eq_true', Bool.not_eq_false', decide_eq_true_eq, decide_eq_false_iff_not, ne_eq, Classical.not_not, Int.not_lt, Int.not_le] at c4
      refine W_seq ?_
      refine W_region_lit (fun ds => ?_)
      refine WS_det hF (by rfl) (y_move (c := .int .i64 _) (by rfl)) ?_
      refine WS_det hF (by rfl) (y_assign (c := .int .i64 _) (by rfl)) ?_
      refine WS_nil ?_
      refine Then_normal ?_
      refine W_ret ?_
      refine InB_ret ?_
      refine Then_ret ?_
      refine Loop_ret ?_
      refine InB_ret ?_
      refine Then_ret ?_
      refine Fin_ret [.int .i64 _] [] Tryd.results128 ⟨by rfl, trivial⟩ HSub.nil ?_
      show _ = _
      rw [firstOut_step (by omega), c4] at hk
      simp [tupOf, ← hk.2]
    ·
      try simp only [Bool.not_eq_true', Bool.not_eq_false', decide_eq_true_eq, decide_eq_false_iff_not, ne_eq, Classical.not_not, Int.not_lt, Int.not_le] at c4
      refine W_skip ?_
      refine InB_normal ?_
      refine Then_normal ?_
      refine W_region_lit (fun ds => ?_)
      refine WS_det hF (by rfl) (y_add (by rfl) (by rfl) (by unfold I64; omega)) ?_
      refine WS_det hF (by rfl) (y_move (c := .int .i64 _) (by rfl)) ?_
      refine WS_nil ?_
      exact Loop_next (k + 1) ⟨by omega, by rw [firstOut_step (by omega), c4] at hk; exact hk.2⟩ (by repeat (first | exact trivial | refine ⟨by rfl, ?_⟩)) (by repeat (first | exact List.Sublist.refl _ | exact List.nil_sublist _ | apply List.Sublist.cons_cons | apply List.Sublist.cons)) (by omega)
  ·
    try simp only [Bool.not_eq_true', Bool.not_eq_false', decide_eq_true_eq, decide_eq_false_iff_not, ne_eq, Classical.not_not, Int.not_lt, Int.not_le] at c2
    refine W_exit ?_
    refine Then_exit ?_
    refine Loop_exit ?_
    refine InB_same ?_
    refine Then_normal ?_
    refine W_seq ?_
    refine W_region_lit (fun ds => ?_)
    refine WS_det hF (by rfl) (y_assign (c := .int .i64 _) (by rfl)) ?_
    refine WS_nil ?_
    refine Then_normal ?_
    refine W_ret ?_
    refine Fin_ret [.int .i64 _] [] Tryd.results128 ⟨by rfl, trivial⟩ HSub.nil ?_
    show _ = _
    obtain rfl : k = n := by omega
    rw [← hk.2, ← hl]; simp [tupOf, firstOut]
theorem ctf_any (a : Option Addr) (n cap : Nat) (xs : List Int) (lo hi : Int) (p q o1 o2 : Nat) (w : World) (hn : (n : Int) ≤ 9223372036854775806) (hx : Ints w a n cap xs) (h1 : At w p o1 [.int .i64 lo]) (h2 : At w q o2 [.int .i64 hi]) :
    Ct Tryd.prog 94 #[.slice a n cap, .func (.func 146) #[] #[.pointer (some ⟨p, o1, none⟩), .pointer (some ⟨q, o2, none⟩)]] w fun v _ => v = .bool (xs.any (outB lo hi)) := by
  have hF := wide_wide
  refine Ct_start (args := [_, _]) Tryd.func94 (by rfl) Tryd.ntmps94 (by rfl) ?_
  refine W_seq ?_
  refine W_region_lit (fun ds => ?_)
  refine WS_det hF (by rfl) (y_assign (c := .bool _) (by rfl)) ?_
  refine WS_nil ?_
  refine Then_normal ?_
  refine W_seq ?_
  refine W_region_lit (fun ds => ?_)
  refine WS_det hF (by rfl) (y_move (c := .slice _ _ _) (by rfl)) ?_
  refine WS_det hF (by rfl) (y_move (c := _) (by rfl)) ?_
  refine WS_det hF (by rfl) (y_callL (by rfl) (by rfl) Tryd.call128 (fun w hw => ixf_any a n cap xs lo hi p q o1 o2 w hn (hx.st w hw) (Mem.old h1 w hw) (Mem.old h2 w hw))) ?_
  refine WS_det hF (by rfl) (y_geq (by rfl) (by rfl)) ?_
  refine WS_det hF (by rfl) (y_assign (c := .bool _) (by rfl)) ?_
  refine WS_nil ?_
  refine Then_normal ?_
  refine W_ret ?_
  refine Fin_ret [.bool _] [] Tryd.results94 ⟨by rfl, trivial⟩ HSub.nil ?_
  show Value.bool _ = _
  rw [firstOut_lt]
theorem in_any (a : Option Addr) (n cap : Nat) (xs : List Int) (lo hi : Int) (w : World) (hn : (n : Int) ≤ 9223372036854775806) (hx : Ints w a n cap xs) :
    Ct Tryd.prog 117 #[.int .i64 lo, .int .i64 hi, .slice a n cap] w fun v _ => v = .bool (inB lo hi xs) := by
  have hF := wide_wide
  refine Ct_start (args := [_, _, _]) Tryd.func117 (by rfl) Tryd.ntmps117 (by rfl) ?_
  refine W_seq ?_
  refine W_region_lit (fun ds => ?_)
  refine WS_new hF (by rfl) (y_box (by rfl)) (fun b1 => ?_)
  refine WS_new hF (by rfl) (y_box (by rfl)) (fun b2 => ?_)
  refine WS_det hF (by rfl) (y_assign (c := .bool _) (by rfl)) ?_
  refine WS_nil ?_
  refine Then_normal ?_
  refine W_seq ?_
  refine W_region_lit (fun ds => ?_)
  refine WS_det hF (by rfl) (y_move (c := .slice _ _ _) (by rfl)) ?_
  refine WS_det hF (by rfl) (y_makeFuncL (by rfl) (by rfl)) ?_
  refine WS_det hF (by rfl) (y_callL (by rfl) (by rfl) Tryd.call94 (fun w hw => ctf_any a n cap xs lo hi _ _ _ _ w hn (hx.st w hw) (Mem.own1 1 rfl rfl w hw) (Mem.own1 0 rfl rfl w hw))) ?_
  refine WS_det hF (by rfl) (y_not (by rfl)) ?_
  refine WS_det hF (by rfl) (y_assign (c := .bool _) (by rfl)) ?_
  refine WS_nil ?_
  refine Then_normal ?_
  refine W_ret ?_
  refine Fin_ret [.bool _] [] Tryd.results117 ⟨by rfl, trivial⟩ HSub.nil ?_
  show Value.bool _ = _
  rw [inB_any]

theorem span_any (a b m : Int) (w : World) :
    Ct Tryd.prog 145 #[.agg #[.int .i64 a, .int .i64 b], .int .i64 m] w fun v _ => v = .bool (inB 0 m [a, b] && decide (a ≤ b)) := by
  have hF := wide_wide
  refine Ct_start (args := [_, _]) Tryd.func145 (by rfl) Tryd.ntmps145 (by rfl) ?_
  refine W_seq ?_
  refine W_region_lit (fun ds => ?_)
  refine WS_new hF (by rfl) (y_box (by rfl)) (fun b1 => ?_)
  refine WS_det hF (by rfl) (y_assign (c := .bool _) (by rfl)) ?_
  refine WS_nil ?_
  refine Then_normal ?_
  refine W_seq ?_
  refine W_region_lit (fun ds => ?_)
  refine WS_det hF (by rfl) (y_move (c := .int .i64 _) (by rfl)) ?_
  refine WS_det hF (by rfl) (y_fieldAddr (by rfl) fa63_0) ?_
  refine WS_det hF (by rfl) (y_load1 (by rfl) Tryd.isAgg3 (Mem.own1 0 (by rfl) (by rfl))) ?_
  refine WS_det hF (by rfl) (y_fieldAddr (by rfl) fa63_1) ?_
  refine WS_det hF (by rfl) (y_load1 (by rfl) Tryd.isAgg3 (Mem.own1 0 (by rfl) (by rfl))) ?_
  refine WS_newS hF (by rfl) (y_buildSliceL bs22_2_0_1 (by rfl)) (fun b2 => ?_)
  refine WS_det hF (by rfl) (y_callL (by rfl) (by rfl) Tryd.call117 (fun w hw => in_any _ _ _ _ _ _ w (by decide) (by first | exact Ints.one 0 rfl w hw | exact Ints.two 0 rfl w hw))) ?_
  refine WS_det hF (by rfl) (y_move (c := .bool _) (by rfl)) ?_
  refine WS_split 12 (by rfl) (fun g1_7 => ?_) (fun g1_7 => ?_)
  ·
    try simp only [Bool.not_eq_true', Bool.not_eq_false', decide_eq_true_eq, decide_eq_false_iff_not, ne_eq, Classical.not_not, Int.not_lt, Int.not_le] at g1_7
    refine WS_det hF (by rfl) (y_fieldAddr (by rfl) fa63_0) ?_
    refine WS_det hF (by rfl) (y_load1 (by rfl) Tryd.isAgg3 (Mem.own1 1 (by rfl) (by rfl))) ?_
    refine WS_det hF (by rfl) (y_fieldAddr (by rfl) fa63_1) ?_
    refine WS_det hF (by rfl) (y_load1 (by rfl) Tryd.isAgg3 (Mem.own1 1 (by rfl) (by rfl))) ?_
    refine WS_det hF (by rfl) (y_leq (by rfl) (by rfl)) ?_
    refine WS_det hF (by rfl) (by first | exact y_pick_t (c := .bool _) (by rfl) (by rfl) | exact y_pick_f (c := .bool _) (by rfl) (by rfl)) ?_
    refine WS_det hF (by rfl) (y_assign (c := .bool _) (by rfl)) ?_
    refine WS_nil ?_
    refine Then_normal ?_
    refine W_ret ?_
    refine Fin_ret [.bool _] [] Tryd.results145 ⟨by rfl, trivial⟩ HSub.nil ?_
    show _ = _
    simp [tupOf, *]
  ·
    try simp only [Bool.not_eq_true', Bool.not_eq_false', decide_eq_true_eq, decide_eq_false_iff_not, ne_eq, Classical.not_not, Int.not_lt, Int.not_le] at g1_7
    refine WS_no hF (by rfl) ?_
    refine WS_no hF (by rfl) ?_
    refine WS_no hF (by rfl) ?_
    refine WS_no hF (by rfl) ?_
    refine WS_no hF (by rfl) ?_
    refine WS_det hF (by rfl) (by first | exact y_pick_t (c := .bool _) (by rfl) (by rfl) | exact y_pick_f (c := .bool _) (by rfl) (by rfl)) ?_
    refine WS_det hF (by rfl) (y_assign (c := .bool _) (by rfl)) ?_
    refine WS_nil ?_
    refine Then_normal ?_
    refine W_ret ?_
    refine Fin_ret [.bool _] [] Tryd.results145 ⟨by rfl, trivial⟩ HSub.nil ?_
    show _ = _
    simp [tupOf, *]

/-- A gauge in memory. -/
structure Gg (w : World) (g og : Nat) (t : Tk) : Prop where
  ok : t.Ok
  ex : ∃ a cap, At w g og [.slice a t.n cap, .int .i64 t.leak, .int .i64 t.foot, .int .i64 t.full, .int .i64 t.height] ∧ Ints w a t.n cap t.pints
theorem Gg.below {w w' : World} {g og : Nat} {t : Tk} (h : Gg w g og t) (hb : Below w.heap.size w w') : Gg w' g og t := by
  obtain ⟨hok, a, cap, h1, h2⟩ := h
  exact ⟨hok, a, cap, At.old hb h1, h2.below hb⟩
theorem Gg.st {C : Ctx} {H : List Blk} {g og : Nat} {t : Tk} (h : Gg C.w0 g og t) (w : World) (hw : St C H w) : Gg w g og t := h.below hw.1

theorem times_any (g og : Nat) (t : Tk) (x : Int) (w : World) (hG : Gg w g og t) (h0 : 0 ≤ x) (h1 : x ≤ t.height) :
    Ct Tryd.prog 139 #[.pointer (some ⟨g, og, none⟩), .int .i64 x] w fun v _ => v = .int .i64 (t.eight x) := by
  obtain ⟨hok, a, cap, hg, hx⟩ := hG
  have h2 := hok.n2
  have h3 := hok.n21
  have hH : t.height = 8 * ((t.n : Int) - 1) := rfl
  obtain ⟨hs1, hs2, hs3, hs4⟩ := hok.seg h0 h1
  have hp0 := hok.bd (t.seg x) (by omega)
  have hp1 := hok.bd (t.seg x + 1) (by omega)
  have hpi := hok.inc (t.seg x) hs2
  have hE : t.eight x = 8 * t.p (t.seg x) + (x - 8 * (t.seg x : Int)) * (t.p (t.seg x + 1) - t.p (t.seg x)) := rfl
  have hm := mul_bd hs3 hs4 (show 0 ≤ t.p (t.seg x + 1) - t.p (t.seg x) by omega) (show t.p (t.seg x + 1) - t.p (t.seg x) ≤ 600 by omega)
  obtain ⟨b, o, rfl⟩ := hx.adr (by omega)
  have e0 := hx.at (k := t.seg x) (by omega)
  have e1 := hx.at (k := t.seg x + 1) (by omega)
  change At w b _ [.int .i64 (t.p (t.seg x))] at e0
  change At w b _ [.int .i64 (t.p (t.seg x + 1))] at e1
  rw [hE]
  generalize t.p (t.seg x) = p0 at *
  generalize t.p (t.seg x + 1) = p1 at *
  generalize t.seg x = k at *
  have hF := wide_wide
  refine Ct_start (args := [_, _]) Tryd.func139 (by rfl) Tryd.ntmps139 (by rfl) ?_
  refine W_seq ?_
  refine W_region_lit (fun ds => ?_)
  refine WS_det hF (by rfl) (y_assign (c := .int .i64 _) (by rfl)) ?_
  refine WS_nil ?_
  refine Then_normal ?_
  refine W_seq ?_
  refine W_region_lit (fun ds => ?_)
  refine WS_det hF (by rfl) (y_move (c := .int .i64 _) (by rfl)) ?_
  refine WS_det hF (by rfl) (y_quo (by rfl) (by rfl) (by omega) (by omega) (by unfold I64; omega)) ?_
  refine WS_det hF (by rfl) (y_move (c := .pointer _) (by rfl)) ?_
  refine WS_det hF (by rfl) (by first | exact y_nilCheck (by rfl) | exact y_nilCheckF (by rfl)) ?_
  refine WS_det hF (by rfl) (y_fieldAddr (by rfl) fa191_0) ?_
  refine WS_det hF (by rfl) (y_fieldAddr (by rfl) fa61_0) ?_
  refine WS_det hF (by rfl) (y_load1 (by rfl) Tryd.isAgg22 (by first | exact Mem.old1 (by assumption) | exact Mem.oldAt1 (by assumption) (by rfl) | exact Mem.old (by assumption) | exact Mem.oldAtL1 (by assumption) (by rfl) (by rfl))) ?_
  refine WS_det hF (by rfl) (y_len (by rfl) Tryd.runUnderlying22) ?_
  refine WS_det hF (by rfl) (y_sub (by rfl) (by rfl) (by unfold I64; omega)) ?_
  refine WS_det hF (by rfl) (y_min (by rfl) (by rfl)) ?_
  refine WS_det hF (by rfl) (y_assign (c := .int .i64 _) (by rfl)) ?_
  refine WS_nil ?_
  refine Then_normal ?_
  refine W_seq ?_
  rw [hs1]
  refine W_draw0 hF Trydmixed [] (by decide +kernel) (fun ds => ?_)
  refine P_det (by rfl) (Over_nil (y_move (c := .pointer _) (by rfl))) ?_
  refine P_det (by rfl) (Over_nil (by first | exact y_nilCheck (by rfl) | exact y_nilCheckF (by rfl))) ?_
  refine P_det (by rfl) (Over_nil (y_fieldAddr (by rfl) fa191_0)) ?_
  refine P_det (by rfl) (Over_nil (y_fieldAddr (by rfl) fa61_0)) ?_
  refine P_det (by rfl) (Over_nil (y_load1 (by rfl) Tryd.isAgg22 (by first | exact Mem.old1 (by assumption) | exact Mem.oldAt1 (by assumption) (by rfl) | exact Mem.old (by assumption) | exact Mem.oldAtL1 (by assumption) (by rfl) (by rfl)))) ?_
  refine P_det (by rfl) (Over_nil (y_move (c := .int .i64 _) (by rfl))) ?_
  refine P_det (by rfl) (Over_nil (y_index (k := _) (by rfl) (by rfl) (by first | rfl | omega) (by first | decide | omega) Tryd.runUnderlying22 Tryd.sizeOf3)) ?_
  refine P_det (by rfl) (Over_nil (y_load1 (by rfl) Tryd.isAgg3 (by first | exact Mem.old1 (by assumption) | exact Mem.oldAt1 (by assumption) (by rfl) | exact Mem.old (by assumption) | exact Mem.oldAtL1 (by assumption) (by rfl) (by rfl)))) ?_
  refine P_det (by rfl) (Over_nil (y_mul (by rfl) (by rfl) (by unfold I64; omega))) ?_
  refine P_det (by rfl) (Over_nil (y_move (c := .int .i64 _) (by rfl))) ?_
  refine P_det (by rfl) (Over_nil (y_move (c := .int .i64 _) (by rfl))) ?_
  refine P_det (by rfl) (Over_nil (y_mul (by rfl) (by rfl) (by unfold I64; omega))) ?_
  refine P_det (by rfl) (Over_nil (y_sub (by rfl) (by rfl) (by unfold I64; omega))) ?_
  refine P_det (by rfl) (Over_nil (y_move (c := .pointer _) (by rfl))) ?_
  refine P_det (by rfl) (Over_nil (by first | exact y_nilCheck (by rfl) | exact y_nilCheckF (by rfl))) ?_
  refine P_det (by rfl) (Over_nil (y_fieldAddr (by rfl) fa191_0)) ?_
  refine P_det (by rfl) (Over_nil (y_fieldAddr (by rfl) fa61_0)) ?_
  refine P_det (by rfl) (Over_nil (y_load1 (by rfl) Tryd.isAgg22 (by first | exact Mem.old1 (by assumption) | exact Mem.oldAt1 (by assumption) (by rfl) | exact Mem.old (by assumption) | exact Mem.oldAtL1 (by assumption) (by rfl) (by rfl)))) ?_
  refine P_det (by rfl) (Over_nil (y_move (c := .int .i64 _) (by rfl))) ?_
  refine P_det (by rfl) (Over_nil (y_add (by rfl) (by rfl) (by unfold I64; omega))) ?_
  refine P_det (by rfl) (Over_nil (y_index (k := _) (by rfl) (by rfl) (by first | rfl | omega) (by first | decide | omega) Tryd.runUnderlying22 Tryd.sizeOf3)) ?_
  refine P_det (by rfl) (Over_nil (y_load1 (by rfl) Tryd.isAgg3 (by first | exact Mem.old1 (by assumption) | exact Mem.oldAt1 (by assumption) (by rfl) | exact Mem.old (by assumption) | exact Mem.oldAtL1 (by assumption) (by rfl) (by rfl)))) ?_
  refine P_det (by rfl) (Over_nil (y_move (c := .pointer _) (by rfl))) ?_
  refine P_det (by rfl) (Over_nil (by first | exact y_nilCheck (by rfl) | exact y_nilCheckF (by rfl))) ?_
  refine P_det (by rfl) (Over_nil (y_fieldAddr (by rfl) fa191_0)) ?_
  refine P_det (by rfl) (Over_nil (y_fieldAddr (by rfl) fa61_0)) ?_
  refine P_det (by rfl) (Over_nil (y_load1 (by rfl) Tryd.isAgg22 (by first | exact Mem.old1 (by assumption) | exact Mem.oldAt1 (by assumption) (by rfl) | exact Mem.old (by assumption) | exact Mem.oldAtL1 (by assumption) (by rfl) (by rfl)))) ?_
  refine P_det (by rfl) (Over_nil (y_move (c := .int .i64 _) (by rfl))) ?_
  refine P_det (by rfl) (Over_nil (y_index (k := _) (by rfl) (by rfl) (by first | rfl | omega) (by first | decide | omega) Tryd.runUnderlying22 Tryd.sizeOf3)) ?_
  refine P_det (by rfl) (Over_nil (y_load1 (by rfl) Tryd.isAgg3 (by first | exact Mem.old1 (by assumption) | exact Mem.oldAt1 (by assumption) (by rfl) | exact Mem.old (by assumption) | exact Mem.oldAtL1 (by assumption) (by rfl) (by rfl)))) ?_
  refine P_det (by rfl) (Over_nil (y_sub (by rfl) (by rfl) (by unfold I64; omega))) ?_
  refine P_det (by rfl) (Over_nil (y_mul (by rfl) (by rfl) (by unfold I64; omega))) ?_
  refine P_det (by rfl) (Over_nil (y_add (by rfl) (by rfl) (by unfold I64; omega))) ?_
  refine P_det (by rfl) (Over_nil (y_assign (c := .int .i64 _) (by rfl))) ?_
  refine PW_end (by rfl) ?_
  refine OverAll_nil ?_
  rintro -
  refine Then_normal ?_
  refine W_ret ?_
  refine Fin_ret [.int .i64 _] [] Tryd.results139 ⟨by rfl, trivial⟩ HSub.nil ?_
  rfl
theorem up_any (g og : Nat) (t : Tk) (x : Int) (w : World) (hG : Gg w g og t) (h0 : 0 ≤ x) (h1 : x ≤ t.height) :
    Ct Tryd.prog 112 #[.pointer (some ⟨g, og, none⟩), .int .i64 x] w fun v _ => v = .int .i64 (t.up x) := by
  have he := hG.ok.eight_bd h0 h1
  have hf := hG.ok.full_bd
  have hF := wide_wide
  refine Ct_start (args := [_, _]) Tryd.func112 (by rfl) Tryd.ntmps112 (by rfl) ?_
  refine W_seq ?_
  refine W_region_lit (fun ds => ?_)
  refine WS_det hF (by rfl) (y_assign (c := .int .i64 _) (by rfl)) ?_
  refine WS_nil ?_
  refine Then_normal ?_
  refine W_seq ?_
  refine W_region_lit (fun ds => ?_)
  refine WS_det hF (by rfl) (y_move (c := .pointer _) (by rfl)) ?_
  refine WS_det hF (by rfl) (y_move (c := .int .i64 _) (by rfl)) ?_
  refine WS_det hF (by rfl) (y_callL (by rfl) (by rfl) Tryd.call139 (fun w hw => times_any _ _ t x w (hG.st w hw) h0 h1)) ?_
  refine WS_det hF (by rfl) (y_add (by rfl) (by rfl) (by unfold I64; omega)) ?_
  refine WS_det hF (by rfl) (y_sub (by rfl) (by rfl) (by unfold I64; omega)) ?_
  refine WS_det hF (by rfl) (y_quo (by rfl) (by rfl) (by omega) (by omega) (by unfold I64; omega)) ?_
  refine WS_det hF (by rfl) (y_assign (c := .int .i64 _) (by rfl)) ?_
  refine WS_nil ?_
  refine Then_normal ?_
  refine W_ret ?_
  refine Fin_ret [.int .i64 _] [] Tryd.results112 ⟨by rfl, trivial⟩ HSub.nil ?_
  show Value.int _ _ = _
  unfold Tk.up
  rw [show t.eight x + 8 - 1 = t.eight x + 7 by omega]
theorem down_any (g og : Nat) (t : Tk) (x : Int) (w : World) (hG : Gg w g og t) (h0 : 0 ≤ x) (h1 : x ≤ t.height) :
    Ct Tryd.prog 205 #[.pointer (some ⟨g, og, none⟩), .int .i64 x] w fun v _ => v = .int .i64 (t.down x) := by
  have he := hG.ok.eight_bd h0 h1
  have hf := hG.ok.full_bd
  have hF := wide_wide
  refine Ct_start (args := [_, _]) Tryd.func205 (by rfl) Tryd.ntmps205 (by rfl) ?_
  refine W_seq ?_
  refine W_region_lit (fun ds => ?_)
  refine WS_det hF (by rfl) (y_assign (c := .int .i64 _) (by rfl)) ?_
  refine WS_nil ?_
  refine Then_normal ?_
  refine W_seq ?_
  refine W_region_lit (fun ds => ?_)
  refine WS_det hF (by rfl) (y_move (c := .pointer _) (by rfl)) ?_
  refine WS_det hF (by rfl) (y_move (c := .int .i64 _) (by rfl)) ?_
  refine WS_det hF (by rfl) (y_callL (by rfl) (by rfl) Tryd.call139 (fun w hw => times_any _ _ t x w (hG.st w hw) h0 h1)) ?_
  refine WS_det hF (by rfl) (y_quo (by rfl) (by rfl) (by omega) (by omega) (by unfold I64; omega)) ?_
  refine WS_det hF (by rfl) (y_assign (c := .int .i64 _) (by rfl)) ?_
  refine WS_nil ?_
  refine Then_normal ?_
  refine W_ret ?_
  refine Fin_ret [.int .i64 _] [] Tryd.results205 ⟨by rfl, trivial⟩ HSub.nil ?_
  rfl
theorem dip_any (g og : Nat) (t : Tk) (x y : Int) (w : World) (hG : Gg w g og t) (h0 : 0 ≤ x) (h1 : x ≤ t.height) (h2 : 0 ≤ y) (h3 : y ≤ t.height) :
    Ct Tryd.prog 199 #[.pointer (some ⟨g, og, none⟩), .agg #[.int .i64 x, .int .i64 y]] w fun v _ => v = .agg #[.int .i64 (t.up x), .int .i64 (t.down y)] := by
  have hF := wide_wide
  refine Ct_start (args := [_, _]) Tryd.func199 (by rfl) Tryd.ntmps199 (by rfl) ?_
  refine W_seq ?_
  refine W_region_lit (fun ds => ?_)
  refine WS_new hF (by rfl) (y_box (by rfl)) (fun b1 => ?_)
  refine WS_new hF (by rfl) (y_alloc Tryd.zeroValue63 (by rfl)) (fun b2 => ?_)
  refine WS_nil ?_
  refine Then_normal ?_
  refine W_seq ?_
  apply W_draw1 hF Trydmixed [1000000] (i := 0) (by rfl) (by decide +kernel)
  intro ds
  refine P_det (by rfl) (Over_out (by rfl) (Over_nil (y_move (c := .pointer _) (by rfl)))) ?_
  refine P_det (by rfl) (Over_out (by rfl) (Over_nil (y_fieldAddr (by rfl) fa63_0))) ?_
  refine P_det (by rfl) (Over_out (by rfl) (Over_nil (y_load1 (by rfl) Tryd.isAgg3 (Mem.own1 0 (by rfl) (by rfl))))) ?_
  refine P_det (by rfl) (Over_out (by rfl) (Over_nil (y_callL (by rfl) (by rfl) Tryd.call112 (fun w hw => up_any _ _ t x w (hG.st w hw) h0 h1)))) ?_
  refine P_det (by rfl) (Over_out (by rfl) (Over_nil (y_move (c := .pointer _) (by rfl)))) ?_
  refine P_det (by rfl) (Over_out (by rfl) (Over_nil (y_fieldAddr (by rfl) fa63_1))) ?_
  refine P_det (by rfl) (Over_out (by rfl) (Over_nil (y_load1 (by rfl) Tryd.isAgg3 (Mem.own1 0 (by rfl) (by rfl))))) ?_
  refine P_det (by rfl) (Over_out (by rfl) (Over_nil (y_callL (by rfl) (by rfl) Tryd.call205 (fun w hw => down_any _ _ t y w (hG.st w hw) h2 h3)))) ?_
  refine P_det (by rfl) (Over_out (by rfl) (Over_nil (y_buildL bd63_0_1 (by rfl)))) ?_
  refine P_st 1000000 0 (by rfl) (by rfl) (by rfl) (by rfl) (by rfl) (Over_nil (st_pre (fun _ => by rfl) (fun _ => by rfl) Tryd.sizeOf63 (by rfl) (by rfl) (by first | decide | exact Nat.le_of_ble_eq_true rfl | simp))) ?_
  refine PW_end (by rfl) ?_
  refine OverAll_cons (fun w1000000 l1000000 => ?_)
  refine OverAll_nil ?_
  rintro ⟨-, h1000000⟩
  obtain rfl := h1000000
  refine Then_normal ?_
  refine W_ret ?_
  refine Fin_ret [_] [] Tryd.results199 ⟨lvN (by rfl) Tryd.isAgg63 Tryd.sizeOf63 (Mem.own (us := [.int .i64 _, .int .i64 _]) 0 (by rfl) (by rfl)) (by rfl), trivial⟩ HSub.nil ?_
  rfl
end Go.Proofs.YtjekjehgmljbgaaDoor.T

/- Walks: part, Least, cmp.Less, slices.BinarySearch. -/
namespace Go.Proofs.YtjekjehgmljbgaaDoor.T
open Go.RowKit Go.Proofs Go.Eng
set_option maxRecDepth 100000
set_option maxHeartbeats 1000000
set_option linter.unusedVariables false
set_option linter.unusedSimpArgs false



def lowest (n d : Nat) : Value := .agg #[.int .i64 ((n / Nat.gcd n d : Nat) : Int), .int .i64 ((d / Nat.gcd n d : Nat) : Int)]

/-- A fraction in lowest terms. -/
def lowI (n d : Int) : Value := lowest n.toNat d.toNat

end Go.Proofs.YtjekjehgmljbgaaDoor.T

/- Walks of tank: gauged, Check, Volume, Eighth, Range. -/
namespace Go.Proofs.YtjekjehgmljbgaaDoor.T
open Go.RowKit Go.Proofs Go.Eng
set_option maxRecDepth 100000
set_option maxHeartbeats 1000000
set_option linter.unusedVariables false
set_option linter.unusedSimpArgs false

theorem bd191_0_1_2 {x0_0a : Option Addr} {x0_0l x0_0c : Nat} {x0_1 : Int} {x0_2 : Int} {x1 : Int} {x2 : Int} : ∀ w, (Instr.build 191 #[(0, .agg #[.slice x0_0a x0_0l x0_0c, .int .i64 x0_1, .int .i64 x0_2]), (1, .int .i64 x1), (2, .int .i64 x2)]).run Tryd.prog w = .ok (.agg #[.slice x0_0a x0_0l x0_0c, .int .i64 x0_1, .int .i64 x0_2, .int .i64 x1, .int .i64 x2]) w := fun w => by kernel_rfl
theorem bs22_1_0 {x0 : Int} : ∀ w, (Instr.buildSlice 22 1 #[(0, .int .i64 x0)]).run Tryd.prog w = .ok (.slice (some ⟨w.heap.size, 0, none⟩) 1 1) (w.alloc (CB [.int .i64 x0] 3)) := fun w => by kernel_rfl
theorem fa191_2 : ∀ b o w, (Instr.fieldAt 191 (.pointer (some ⟨b, o, none⟩)) 2).run Tryd.prog w = .ok (.pointer (some ⟨b, o + 4, none⟩)) w := fun b o w => by kernel_rfl
theorem fa61_1 : ∀ b o w, (Instr.fieldAt 61 (.pointer (some ⟨b, o, none⟩)) 1).run Tryd.prog w = .ok (.pointer (some ⟨b, o + 1, none⟩)) w := fun b o w => by kernel_rfl
theorem fa61_2 : ∀ b o w, (Instr.fieldAt 61 (.pointer (some ⟨b, o, none⟩)) 2).run Tryd.prog w = .ok (.pointer (some ⟨b, o + 2, none⟩)) w := fun b o w => by kernel_rfl

theorem Tk.incB_bd {t : Tk} (h0 : t.p 0 = 0) : ∀ {k : Nat}, t.incB k = true → 0 ≤ t.p k ∧ t.p k ≤ 600
  | 0, _ => by omega
  | k + 1, h => by
    rw [t.incB_succ k, Bool.and_eq_true, inB1] at h
    have := Tk.incB_bd h0 h.1
    omega
/-- What comes of a tank: a gauge in a new block, or none. -/
def GaugeV (t : Tk) (a : Option Addr) (cap : Nat) (v : Value) (Hn : List Blk) : Prop :=
  ∃ p, v = .tuple #[.pointer p, .bool t.okB] ∧ (t.okB = true → ∃ b, p = some ⟨b, 0, none⟩ ∧ Hn = [(b, CB [.slice a t.n cap, .int .i64 t.leak, .int .i64 t.foot, .int .i64 t.full, .int .i64 t.height] 191)]) ∧ (t.okB = false → Hn = [])
theorem GaugeV.bad {t : Tk} {a : Option Addr} {cap : Nat} {p : Option Addr} (h : t.okB = false) : GaugeV t a cap (.tuple #[.pointer p, .bool false]) [] :=
  ⟨p, by rw [h], fun h' => (by rw [h] at h'; cases h'), fun _ => rfl⟩


theorem gauged_any (t : Tk) (a : Option Addr) (cap : Nat) (w : World) (hn : t.n ≤ 1000000) (hx : Ints w a t.n cap t.pints) :
    Ct Tryd.prog 143 #[.agg #[.slice a t.n cap, .int .i64 t.leak, .int .i64 t.foot]] w (GaugeV t a cap) := by
  have hcap := hx.le
  have hF := wide_wide
  refine Ct_start (args := [_]) Tryd.func143 (by rfl) Tryd.ntmps143 (by rfl) ?_
  refine W_seq ?_
  refine W_region_lit (fun ds => ?_)
  refine WS_new hF (by rfl) (y_box (by rfl)) (fun b1 => ?_)
  refine WS_det hF (by rfl) (y_assign (c := .pointer _) (by rfl)) ?_
  refine WS_det hF (by rfl) (y_assign (c := .bool _) (by rfl)) ?_
  refine WS_nil ?_
  refine Then_normal ?_
  refine W_seq ?_
  refine W_region_lit (fun ds => ?_)
  refine WS_det hF (by rfl) (y_fieldAddr (by rfl) fa61_0) ?_
  refine WS_det hF (by rfl) (y_load1 (by rfl) Tryd.isAgg22 (Mem.own1 0 (by rfl) (by rfl))) ?_
  refine WS_det hF (by rfl) (y_len (by rfl) Tryd.runUnderlying22) ?_
  refine WS_det hF (by rfl) (y_assign (c := .int .i64 _) (by rfl)) ?_
  refine WS_nil ?_
  refine Then_normal ?_
  refine W_seq ?_
  refine W_seq ?_
  refine W_region_lit (fun ds => ?_)
  refine WS_det hF (by rfl) (y_move (c := .int .i64 _) (by rfl)) ?_
  refine WS_newS hF (by rfl) (y_buildSliceL bs22_1_0 (by rfl)) (fun b2 => ?_)
  refine WS_det hF (by rfl) (y_callL (by rfl) (by rfl) Tryd.call117 (fun w hw => in_any _ _ _ _ _ _ w (by decide) (by first | exact Ints.one 0 rfl w hw | exact Ints.two 0 rfl w hw))) ?_
  refine WS_det hF (by rfl) (y_not (by rfl)) ?_
  refine WS_det hF (by rfl) (y_move (c := .bool _) (by rfl)) ?_
  refine WS_split 15 (by rfl) (fun g2_4 => ?_) (fun g2_4 => ?_)
  ·
    try simp only [Bool.not_eq_true', Bool.not_eq_false', decide_eq_true_eq, decide_eq_false_iff_not, ne_eq, Classical.not_not, Int.not_lt, Int.not_le] at g2_4
    refine WS_no hF (by rfl) ?_
    refine WS_no hF (by rfl) ?_
    refine WS_no hF (by rfl) ?_
    refine WS_no hF (by rfl) ?_
    refine WS_no hF (by rfl) ?_
    refine WS_det hF (by rfl) (by first | exact y_pick_t (c := .bool _) (by rfl) (by rfl) | exact y_pick_f (c := .bool _) (by rfl) (by rfl)) ?_
    refine WS_det hF (by rfl) (y_move (c := .bool _) (by rfl)) ?_
    refine WS_no hF (by rfl) ?_
    refine WS_no hF (by rfl) ?_
    refine WS_no hF (by rfl) ?_
    refine WS_no hF (by rfl) ?_
    refine WS_no hF (by rfl) ?_
    refine WS_det hF (by rfl) (by first | exact y_pick_t (c := .bool _) (by rfl) (by rfl) | exact y_pick_f (c := .bool _) (by rfl) (by rfl)) ?_
    refine WS_nil ?_
    refine Then_normal ?_
    refine W_cond (by rfl) (fun c2 => ?_) (fun c2 => ?_)
    ·
      try simp only [Bool.not_eq_true', Bool.not_eq_false', decide_eq_true_eq, decide_eq_false_iff_not, ne_eq, Classical.not_not, Int.not_lt, Int.not_le] at c2
      refine W_seq ?_
      refine W_region_lit (fun ds => ?_)
      refine WS_det hF (by rfl) (y_assign (c := .pointer _) (by rfl)) ?_
      refine WS_det hF (by rfl) (y_assign (c := .bool _) (by rfl)) ?_
      refine WS_nil ?_
      refine Then_normal ?_
      refine W_ret ?_
      refine Then_ret ?_
      refine Fin_ret [.pointer _, .bool _] [] Tryd.results143 ⟨by rfl, by rfl, trivial⟩ HSub.nil ?_
      exact GaugeV.bad (by simp [Tk.okB, *])
    · cases c2
  ·
    try simp only [Bool.not_eq_true', Bool.not_eq_false', decide_eq_true_eq, decide_eq_false_iff_not, ne_eq, Classical.not_not, Int.not_lt, Int.not_le] at g2_4
    have hr := inB1.1 g2_4
    obtain ⟨b, o, rfl, hc⟩ := hx.cell 0 (by omega)
    change At w b _ [.int .i64 (t.p 0)] at hc
    refine WS_det hF (by rfl) (y_fieldAddr (by rfl) fa61_0) ?_
    refine WS_det hF (by rfl) (y_load1 (by rfl) Tryd.isAgg22 (Mem.own1 1 (by rfl) (by rfl))) ?_
    refine WS_det hF (by rfl) (y_index (k := 0) (by rfl) (by rfl) (by first | rfl | omega) (by first | decide | omega) Tryd.runUnderlying22 Tryd.sizeOf3) ?_
    refine WS_det hF (by rfl) (y_load1 (by rfl) Tryd.isAgg3 (by first | exact Mem.old1 (by assumption) | exact Mem.oldAt1 (by assumption) (by rfl) | exact Mem.old (by assumption) | exact Mem.oldAtL1 (by assumption) (by rfl) (by rfl))) ?_
    refine WS_det hF (by rfl) (y_neq (by rfl) (by rfl)) ?_
    refine WS_det hF (by rfl) (by first | exact y_pick_t (c := .bool _) (by rfl) (by rfl) | exact y_pick_f (c := .bool _) (by rfl) (by rfl)) ?_
    refine WS_det hF (by rfl) (y_move (c := .bool _) (by rfl)) ?_
    refine WS_split 22 (by rfl) (fun g2_11 => ?_) (fun g2_11 => ?_)
    ·
      try simp only [Bool.not_eq_true', Bool.not_eq_false', decide_eq_true_eq, decide_eq_false_iff_not, ne_eq, Classical.not_not, Int.not_lt, Int.not_le] at g2_11
      refine WS_no hF (by rfl) ?_
      refine WS_no hF (by rfl) ?_
      refine WS_no hF (by rfl) ?_
      refine WS_no hF (by rfl) ?_
      refine WS_no hF (by rfl) ?_
      refine WS_det hF (by rfl) (by first | exact y_pick_t (c := .bool _) (by rfl) (by rfl) | exact y_pick_f (c := .bool _) (by rfl) (by rfl)) ?_
      refine WS_nil ?_
      refine Then_normal ?_
      refine W_cond (by rfl) (fun c2 => ?_) (fun c2 => ?_)
      ·
        try simp only [Bool.not_eq_true', Bool.not_eq_false', decide_eq_true_eq, decide_eq_false_iff_not, ne_eq, Classical.not_not, Int.not_lt, Int.not_le] at c2
        refine W_seq ?_
        refine W_region_lit (fun ds => ?_)
        refine WS_det hF (by rfl) (y_assign (c := .pointer _) (by rfl)) ?_
        refine WS_det hF (by rfl) (y_assign (c := .bool _) (by rfl)) ?_
        refine WS_nil ?_
        refine Then_normal ?_
        refine W_ret ?_
        refine Then_ret ?_
        refine Fin_ret [.pointer _, .bool _] [] Tryd.results143 ⟨by rfl, by rfl, trivial⟩ HSub.nil ?_
        exact GaugeV.bad (by simp [Tk.okB, *])
      · cases c2
    ·
      try simp only [Bool.not_eq_true', Bool.not_eq_false', decide_eq_true_eq, decide_eq_false_iff_not, ne_eq, Classical.not_not, Int.not_lt, Int.not_le] at g2_11
      refine WS_det hF (by rfl) (y_fieldAddr (by rfl) fa61_1) ?_
      refine WS_det hF (by rfl) (y_load1 (by rfl) Tryd.isAgg3 (Mem.own1 1 (by rfl) (by rfl))) ?_
      refine WS_newS hF (by rfl) (y_buildSliceL bs22_1_0 (by rfl)) (fun b3 => ?_)
      refine WS_det hF (by rfl) (y_callL (by rfl) (by rfl) Tryd.call117 (fun w hw => in_any _ _ _ _ _ _ w (by decide) (by first | exact Ints.one 0 rfl w hw | exact Ints.two 0 rfl w hw))) ?_
      refine WS_det hF (by rfl) (y_not (by rfl)) ?_
      refine WS_det hF (by rfl) (by first | exact y_pick_t (c := .bool _) (by rfl) (by rfl) | exact y_pick_f (c := .bool _) (by rfl) (by rfl)) ?_
      refine WS_nil ?_
      refine Then_normal ?_
      refine W_cond (by rfl) (fun c2 => ?_) (fun c2 => ?_)
      ·
        try simp only [Bool.not_eq_true', Bool.not_eq_false', decide_eq_true_eq, decide_eq_false_iff_not, ne_eq, Classical.not_not, Int.not_lt, Int.not_le] at c2
        refine W_seq ?_
        refine W_region_lit (fun ds => ?_)
        refine WS_det hF (by rfl) (y_assign (c := .pointer _) (by rfl)) ?_
        refine WS_det hF (by rfl) (y_assign (c := .bool _) (by rfl)) ?_
        refine WS_nil ?_
        refine Then_normal ?_
        refine W_ret ?_
        refine Then_ret ?_
        refine Fin_ret [.pointer _, .bool _] [] Tryd.results143 ⟨by rfl, by rfl, trivial⟩ HSub.nil ?_
        exact GaugeV.bad (by simp [Tk.okB, *])
      ·
        try simp only [Bool.not_eq_true', Bool.not_eq_false', decide_eq_true_eq, decide_eq_false_iff_not, ne_eq, Classical.not_not, Int.not_lt, Int.not_le] at c2
        have hinc0 : t.incB 0 = true := rfl
        have hh : t.height = 8 * ((t.n : Int) - 1) := rfl
        have hbd := fun k => t.incB_bd (k := k) g2_11
        refine W_skip ?_
        refine Then_normal ?_
        refine W_seq ?_
        refine W_seq ?_
        refine W_region_lit (fun ds => ?_)
        refine WS_det hF (by rfl) (y_fieldAddr (by rfl) fa61_0) ?_
        refine WS_det hF (by rfl) (y_load1 (by rfl) Tryd.isAgg22 (Mem.own1 2 (by rfl) (by rfl))) ?_
        refine WS_det hF (by rfl) (y_slice_loE (l := 1) (by rfl) (by rfl) (by rfl) (by omega) Tryd.runUnderlying22 Tryd.sizeOf3 (shift_some (by omega))) ?_
        refine WS_det hF (by rfl) (y_len (by rfl) Tryd.runUnderlying22) ?_
        refine WS_det hF (by rfl) (y_move (c := .int .i64 _) (by rfl)) ?_
        refine WS_nil ?_
        refine Then_normal ?_
        refine W_block ?_
        refine W_loop (γ := Nat) (fun k => k ≤ t.n - 1 ∧ t.incB k = true) (fun k => [(33, .int .i64 (k : Int)), (32, .int .i64 ((t.n - 1 : Nat) : Int)), (31, .slice (some ⟨b, o + 1 * 1, none⟩) (t.n - 1) (cap - 1)), (1, .pointer (some ⟨b1, 0, none⟩)), (4, .int .i64 (t.n : Int))]) (fun _ => _) (fun k => t.n - 1 - k) (0) ⟨Nat.zero_le _, hinc0⟩ (by repeat (first | exact trivial | refine ⟨by rfl, ?_⟩)) (List.Sublist.refl _) ?_
        rintro k e ⟨hk, hinc⟩
        refine W_seq ?_
        refine W_region_lit (fun ds => ?_)
        refine WS_det hF (by rfl) (y_lss (by rfl) (by rfl)) ?_
        refine WS_nil ?_
        refine Then_normal ?_
        refine W_seq ?_
        refine W_cond (by rfl) (fun c5 => ?_) (fun c5 => ?_)
        ·
          try simp only [Bool.not_eq_true', Bool.not_eq_false', decide_eq_true_eq, decide_eq_false_iff_not, ne_eq, Classical.not_not, Int.not_lt, Int.not_le] at c5
          have hb := hbd k hinc
          have hk0 : At w b (o + k * 1) [.int .i64 (t.p k)] := hx.at (k := k) (by omega)
          have hk1 : At w b (o + 1 * 1 + k * 1) [.int .i64 (t.p (k + 1))] := by
            have := hx.at (k := k + 1) (by omega)
            rwa [show o + (k + 1) * 1 = o + 1 * 1 + k * 1 by omega] at this
          refine W_skip ?_
          refine Then_normal ?_
          refine W_seq ?_
          refine W_block ?_
          refine W_seq ?_
          refine W_region_lit (fun ds => ?_)
          refine WS_det hF (by rfl) (y_move (c := .int .i64 _) (by rfl)) ?_
          refine WS_det hF (by rfl) (y_index (k := k) (by rfl) (by rfl) (by first | rfl | omega) (by first | decide | omega) Tryd.runUnderlying22 Tryd.sizeOf3) ?_
          refine WS_det hF (by rfl) (y_load1 (by rfl) Tryd.isAgg3 (by first | exact Mem.old1 (by assumption) | exact Mem.oldAt1 (by assumption) (by rfl) | exact Mem.old (by assumption) | exact Mem.oldAtL1 (by assumption) (by rfl) (by rfl))) ?_
          refine WS_det hF (by rfl) (y_assign (c := .int .i64 _) (by rfl)) ?_
          refine WS_det hF (by rfl) (y_assign (c := .int .i64 _) (by rfl)) ?_
          refine WS_nil ?_
          refine Then_normal ?_
          refine W_seq ?_
          refine W_region_lit (fun ds => ?_)
          refine WS_det hF (by rfl) (y_fieldAddr (by rfl) fa61_0) ?_
          refine WS_det hF (by rfl) (y_load1 (by rfl) Tryd.isAgg22 (Mem.own1 2 (by rfl) (by rfl))) ?_
          refine WS_det hF (by rfl) (y_move (c := .int .i64 _) (by rfl)) ?_
          refine WS_det hF (by rfl) (y_index (k := k) (by rfl) (by rfl) (by first | rfl | omega) (by first | decide | omega) Tryd.runUnderlying22 Tryd.sizeOf3) ?_
          refine WS_det hF (by rfl) (y_load1 (by rfl) Tryd.isAgg3 (by first | exact Mem.old1 (by assumption) | exact Mem.oldAt1 (by assumption) (by rfl) | exact Mem.old (by assumption) | exact Mem.oldAtL1 (by assumption) (by rfl) (by rfl))) ?_
          refine WS_det hF (by rfl) (y_add (by rfl) (by rfl) (by unfold I64; omega)) ?_
          refine WS_det hF (by rfl) (y_move (c := .int .i64 _) (by rfl)) ?_
          refine WS_newS hF (by rfl) (y_buildSliceL bs22_1_0 (by rfl)) (fun b4 => ?_)
          refine WS_det hF (by rfl) (y_callL (by rfl) (by rfl) Tryd.call117 (fun w hw => in_any _ _ _ _ _ _ w (by decide) (by first | exact Ints.one 0 rfl w hw | exact Ints.two 0 rfl w hw))) ?_
          refine WS_det hF (by rfl) (y_not (by rfl)) ?_
          refine WS_nil ?_
          refine Then_normal ?_
          refine W_cond (by rfl) (fun c7 => ?_) (fun c7 => ?_)
          ·
            try simp only [Bool.not_eq_true', Bool.not_eq_false', decide_eq_true_eq, decide_eq_false_iff_not, ne_eq, Classical.not_not, Int.not_lt, Int.not_le] at c7
            refine W_seq ?_
            refine W_region_lit (fun ds => ?_)
            refine WS_det hF (by rfl) (y_assign (c := .pointer _) (by rfl)) ?_
            refine WS_det hF (by rfl) (y_assign (c := .bool _) (by rfl)) ?_
            refine WS_nil ?_
            refine Then_normal ?_
            refine W_ret ?_
            refine InB_ret ?_
            refine Then_ret ?_
            refine Loop_ret ?_
            refine InB_ret ?_
            refine Then_ret ?_
            refine Fin_ret [.pointer _, .bool _] [] Tryd.results143 ⟨by rfl, by rfl, trivial⟩ HSub.nil ?_
            exact GaugeV.bad (by simp [Tk.okB, t.incB_false (m := t.n - 1) (by omega) c7])
          ·
            try simp only [Bool.not_eq_true', Bool.not_eq_false', decide_eq_true_eq, decide_eq_false_iff_not, ne_eq, Classical.not_not, Int.not_lt, Int.not_le] at c7
            refine W_skip ?_
            refine InB_normal ?_
            refine Then_normal ?_
            refine W_region_lit (fun ds => ?_)
            refine WS_det hF (by rfl) (y_add (by rfl) (by rfl) (by unfold I64; omega)) ?_
            refine WS_det hF (by rfl) (y_move (c := .int .i64 _) (by rfl)) ?_
            refine WS_nil ?_
            exact Loop_next (k + 1) ⟨by omega, by rw [t.incB_succ k, hinc, c7]; rfl⟩ (by repeat (first | exact trivial | refine ⟨by rfl, ?_⟩)) (by repeat (first | exact List.Sublist.refl _ | exact List.nil_sublist _ | apply List.Sublist.cons_cons | apply List.Sublist.cons)) (by omega)
        ·
          try simp only [Bool.not_eq_true', Bool.not_eq_false', decide_eq_true_eq, decide_eq_false_iff_not, ne_eq, Classical.not_not, Int.not_lt, Int.not_le] at c5
          have hkn : k = t.n - 1 := by omega
          subst hkn
          have hf : At w b (o + (t.n - 1) * 1) [.int .i64 t.full] := hx.at (k := t.n - 1) (by omega)
          refine W_exit ?_
          refine Then_exit ?_
          refine Loop_exit ?_
          refine InB_same ?_
          refine Then_normal ?_
          refine W_seq ?_
          refine W_draw0 hF Trydmixed [] (by decide +kernel) (fun ds => ?_)
          refine P_det (by rfl) (Over_nil (y_loadN (by rfl) Tryd.isAgg61 Tryd.sizeOf61 (Mem.own (us := [.slice _ _ _, .int .i64 _, .int .i64 _]) 2 (by rfl) (by rfl)) (by rfl))) ?_
          refine P_det (by rfl) (Over_nil (y_fieldAddr (by rfl) fa61_0)) ?_
          refine P_det (by rfl) (Over_nil (y_load1 (by rfl) Tryd.isAgg22 (Mem.own1 2 (by rfl) (by rfl)))) ?_
          refine P_det (by rfl) (Over_nil (y_move (c := .int .i64 _) (by rfl))) ?_
          refine P_det (by rfl) (Over_nil (y_sub (by rfl) (by rfl) (by unfold I64; omega))) ?_
          refine P_det (by rfl) (Over_nil (y_index (k := t.n - 1) (by rfl) (by rfl) (by first | rfl | omega) (by first | decide | omega) Tryd.runUnderlying22 Tryd.sizeOf3)) ?_
          refine P_det (by rfl) (Over_nil (y_load1 (by rfl) Tryd.isAgg3 (by first | exact Mem.old1 (by assumption) | exact Mem.oldAt1 (by assumption) (by rfl) | exact Mem.old (by assumption) | exact Mem.oldAtL1 (by assumption) (by rfl) (by rfl)))) ?_
          refine P_det (by rfl) (Over_nil (y_move (c := .int .i64 _) (by rfl))) ?_
          refine P_det (by rfl) (Over_nil (y_sub (by rfl) (by rfl) (by unfold I64; omega))) ?_
          refine P_det (by rfl) (Over_nil (y_mul (by rfl) (by rfl) (by unfold I64; omega))) ?_
          refine P_det (by rfl) (Over_nil (y_buildL bd191_0_1_2 (by rfl))) ?_
          refine P_new (by rfl) (by rfl) (Over_nil (y_box (by rfl))) ?_
          refine P_ali [60] (fun e => e 60) (by rfl) (by rfl) (by rfl) (fun _ _ h => h 60 (List.mem_singleton.2 rfl)) (Over_in (by rfl) (Over_nil (by rintro _ _ ⟨b6, rfl, rfl⟩; exact (YD0_of (y_assign (c := .pointer _) (by rfl)))))) ?_
          refine PW_end (by rfl) ?_
          refine OverAll_cons (fun w7 l7 => ?_)
          refine OverAll_cons (fun w60 l60 => ?_)
          refine OverAll_nil ?_
          rintro ⟨⟨-, h7⟩, h60⟩
          obtain ⟨b5, rfl, rfl⟩ := h60
          obtain ⟨h7, rfl⟩ := h7
          replace h7 : w7 = .pointer _ := h7
          subst h7
          refine Then_normal ?_
          refine W_seq ?_
          refine W_draw0 hF Trydmixed [] (by decide +kernel) (fun ds => ?_)
          refine P_det (by rfl) (Over_nil (y_move (c := .pointer _) (by rfl))) ?_
          refine P_det (by rfl) (Over_nil (y_move (c := .pointer _) (by rfl))) ?_
          refine P_det (by rfl) (Over_nil (by first | exact y_nilCheck (by rfl) | exact y_nilCheckF (by rfl))) ?_
          refine P_det (by rfl) (Over_nil (y_fieldAddr (by rfl) fa191_2)) ?_
          refine P_det (by rfl) (Over_nil (y_load1 (by rfl) Tryd.isAgg3 (Mem.own1 0 (by rfl) (by rfl)))) ?_
          refine P_det (by rfl) (Over_nil (y_fieldAddr (by rfl) fa61_2)) ?_
          refine P_det (by rfl) (Over_nil (y_load1 (by rfl) Tryd.isAgg3 (Mem.own1 3 (by rfl) (by rfl)))) ?_
          refine P_new (by rfl) (by rfl) (Over_nil (y_buildSliceL bs22_1_0 (by rfl))) ?_
          refine P_det (by rfl) (Over_in (by rfl) (Over_nil (by rintro _ _ ⟨b9, rfl, rfl⟩; exact (y_callL (by rfl) (by rfl) Tryd.call117 (fun w hw => in_any _ _ _ _ _ _ w (by decide) (by first | exact Ints.one 0 rfl w hw | exact Ints.two 0 rfl w hw)))))) ?_
          refine P_det (by rfl) (Over_out (by rfl) (Over_nil (y_assign (c := .pointer _) (by rfl)))) ?_
          refine P_det (by rfl) (Over_out (by rfl) (Over_nil (y_assign (c := .bool _) (by rfl)))) ?_
          refine PW_end (by rfl) ?_
          refine OverAll_cons (fun w68 l68 => ?_)
          refine OverAll_nil ?_
          rintro ⟨-, h68⟩
          obtain ⟨b8, rfl, rfl⟩ := h68
          refine Then_normal ?_
          refine W_ret ?_
          have hok : inB 0 (8 * ((t.n : Int) - 1)) [t.foot] = t.okB := by simp [Tk.okB, *]
          refine Fin_ret [.pointer _, .bool _] (cond t.okB [(b5, _)] []) Tryd.results143 ⟨by rfl, by rfl, trivial⟩ (by cases t.okB; exact HSub.nil; exact (HSub.sub (by repeat (first | exact List.nil_sublist _ | apply List.Sublist.cons_cons | apply List.Sublist.cons)))) ?_
          show GaugeV _ _ _ (Value.tuple #[Value.pointer _, Value.bool (inB 0 (8 * ((t.n : Int) - 1)) [t.foot])]) _
          rw [hok]
          refine ⟨_, rfl, fun h => ?_, fun h => by rw [h]; rfl⟩
          rw [h]
          exact ⟨_, rfl, rfl⟩
theorem Gg.own {C : Ctx} {H : List Blk} {g : Nat} {t : Tk} {a : Option Addr} {cap : Nat} (hm : (g, CB [.slice a t.n cap, .int .i64 t.leak, .int .i64 t.foot, .int .i64 t.full, .int .i64 t.height] 191) ∈ H) (hok : t.okB = true) (hx : Ints C.w0 a t.n cap t.pints) (w : World) (hw : St C H w) : Gg w g 0 t := by
  obtain ⟨i, hi, he⟩ := List.mem_iff_getElem.1 hm
  exact ⟨Tk.ok_iff.1 hok, a, cap, Mem.own (rest := []) i ((List.getElem?_eq_getElem hi).trans (congrArg some he)) rfl w hw, hx.st w hw⟩
def partV0 : Value := .agg #[.int .i64 0, .int .i64 0]
/-- What a tank holds at an eighth. -/
def Tk.volume (t : Tk) (x : Int) : Value :=
  if t.okB then if inB 0 t.height [x] then .tuple #[lowI (t.eight x) 8, .int .i64 0] else .tuple #[partV0, .int .i64 2] else .tuple #[partV0, .int .i64 30]

/-- The eighth of some pints; the index is that of the first number that is no less. -/
def Tk.eighthV (t : Tk) (x : Int) (i : Nat) : Value :=
  if t.okB then if inB 0 t.full [x] then .tuple #[if i < t.n ∧ t.p i = x then lowI (8 * i) 1 else lowI (8 * (((i : Int) - 1) * (t.p i - t.p (i - 1)) + x - t.p (i - 1))) (t.p i - t.p (i - 1)), .int .i64 0] else .tuple #[partV0, .int .i64 2] else .tuple #[partV0, .int .i64 30]
structure Tk.Lb (t : Tk) (x : Int) (i : Nat) : Prop where
  le : i ≤ t.n
  lo : ∀ k, k < i → t.p k < x
  hi : ∀ k, i ≤ k → k < t.n → x ≤ t.p k

/-- The pints of a dip. -/
def Tk.range (t : Tk) (x y : Int) : Value :=
  if t.okB then if inB 0 t.height [x, y] && decide (x ≤ y) then if t.down y < t.up x then .tuple #[partV0, .int .i64 6] else .tuple #[.agg #[.int .i64 (t.up x), .int .i64 (t.down y)], .int .i64 0] else .tuple #[partV0, .int .i64 2] else .tuple #[partV0, .int .i64 30]
end Go.Proofs.YtjekjehgmljbgaaDoor.T

/- Walks of the reference: Tank, Eight, Check, Volume, Range. -/
namespace Go.Proofs.YtjekjehgmljbgaaDoor.T
open Go.RowKit Go.Proofs Go.Eng
set_option maxRecDepth 100000
set_option maxHeartbeats 1000000
set_option linter.unusedVariables false
set_option linter.unusedSimpArgs false



theorem inB1_eq {lo hi n : Int} : inB lo hi [n] = decide (lo ≤ n ∧ n ≤ hi) := by
  rw [Bool.eq_iff_iff, inB1, decide_eq_true_eq]
theorem within_any (n lo hi : Int) (w : World) :
    Ct Tryd.prog 148 #[.int .i64 n, .int .i64 lo, .int .i64 hi] w fun v _ => v = .bool (inB lo hi [n]) := by
  rw [inB1_eq]
  have hF := wide_wide
  refine Ct_start (args := [_, _, _]) Tryd.func148 (by rfl) Tryd.ntmps148 (by rfl) ?_
  refine W_seq ?_
  refine W_region_lit (fun ds => ?_)
  refine WS_det hF (by rfl) (y_assign (c := .bool _) (by rfl)) ?_
  refine WS_nil ?_
  refine Then_normal ?_
  refine W_seq ?_
  refine W_region_lit (fun ds => ?_)
  refine WS_det hF (by rfl) (y_move (c := .int .i64 _) (by rfl)) ?_
  refine WS_det hF (by rfl) (y_move (c := .int .i64 _) (by rfl)) ?_
  refine WS_det hF (by rfl) (y_geq (by rfl) (by rfl)) ?_
  refine WS_det hF (by rfl) (y_move (c := .bool _) (by rfl)) ?_
  refine WS_split 10 (by rfl) (fun g1_3 => ?_) (fun g1_3 => ?_)
  ·
    try simp only [Bool.not_eq_true', Bool.not_eq_false', decide_eq_true_eq, decide_eq_false_iff_not, ne_eq, Classical.not_not, Int.not_lt, Int.not_le] at g1_3
    refine WS_det hF (by rfl) (y_move (c := .int .i64 _) (by rfl)) ?_
    refine WS_det hF (by rfl) (y_move (c := .int .i64 _) (by rfl)) ?_
    refine WS_det hF (by rfl) (y_leq (by rfl) (by rfl)) ?_
    refine WS_det hF (by rfl) (by first | exact y_pick_t (c := .bool _) (by rfl) (by rfl) | exact y_pick_f (c := .bool _) (by rfl) (by rfl)) ?_
    refine WS_det hF (by rfl) (y_assign (c := .bool _) (by rfl)) ?_
    refine WS_nil ?_
    refine Then_normal ?_
    refine W_ret ?_
    refine Fin_ret [.bool _] [] Tryd.results148 ⟨by rfl, trivial⟩ HSub.nil ?_
    show Value.bool _ = _
    simp [*] <;> omega
  ·
    try simp only [Bool.not_eq_true', Bool.not_eq_false', decide_eq_true_eq, decide_eq_false_iff_not, ne_eq, Classical.not_not, Int.not_lt, Int.not_le] at g1_3
    refine WS_no hF (by rfl) ?_
    refine WS_no hF (by rfl) ?_
    refine WS_no hF (by rfl) ?_
    refine WS_det hF (by rfl) (by first | exact y_pick_t (c := .bool _) (by rfl) (by rfl) | exact y_pick_f (c := .bool _) (by rfl) (by rfl)) ?_
    refine WS_det hF (by rfl) (y_assign (c := .bool _) (by rfl)) ?_
    refine WS_nil ?_
    refine Then_normal ?_
    refine W_ret ?_
    refine Fin_ret [.bool _] [] Tryd.results148 ⟨by rfl, trivial⟩ HSub.nil ?_
    show Value.bool _ = _
    simp [*] <;> omega

theorem height_any (t : Tk) (a : Option Addr) (cap : Nat) (w : World) (hn : t.n ≤ 1000000) :
    Ct Tryd.prog 149 #[.agg #[.slice a t.n cap, .int .i64 t.leak, .int .i64 t.foot]] w fun v _ => v = .int .i64 t.height := by
  have hF := wide_wide
  refine Ct_start (args := [_]) Tryd.func149 (by rfl) Tryd.ntmps149 (by rfl) ?_
  refine W_seq ?_
  refine W_region_lit (fun ds => ?_)
  refine WS_new hF (by rfl) (y_box (by rfl)) (fun b1 => ?_)
  refine WS_det hF (by rfl) (y_assign (c := .int .i64 _) (by rfl)) ?_
  refine WS_nil ?_
  refine Then_normal ?_
  refine W_seq ?_
  refine W_region_lit (fun ds => ?_)
  refine WS_det hF (by rfl) (y_fieldAddr (by rfl) fa61_0) ?_
  refine WS_det hF (by rfl) (y_load1 (by rfl) Tryd.isAgg22 (Mem.own1 0 (by rfl) (by rfl))) ?_
  refine WS_det hF (by rfl) (y_len (by rfl) Tryd.runUnderlying22) ?_
  refine WS_det hF (by rfl) (y_sub (by rfl) (by rfl) (by unfold I64; omega)) ?_
  refine WS_det hF (by rfl) (y_mul (by rfl) (by rfl) (by unfold I64; omega)) ?_
  refine WS_det hF (by rfl) (y_assign (c := .int .i64 _) (by rfl)) ?_
  refine WS_nil ?_
  refine Then_normal ?_
  refine W_ret ?_
  refine Fin_ret [.int .i64 _] [] Tryd.results149 ⟨by rfl, trivial⟩ HSub.nil ?_
  rfl

theorem full_any (t : Tk) (a : Option Addr) (cap : Nat) (w : World) (hn : t.n ≤ 1000000) (hp : 0 < t.n) (hx : Ints w a t.n cap t.pints) :
    Ct Tryd.prog 151 #[.agg #[.slice a t.n cap, .int .i64 t.leak, .int .i64 t.foot]] w fun v _ => v = .int .i64 t.full := by
  obtain ⟨b, o, rfl⟩ := hx.adr hp
  have hf : At w b (o + (t.n - 1) * 1) [.int .i64 t.full] := hx.at (k := t.n - 1) (by omega)
  have hF := wide_wide
  refine Ct_start (args := [_]) Tryd.func151 (by rfl) Tryd.ntmps151 (by rfl) ?_
  refine W_seq ?_
  refine W_region_lit (fun ds => ?_)
  refine WS_new hF (by rfl) (y_box (by rfl)) (fun b1 => ?_)
  refine WS_det hF (by rfl) (y_assign (c := .int .i64 _) (by rfl)) ?_
  refine WS_nil ?_
  refine Then_normal ?_
  refine W_seq ?_
  refine W_region_lit (fun ds => ?_)
  refine WS_det hF (by rfl) (y_fieldAddr (by rfl) fa61_0) ?_
  refine WS_det hF (by rfl) (y_load1 (by rfl) Tryd.isAgg22 (Mem.own1 0 (by rfl) (by rfl))) ?_
  refine WS_det hF (by rfl) (y_fieldAddr (by rfl) fa61_0) ?_
  refine WS_det hF (by rfl) (y_load1 (by rfl) Tryd.isAgg22 (Mem.own1 0 (by rfl) (by rfl))) ?_
  refine WS_det hF (by rfl) (y_len (by rfl) Tryd.runUnderlying22) ?_
  refine WS_det hF (by rfl) (y_sub (by rfl) (by rfl) (by unfold I64; omega)) ?_
  refine WS_det hF (by rfl) (y_index (k := t.n - 1) (by rfl) (by rfl) (by first | rfl | omega) (by first | decide | omega) Tryd.runUnderlying22 Tryd.sizeOf3) ?_
  refine WS_det hF (by rfl) (y_load1 (by rfl) Tryd.isAgg3 (by first | exact Mem.old1 (by assumption) | exact Mem.oldAt1 (by assumption) (by rfl) | exact Mem.old (by assumption) | exact Mem.oldAtL1 (by assumption) (by rfl) (by rfl))) ?_
  refine WS_det hF (by rfl) (y_assign (c := .int .i64 _) (by rfl)) ?_
  refine WS_nil ?_
  refine Then_normal ?_
  refine W_ret ?_
  refine Fin_ret [.int .i64 _] [] Tryd.results151 ⟨by rfl, trivial⟩ HSub.nil ?_
  rfl
theorem tank_any (t : Tk) (a : Option Addr) (cap : Nat) (w : World) (hn : t.n ≤ 1000000) (hx : Ints w a t.n cap t.pints) :
    Ct Tryd.prog 120 #[.agg #[.slice a t.n cap, .int .i64 t.leak, .int .i64 t.foot]] w fun v _ => v = .bool t.okB := by
  have hcap := hx.le
  have hF := wide_wide
  refine Ct_start (args := [_]) Tryd.func120 (by rfl) Tryd.ntmps120 (by rfl) ?_
  refine W_seq ?_
  refine W_region_lit (fun ds => ?_)
  refine WS_new hF (by rfl) (y_box (by rfl)) (fun b1 => ?_)
  refine WS_det hF (by rfl) (y_assign (c := .bool _) (by rfl)) ?_
  refine WS_nil ?_
  refine Then_normal ?_
  refine W_seq ?_
  refine W_seq ?_
  refine W_draw0 hF Trydmixed [] (by decide +kernel) (fun ds => ?_)
  refine P_det (by rfl) (Over_nil (y_fieldAddr (by rfl) fa61_0)) ?_
  refine P_det (by rfl) (Over_nil (y_load1 (by rfl) Tryd.isAgg22 (Mem.own1 0 (by rfl) (by rfl)))) ?_
  refine P_det (by rfl) (Over_nil (y_len (by rfl) Tryd.runUnderlying22)) ?_
  refine P_det (by rfl) (Over_nil (y_callL (by rfl) (by rfl) Tryd.call148 (fun w hw => within_any _ _ _ w))) ?_
  refine P_det (by rfl) (Over_nil (y_not (by rfl))) ?_
  refine P_det (by rfl) (Over_nil (y_move (c := .bool _) (by rfl))) ?_
  refine P_split 9 (by rfl) (fun g1_5 => ?_) (fun g1_5 => ?_)
  ·
    try simp only [Bool.not_eq_true', Bool.not_eq_false', decide_eq_true_eq, decide_eq_false_iff_not, ne_eq, Classical.not_not, Int.not_lt, Int.not_le] at g1_5
    refine P_no (by rfl) ?_
    refine P_no (by rfl) ?_
    refine P_no (by rfl) ?_
    refine P_no (by rfl) ?_
    refine P_no (by rfl) ?_
    refine P_det (by rfl) (Over_nil (by first | exact y_pick_t (c := .bool _) (by rfl) (by rfl) | exact y_pick_f (c := .bool _) (by rfl) (by rfl))) ?_
    refine P_det (by rfl) (Over_nil (y_move (c := .bool _) (by rfl))) ?_
    refine P_no (by rfl) ?_
    refine P_no (by rfl) ?_
    refine P_no (by rfl) ?_
    refine P_no (by rfl) ?_
    refine P_det (by rfl) (Over_nil (by first | exact y_pick_t (c := .bool _) (by rfl) (by rfl) | exact y_pick_f (c := .bool _) (by rfl) (by rfl))) ?_
    refine P_det (by rfl) (Over_nil (y_move (c := .bool _) (by rfl))) ?_
    refine P_no (by rfl) ?_
    refine P_no (by rfl) ?_
    refine P_no (by rfl) ?_
    refine P_no (by rfl) ?_
    refine P_no (by rfl) ?_
    refine P_no (by rfl) ?_
    refine P_det (by rfl) (Over_nil (by first | exact y_pick_t (c := .bool _) (by rfl) (by rfl) | exact y_pick_f (c := .bool _) (by rfl) (by rfl))) ?_
    refine PW_end (by rfl) ?_
    refine OverAll_nil ?_
    rintro -
    refine Then_normal ?_
    refine W_cond (by rfl) (fun c1 => ?_) (fun c1 => ?_)
    ·
      try simp only [Bool.not_eq_true', Bool.not_eq_false', decide_eq_true_eq, decide_eq_false_iff_not, ne_eq, Classical.not_not, Int.not_lt, Int.not_le] at c1
      refine W_seq ?_
      refine W_region_lit (fun ds => ?_)
      refine WS_det hF (by rfl) (y_assign (c := .bool _) (by rfl)) ?_
      refine WS_nil ?_
      refine Then_normal ?_
      refine W_ret ?_
      refine Then_ret ?_
      refine Fin_ret [.bool _] [] Tryd.results120 ⟨by rfl, trivial⟩ HSub.nil ?_
      show Value.bool _ = _
      simp [Tk.okB, *]
    · cases c1
  ·
    try simp only [Bool.not_eq_true', Bool.not_eq_false', decide_eq_true_eq, decide_eq_false_iff_not, ne_eq, Classical.not_not, Int.not_lt, Int.not_le] at g1_5
    have hr := inB1.1 g1_5
    obtain ⟨b, o, rfl, hc⟩ := hx.cell 0 (by omega)
    change At w b _ [.int .i64 (t.p 0)] at hc
    refine P_det (by rfl) (Over_nil (y_fieldAddr (by rfl) fa61_0)) ?_
    refine P_det (by rfl) (Over_nil (y_load1 (by rfl) Tryd.isAgg22 (Mem.own1 0 (by rfl) (by rfl)))) ?_
    refine P_det (by rfl) (Over_nil (y_index (k := 0) (by rfl) (by rfl) (by first | rfl | omega) (by first | decide | omega) Tryd.runUnderlying22 Tryd.sizeOf3)) ?_
    refine P_det (by rfl) (Over_nil (y_load1 (by rfl) Tryd.isAgg3 (by first | exact Mem.old1 (by assumption) | exact Mem.oldAt1 (by assumption) (by rfl) | exact Mem.old (by assumption) | exact Mem.oldAtL1 (by assumption) (by rfl) (by rfl)))) ?_
    refine P_det (by rfl) (Over_nil (y_neq (by rfl) (by rfl))) ?_
    refine P_det (by rfl) (Over_nil (by first | exact y_pick_t (c := .bool _) (by rfl) (by rfl) | exact y_pick_f (c := .bool _) (by rfl) (by rfl))) ?_
    refine P_det (by rfl) (Over_nil (y_move (c := .bool _) (by rfl))) ?_
    refine P_split 16 (by rfl) (fun g1_12 => ?_) (fun g1_12 => ?_)
    ·
      try simp only [Bool.not_eq_true', Bool.not_eq_false', decide_eq_true_eq, decide_eq_false_iff_not, ne_eq, Classical.not_not, Int.not_lt, Int.not_le] at g1_12
      refine P_no (by rfl) ?_
      refine P_no (by rfl) ?_
      refine P_no (by rfl) ?_
      refine P_no (by rfl) ?_
      refine P_det (by rfl) (Over_nil (by first | exact y_pick_t (c := .bool _) (by rfl) (by rfl) | exact y_pick_f (c := .bool _) (by rfl) (by rfl))) ?_
      refine P_det (by rfl) (Over_nil (y_move (c := .bool _) (by rfl))) ?_
      refine P_no (by rfl) ?_
      refine P_no (by rfl) ?_
      refine P_no (by rfl) ?_
      refine P_no (by rfl) ?_
      refine P_no (by rfl) ?_
      refine P_no (by rfl) ?_
      refine P_det (by rfl) (Over_nil (by first | exact y_pick_t (c := .bool _) (by rfl) (by rfl) | exact y_pick_f (c := .bool _) (by rfl) (by rfl))) ?_
      refine PW_end (by rfl) ?_
      refine OverAll_nil ?_
      rintro -
      refine Then_normal ?_
      refine W_cond (by rfl) (fun c1 => ?_) (fun c1 => ?_)
      ·
        try simp only [Bool.not_eq_true', Bool.not_eq_false', decide_eq_true_eq, decide_eq_false_iff_not, ne_eq, Classical.not_not, Int.not_lt, Int.not_le] at c1
        refine W_seq ?_
        refine W_region_lit (fun ds => ?_)
        refine WS_det hF (by rfl) (y_assign (c := .bool _) (by rfl)) ?_
        refine WS_nil ?_
        refine Then_normal ?_
        refine W_ret ?_
        refine Then_ret ?_
        refine Fin_ret [.bool _] [] Tryd.results120 ⟨by rfl, trivial⟩ HSub.nil ?_
        show Value.bool _ = _
        simp [Tk.okB, *]
      · cases c1
    ·
      try simp only [Bool.not_eq_true', Bool.not_eq_false', decide_eq_true_eq, decide_eq_false_iff_not, ne_eq, Classical.not_not, Int.not_lt, Int.not_le] at g1_12
      refine P_det (by rfl) (Over_nil (y_fieldAddr (by rfl) fa61_1)) ?_
      refine P_det (by rfl) (Over_nil (y_load1 (by rfl) Tryd.isAgg3 (Mem.own1 0 (by rfl) (by rfl)))) ?_
      refine P_det (by rfl) (Over_nil (y_callL (by rfl) (by rfl) Tryd.call148 (fun w hw => within_any _ _ _ w))) ?_
      refine P_det (by rfl) (Over_nil (y_not (by rfl))) ?_
      refine P_det (by rfl) (Over_nil (by first | exact y_pick_t (c := .bool _) (by rfl) (by rfl) | exact y_pick_f (c := .bool _) (by rfl) (by rfl))) ?_
      refine P_det (by rfl) (Over_nil (y_move (c := .bool _) (by rfl))) ?_
      refine P_split 22 (by rfl) (fun g1_18 => ?_) (fun g1_18 => ?_)
      ·
        try simp only [Bool.not_eq_true', Bool.not_eq_false', decide_eq_true_eq, decide_eq_false_iff_not, ne_eq, Classical.not_not, Int.not_lt, Int.not_le] at g1_18
        refine P_no (by rfl) ?_
        refine P_no (by rfl) ?_
        refine P_no (by rfl) ?_
        refine P_no (by rfl) ?_
        refine P_no (by rfl) ?_
        refine P_no (by rfl) ?_
        refine P_det (by rfl) (Over_nil (by first | exact y_pick_t (c := .bool _) (by rfl) (by rfl) | exact y_pick_f (c := .bool _) (by rfl) (by rfl))) ?_
        refine PW_end (by rfl) ?_
        refine OverAll_nil ?_
        rintro -
        refine Then_normal ?_
        refine W_cond (by rfl) (fun c1 => ?_) (fun c1 => ?_)
        ·
          try simp only [Bool.not_eq_true', Bool.not_eq_false', decide_eq_true_eq, decide_eq_false_iff_not, ne_eq, Classical.not_not, Int.not_lt, Int.not_le] at c1
          refine W_seq ?_
          refine W_region_lit (fun ds => ?_)
          refine WS_det hF (by rfl) (y_assign (c := .bool _) (by rfl)) ?_
          refine WS_nil ?_
          refine Then_normal ?_
          refine W_ret ?_
          refine Then_ret ?_
          refine Fin_ret [.bool _] [] Tryd.results120 ⟨by rfl, trivial⟩ HSub.nil ?_
          show Value.bool _ = _
          simp [Tk.okB, *]
        · cases c1
      ·
        try simp only [Bool.not_eq_true', Bool.not_eq_false', decide_eq_true_eq, decide_eq_false_iff_not, ne_eq, Classical.not_not, Int.not_lt, Int.not_le] at g1_18
        refine P_det (by rfl) (Over_nil (y_fieldAddr (by rfl) fa61_2)) ?_
        refine P_det (by rfl) (Over_nil (y_load1 (by rfl) Tryd.isAgg3 (Mem.own1 0 (by rfl) (by rfl)))) ?_
        refine P_det (by rfl) (Over_nil (y_loadN (by rfl) Tryd.isAgg61 Tryd.sizeOf61 (Mem.own (us := [.slice _ _ _, .int .i64 _, .int .i64 _]) 0 (by rfl) (by rfl)) (by rfl))) ?_
        refine P_det (by rfl) (Over_nil (y_callL (by rfl) (by rfl) Tryd.call149 (fun w hw => height_any t _ _ w hn))) ?_
        refine P_det (by rfl) (Over_nil (y_callL (by rfl) (by rfl) Tryd.call148 (fun w hw => within_any _ _ _ w))) ?_
        refine P_det (by rfl) (Over_nil (y_not (by rfl))) ?_
        refine P_det (by rfl) (Over_nil (by first | exact y_pick_t (c := .bool _) (by rfl) (by rfl) | exact y_pick_f (c := .bool _) (by rfl) (by rfl))) ?_
        refine PW_end (by rfl) ?_
        refine OverAll_nil ?_
        rintro -
        refine Then_normal ?_
        refine W_cond (by rfl) (fun c1 => ?_) (fun c1 => ?_)
        ·
          try simp only [Bool.not_eq_true', Bool.not_eq_false', decide_eq_true_eq, decide_eq_false_iff_not, ne_eq, Classical.not_not, Int.not_lt, Int.not_le] at c1
          refine W_seq ?_
          refine W_region_lit (fun ds => ?_)
          refine WS_det hF (by rfl) (y_assign (c := .bool _) (by rfl)) ?_
          refine WS_nil ?_
          refine Then_normal ?_
          refine W_ret ?_
          refine Then_ret ?_
          refine Fin_ret [.bool _] [] Tryd.results120 ⟨by rfl, trivial⟩ HSub.nil ?_
          show Value.bool _ = _
          simp [Tk.okB, *]
        ·
          try simp only [Bool.not_eq_true', Bool.not_eq_false', decide_eq_true_eq, decide_eq_false_iff_not, ne_eq, Classical.not_not, Int.not_lt, Int.not_le] at c1
          have hinc0 : t.incB 0 = true := rfl
          have hbd := fun k => t.incB_bd (k := k) g1_12
          refine W_skip ?_
          refine Then_normal ?_
          refine W_seq ?_
          refine W_seq ?_
          refine W_region_lit (fun ds => ?_)
          refine WS_det hF (by rfl) (y_assign (c := .int .i64 _) (by rfl)) ?_
          refine WS_nil ?_
          refine Then_normal ?_
          refine W_block ?_
          refine W_loop (γ := Nat) (fun k => 1 ≤ k ∧ k ≤ t.n ∧ t.incB (k - 1) = true) (fun k => [(3, .int .i64 (k : Int)), (1, .pointer (some ⟨b1, 0, none⟩))]) (fun _ => _) (fun k => t.n - k) (1) ⟨Nat.le_refl _, by omega, hinc0⟩ (by repeat (first | exact trivial | refine ⟨by rfl, ?_⟩)) (List.Sublist.refl _) ?_
          rintro k e ⟨hk1, hk, hinc⟩
          refine W_seq ?_
          refine W_seq ?_
          refine W_region_lit (fun ds => ?_)
          refine WS_det hF (by rfl) (y_move (c := .int .i64 _) (by rfl)) ?_
          refine WS_det hF (by rfl) (y_fieldAddr (by rfl) fa61_0) ?_
          refine WS_det hF (by rfl) (y_load1 (by rfl) Tryd.isAgg22 (Mem.own1 0 (by rfl) (by rfl))) ?_
          refine WS_det hF (by rfl) (y_len (by rfl) Tryd.runUnderlying22) ?_
          refine WS_det hF (by rfl) (y_lss (by rfl) (by rfl)) ?_
          refine WS_nil ?_
          refine Then_normal ?_
          refine W_cond (by rfl) (fun c4 => ?_) (fun c4 => ?_)
          ·
            try simp only [Bool.not_eq_true', Bool.not_eq_false', decide_eq_true_eq, decide_eq_false_iff_not, ne_eq, Classical.not_not, Int.not_lt, Int.not_le] at c4
            have hb := hbd (k - 1) hinc
            have hk0 : At w b (o + (k - 1) * 1) [.int .i64 (t.p (k - 1))] := hx.at (k := k - 1) (by omega)
            have hk1 : At w b (o + k * 1) [.int .i64 (t.p k)] := hx.at (k := k) (by omega)
            refine W_skip ?_
            refine Then_normal ?_
            refine W_seq ?_
            refine W_block ?_
            refine W_seq ?_
            refine W_draw0 hF Trydmixed [] (by decide +kernel) (fun ds => ?_)
            refine P_det (by rfl) (Over_nil (y_fieldAddr (by rfl) fa61_0)) ?_
            refine P_det (by rfl) (Over_nil (y_load1 (by rfl) Tryd.isAgg22 (Mem.own1 0 (by rfl) (by rfl)))) ?_
            refine P_det (by rfl) (Over_nil (y_move (c := .int .i64 _) (by rfl))) ?_
            refine P_det (by rfl) (Over_nil (y_index (k := k) (by rfl) (by rfl) (by first | rfl | omega) (by first | decide | omega) Tryd.runUnderlying22 Tryd.sizeOf3)) ?_
            refine P_det (by rfl) (Over_nil (y_load1 (by rfl) Tryd.isAgg3 (by first | exact Mem.old1 (by assumption) | exact Mem.oldAt1 (by assumption) (by rfl) | exact Mem.old (by assumption) | exact Mem.oldAtL1 (by assumption) (by rfl) (by rfl)))) ?_
            refine P_det (by rfl) (Over_nil (y_fieldAddr (by rfl) fa61_0)) ?_
            refine P_det (by rfl) (Over_nil (y_load1 (by rfl) Tryd.isAgg22 (Mem.own1 0 (by rfl) (by rfl)))) ?_
            refine P_det (by rfl) (Over_nil (y_move (c := .int .i64 _) (by rfl))) ?_
            refine P_det (by rfl) (Over_nil (y_sub (by rfl) (by rfl) (by unfold I64; omega))) ?_
            refine P_det (by rfl) (Over_nil (y_index (k := k - 1) (by rfl) (by rfl) (by first | rfl | omega) (by first | decide | omega) Tryd.runUnderlying22 Tryd.sizeOf3)) ?_
            refine P_det (by rfl) (Over_nil (y_load1 (by rfl) Tryd.isAgg3 (by first | exact Mem.old1 (by assumption) | exact Mem.oldAt1 (by assumption) (by rfl) | exact Mem.old (by assumption) | exact Mem.oldAtL1 (by assumption) (by rfl) (by rfl)))) ?_
            refine P_det (by rfl) (Over_nil (y_add (by rfl) (by rfl) (by unfold I64; omega))) ?_
            refine P_det (by rfl) (Over_nil (y_callL (by rfl) (by rfl) Tryd.call148 (fun w hw => within_any _ _ _ w))) ?_
            refine P_det (by rfl) (Over_nil (y_not (by rfl))) ?_
            refine PW_end (by rfl) ?_
            refine OverAll_nil ?_
            rintro -
            refine Then_normal ?_
            refine W_cond (by rfl) (fun c6 => ?_) (fun c6 => ?_)
            ·
              try simp only [Bool.not_eq_true', Bool.not_eq_false', decide_eq_true_eq, decide_eq_false_iff_not, ne_eq, Classical.not_not, Int.not_lt, Int.not_le] at c6
              have hbad : t.incB (t.n - 1) = false := t.incB_false (k := k - 1) (by omega) (by rw [show k - 1 + 1 = k by omega]; exact c6)
              refine W_seq ?_
              refine W_region_lit (fun ds => ?_)
              refine WS_det hF (by rfl) (y_assign (c := .bool _) (by rfl)) ?_
              refine WS_nil ?_
              refine Then_normal ?_
              refine W_ret ?_
              refine InB_ret ?_
              refine Then_ret ?_
              refine Loop_ret ?_
              refine InB_ret ?_
              refine Then_ret ?_
              refine Fin_ret [.bool _] [] Tryd.results120 ⟨by rfl, trivial⟩ HSub.nil ?_
              show Value.bool _ = _
              simp [Tk.okB, *]
            ·
              try simp only [Bool.not_eq_true', Bool.not_eq_false', decide_eq_true_eq, decide_eq_false_iff_not, ne_eq, Classical.not_not, Int.not_lt, Int.not_le] at c6
              refine W_skip ?_
              refine InB_normal ?_
              refine Then_normal ?_
              refine W_region_lit (fun ds => ?_)
              refine WS_det hF (by rfl) (y_move (c := .int .i64 _) (by rfl)) ?_
              refine WS_det hF (by rfl) (y_add (by rfl) (by rfl) (by unfold I64; omega)) ?_
              refine WS_det hF (by rfl) (y_assign (c := .int .i64 _) (by rfl)) ?_
              refine WS_nil ?_
              exact Loop_next (k + 1) ⟨by omega, by omega, by rw [show k + 1 - 1 = k - 1 + 1 by omega, t.incB_succ, hinc, show k - 1 + 1 = k by omega, c6]; rfl⟩ (by repeat (first | exact trivial | refine ⟨by rfl, ?_⟩)) (by repeat (first | exact List.Sublist.refl _ | exact List.nil_sublist _ | apply List.Sublist.cons_cons | apply List.Sublist.cons)) (by omega)
          ·
            try simp only [Bool.not_eq_true', Bool.not_eq_false', decide_eq_true_eq, decide_eq_false_iff_not, ne_eq, Classical.not_not, Int.not_lt, Int.not_le] at c4
            have hkn : k = t.n := by omega
            subst hkn
            refine W_exit ?_
            refine Then_exit ?_
            refine Loop_exit ?_
            refine InB_same ?_
            refine Then_normal ?_
            refine W_seq ?_
            refine W_region_lit (fun ds => ?_)
            refine WS_det hF (by rfl) (y_assign (c := .bool _) (by rfl)) ?_
            refine WS_nil ?_
            refine Then_normal ?_
            refine W_ret ?_
            refine Fin_ret [.bool _] [] Tryd.results120 ⟨by rfl, trivial⟩ HSub.nil ?_
            show Value.bool _ = _
            simp [Tk.okB, *]

theorem eight_any (t : Tk) (a : Option Addr) (cap : Nat) (x : Int) (w : World) (hn : t.n ≤ 1000000) (hx : Ints w a t.n cap t.pints) (hok : t.Ok) (h0 : 0 ≤ x) (h1 : x ≤ t.height) :
    Ct Tryd.prog 142 #[.agg #[.slice a t.n cap, .int .i64 t.leak, .int .i64 t.foot], .int .i64 x] w fun v _ => v = .int .i64 (t.eight x) := by
  have h2 := hok.n2
  have h3 := hok.n21
  have hh : t.height = 8 * ((t.n : Int) - 1) := rfl
  obtain ⟨i, hi⟩ : ∃ i : Nat, x / 8 = (i : Int) := Int.eq_ofNat_of_zero_le (by omega)
  have hin : i < t.n := by omega
  have hpi := hok.bd i hin
  have hE : t.eight x = 8 * t.p i + if 0 < x % 8 then x % 8 * (t.p (i + 1) - t.p i) else 0 := by
    have hs : t.seg x = min i (t.n - 2) := by unfold Tk.seg; rw [hi]; omega
    unfold Tk.eight
    by_cases he : i = t.n - 1
    · have hx8 : x % 8 = 0 := by omega
      rw [hs, if_neg (by omega), show min i (t.n - 2) = i - 1 by omega, show i - 1 + 1 = i by omega, show x - 8 * ((i - 1 : Nat) : Int) = 8 by omega]
      omega
    · rw [hs, show min i (t.n - 2) = i by omega, show x - 8 * (i : Int) = x % 8 by omega]
      split
      · rfl
      · rw [show x % 8 = 0 by omega]; simp
  obtain ⟨b, o, rfl⟩ := hx.adr (by omega)
  have e0 : At w b (o + i * 1) [.int .i64 (t.p i)] := hx.at (k := i) hin
  have hF := wide_wide
  refine Ct_start (args := [_, _]) Tryd.func142 (by rfl) Tryd.ntmps142 (by rfl) ?_
  refine W_seq ?_
  refine W_region_lit (fun ds => ?_)
  refine WS_new hF (by rfl) (y_box (by rfl)) (fun b1 => ?_)
  refine WS_det hF (by rfl) (y_assign (c := .int .i64 _) (by rfl)) ?_
  refine WS_nil ?_
  refine Then_normal ?_
  refine W_seq ?_
  refine W_region_lit (fun ds => ?_)
  refine WS_det hF (by rfl) (y_move (c := .int .i64 _) (by rfl)) ?_
  refine WS_det hF (by rfl) (y_quo (by rfl) (by rfl) (by omega) (by omega) (by unfold I64; omega)) ?_
  refine WS_det hF (by rfl) (y_move (c := .int .i64 _) (by rfl)) ?_
  refine WS_det hF (by rfl) (y_rem (by rfl) (by rfl) (by omega) (by omega)) ?_
  refine WS_det hF (by rfl) (y_assign (c := .int .i64 _) (by rfl)) ?_
  refine WS_det hF (by rfl) (y_assign (c := .int .i64 _) (by rfl)) ?_
  refine WS_nil ?_
  refine Then_normal ?_
  refine W_seq ?_
  rw [hi]
  refine W_region_lit (fun ds => ?_)
  refine WS_det hF (by rfl) (y_fieldAddr (by rfl) fa61_0) ?_
  refine WS_det hF (by rfl) (y_load1 (by rfl) Tryd.isAgg22 (Mem.own1 0 (by rfl) (by rfl))) ?_
  refine WS_det hF (by rfl) (y_move (c := .int .i64 _) (by rfl)) ?_
  refine WS_det hF (by rfl) (y_index (k := i) (by rfl) (by rfl) (by first | rfl | omega) (by first | decide | omega) Tryd.runUnderlying22 Tryd.sizeOf3) ?_
  refine WS_det hF (by rfl) (y_load1 (by rfl) Tryd.isAgg3 (by first | exact Mem.old1 (by assumption) | exact Mem.oldAt1 (by assumption) (by rfl) | exact Mem.old (by assumption) | exact Mem.oldAtL1 (by assumption) (by rfl) (by rfl))) ?_
  refine WS_det hF (by rfl) (y_mul (by rfl) (by rfl) (by unfold I64; omega)) ?_
  refine WS_det hF (by rfl) (y_assign (c := .int .i64 _) (by rfl)) ?_
  refine WS_nil ?_
  refine Then_normal ?_
  refine W_seq ?_
  refine W_seq ?_
  refine W_region_lit (fun ds => ?_)
  refine WS_det hF (by rfl) (y_move (c := .int .i64 _) (by rfl)) ?_
  refine WS_det hF (by rfl) (y_gtr (by rfl) (by rfl)) ?_
  refine WS_nil ?_
  refine Then_normal ?_
  refine W_cond (by rfl) (fun c3 => ?_) (fun c3 => ?_)
  ·
    try simp only [Bool.not_eq_true', Bool.not_eq_false', decide_eq_true_eq, decide_eq_false_iff_not, ne_eq, Classical.not_not, Int.not_lt, Int.not_le] at c3
    have hi1 : i + 1 < t.n := by omega
    have e1 : At w b (o + (i + 1) * 1) [.int .i64 (t.p (i + 1))] := hx.at (k := i + 1) hi1
    have hpi1 := hok.bd (i + 1) hi1
    have hinc := hok.inc i hi1
    have hm := mul_bd (a := x % 8) (b := t.p (i + 1) - t.p i) (A := 8) (B := 600) (by omega) (by omega) (by omega) (by omega)
    refine W_draw0 hF Trydmixed [] (by decide +kernel) (fun ds => ?_)
    refine P_det (by rfl) (Over_nil (y_move (c := .int .i64 _) (by rfl))) ?_
    refine P_det (by rfl) (Over_nil (y_move (c := .int .i64 _) (by rfl))) ?_
    refine P_det (by rfl) (Over_nil (y_fieldAddr (by rfl) fa61_0)) ?_
    refine P_det (by rfl) (Over_nil (y_load1 (by rfl) Tryd.isAgg22 (Mem.own1 0 (by rfl) (by rfl)))) ?_
    refine P_det (by rfl) (Over_nil (y_move (c := .int .i64 _) (by rfl))) ?_
    refine P_det (by rfl) (Over_nil (y_add (by rfl) (by rfl) (by unfold I64; omega))) ?_
    refine P_det (by rfl) (Over_nil (y_index (k := i + 1) (by rfl) (by rfl) (by first | rfl | omega) (by first | decide | omega) Tryd.runUnderlying22 Tryd.sizeOf3)) ?_
    refine P_det (by rfl) (Over_nil (y_load1 (by rfl) Tryd.isAgg3 (by first | exact Mem.old1 (by assumption) | exact Mem.oldAt1 (by assumption) (by rfl) | exact Mem.old (by assumption) | exact Mem.oldAtL1 (by assumption) (by rfl) (by rfl)))) ?_
    refine P_det (by rfl) (Over_nil (y_fieldAddr (by rfl) fa61_0)) ?_
    refine P_det (by rfl) (Over_nil (y_load1 (by rfl) Tryd.isAgg22 (Mem.own1 0 (by rfl) (by rfl)))) ?_
    refine P_det (by rfl) (Over_nil (y_move (c := .int .i64 _) (by rfl))) ?_
    refine P_det (by rfl) (Over_nil (y_index (k := i) (by rfl) (by rfl) (by first | rfl | omega) (by first | decide | omega) Tryd.runUnderlying22 Tryd.sizeOf3)) ?_
    refine P_det (by rfl) (Over_nil (y_load1 (by rfl) Tryd.isAgg3 (by first | exact Mem.old1 (by assumption) | exact Mem.oldAt1 (by assumption) (by rfl) | exact Mem.old (by assumption) | exact Mem.oldAtL1 (by assumption) (by rfl) (by rfl)))) ?_
    refine P_det (by rfl) (Over_nil (y_sub (by rfl) (by rfl) (by unfold I64; omega))) ?_
    refine P_det (by rfl) (Over_nil (y_mul (by rfl) (by rfl) (by unfold I64; omega))) ?_
    refine P_det (by rfl) (Over_nil (y_add (by rfl) (by rfl) (by unfold I64; omega))) ?_
    refine P_det (by rfl) (Over_nil (y_assign (c := .int .i64 _) (by rfl))) ?_
    refine PW_end (by rfl) ?_
    refine OverAll_nil ?_
    rintro -
    refine Then_normal ?_
    refine W_seq ?_
    refine W_region_lit (fun ds => ?_)
    refine WS_det hF (by rfl) (y_move (c := .int .i64 _) (by rfl)) ?_
    refine WS_det hF (by rfl) (y_assign (c := .int .i64 _) (by rfl)) ?_
    refine WS_nil ?_
    refine Then_normal ?_
    refine W_ret ?_
    refine Fin_ret [.int .i64 _] [] Tryd.results142 ⟨by rfl, trivial⟩ HSub.nil ?_
    show Value.int _ _ = _
    rw [hE, if_pos c3]
  ·
    try simp only [Bool.not_eq_true', Bool.not_eq_false', decide_eq_true_eq, decide_eq_false_iff_not, ne_eq, Classical.not_not, Int.not_lt, Int.not_le] at c3
    refine W_skip ?_
    refine Then_normal ?_
    refine W_seq ?_
    refine W_region_lit (fun ds => ?_)
    refine WS_det hF (by rfl) (y_move (c := .int .i64 _) (by rfl)) ?_
    refine WS_det hF (by rfl) (y_assign (c := .int .i64 _) (by rfl)) ?_
    refine WS_nil ?_
    refine Then_normal ?_
    refine W_ret ?_
    refine Fin_ret [.int .i64 _] [] Tryd.results142 ⟨by rfl, trivial⟩ HSub.nil ?_
    show Value.int _ _ = _
    rw [hE, if_neg (by omega), Int.add_zero]
theorem dipped_any (t : Tk) (a : Option Addr) (cap : Nat) (x y : Int) (w : World) (hn : t.n ≤ 1000000) (hx : Ints w a t.n cap t.pints) (hok : t.Ok) (h0 : 0 ≤ x) (h1 : x ≤ t.height) (h2 : 0 ≤ y) (h3 : y ≤ t.height) :
    Ct Tryd.prog 204 #[.agg #[.slice a t.n cap, .int .i64 t.leak, .int .i64 t.foot], .agg #[.int .i64 x, .int .i64 y]] w fun v _ => v = .agg #[.int .i64 (t.up x), .int .i64 (t.down y)] := by
  have hf := hok.full_bd
  have h8 := hok.eight_bd h0 h1
  have h9 := hok.eight_bd h2 h3
  have hF := wide_wide
  refine Ct_start (args := [_, _]) Tryd.func204 (by rfl) Tryd.ntmps204 (by rfl) ?_
  refine W_seq ?_
  refine W_region_lit (fun ds => ?_)
  refine WS_new hF (by rfl) (y_box (by rfl)) (fun b1 => ?_)
  refine WS_new hF (by rfl) (y_box (by rfl)) (fun b2 => ?_)
  refine WS_new hF (by rfl) (y_alloc Tryd.zeroValue63 (by rfl)) (fun b3 => ?_)
  refine WS_nil ?_
  refine Then_normal ?_
  refine W_seq ?_
  apply W_draw1 hF Trydmixed [1000000] (i := 0) (by rfl) (by decide +kernel)
  intro ds
  refine P_det (by rfl) (Over_out (by rfl) (Over_nil (y_loadN (by rfl) Tryd.isAgg61 Tryd.sizeOf61 (Mem.own (us := [.slice _ _ _, .int .i64 _, .int .i64 _]) 1 (by rfl) (by rfl)) (by rfl)))) ?_
  refine P_det (by rfl) (Over_out (by rfl) (Over_nil (y_fieldAddr (by rfl) fa63_0))) ?_
  refine P_det (by rfl) (Over_out (by rfl) (Over_nil (y_load1 (by rfl) Tryd.isAgg3 (Mem.own1 0 (by rfl) (by rfl))))) ?_
  refine P_det (by rfl) (Over_out (by rfl) (Over_nil (y_callL (by rfl) (by rfl) Tryd.call142 (fun w hw => eight_any t _ _ x w hn (hx.st w hw) hok h0 h1)))) ?_
  refine P_det (by rfl) (Over_out (by rfl) (Over_nil (y_add (by rfl) (by rfl) (by unfold I64; omega)))) ?_
  refine P_det (by rfl) (Over_out (by rfl) (Over_nil (y_quo (by rfl) (by rfl) (by omega) (by omega) (by unfold I64; omega)))) ?_
  refine P_det (by rfl) (Over_out (by rfl) (Over_nil (y_loadN (by rfl) Tryd.isAgg61 Tryd.sizeOf61 (Mem.own (us := [.slice _ _ _, .int .i64 _, .int .i64 _]) 1 (by rfl) (by rfl)) (by rfl)))) ?_
  refine P_det (by rfl) (Over_out (by rfl) (Over_nil (y_fieldAddr (by rfl) fa63_1))) ?_
  refine P_det (by rfl) (Over_out (by rfl) (Over_nil (y_load1 (by rfl) Tryd.isAgg3 (Mem.own1 0 (by rfl) (by rfl))))) ?_
  refine P_det (by rfl) (Over_out (by rfl) (Over_nil (y_callL (by rfl) (by rfl) Tryd.call142 (fun w hw => eight_any t _ _ y w hn (hx.st w hw) hok h2 h3)))) ?_
  refine P_det (by rfl) (Over_out (by rfl) (Over_nil (y_quo (by rfl) (by rfl) (by omega) (by omega) (by unfold I64; omega)))) ?_
  refine P_det (by rfl) (Over_out (by rfl) (Over_nil (y_buildL bd63_0_1 (by rfl)))) ?_
  refine P_st 1000000 0 (by rfl) (by rfl) (by rfl) (by rfl) (by rfl) (Over_nil (st_pre (fun _ => by rfl) (fun _ => by rfl) Tryd.sizeOf63 (by rfl) (by rfl) (by first | decide | exact Nat.le_of_ble_eq_true rfl | simp))) ?_
  refine PW_end (by rfl) ?_
  refine OverAll_cons (fun w1000000 l1000000 => ?_)
  refine OverAll_nil ?_
  rintro ⟨-, h1000000⟩
  obtain rfl := h1000000
  refine Then_normal ?_
  refine W_ret ?_
  refine Fin_ret [_] [] Tryd.results204 ⟨lvN (by rfl) Tryd.isAgg63 Tryd.sizeOf63 (Mem.own (us := [.int .i64 _, .int .i64 _]) 0 (by rfl) (by rfl)) (by rfl), trivial⟩ HSub.nil ?_
  rfl
theorem spanned_any (x y m : Int) (w : World) :
    Ct Tryd.prog 150 #[.agg #[.int .i64 x, .int .i64 y], .int .i64 m] w fun v _ => v = .bool (inB 0 m [x, y] && decide (x ≤ y)) := by
  have hh : (inB 0 m [x, y] && decide (x ≤ y)) = (decide (0 ≤ x) && decide (x ≤ y) && decide (y ≤ m)) := by
    rw [Bool.eq_iff_iff]; simp only [Bool.and_eq_true, inB2, decide_eq_true_eq]; omega
  rw [hh]
  have hF := wide_wide
  refine Ct_start (args := [_, _]) Tryd.func150 (by rfl) Tryd.ntmps150 (by rfl) ?_
  refine W_seq ?_
  refine W_region_lit (fun ds => ?_)
  refine WS_new hF (by rfl) (y_box (by rfl)) (fun b1 => ?_)
  refine WS_det hF (by rfl) (y_assign (c := .bool _) (by rfl)) ?_
  refine WS_nil ?_
  refine Then_normal ?_
  refine W_seq ?_
  refine W_region_lit (fun ds => ?_)
  refine WS_det hF (by rfl) (y_fieldAddr (by rfl) fa63_0) ?_
  refine WS_det hF (by rfl) (y_load1 (by rfl) Tryd.isAgg3 (Mem.own1 0 (by rfl) (by rfl))) ?_
  refine WS_det hF (by rfl) (y_geq (by rfl) (by rfl)) ?_
  refine WS_det hF (by rfl) (y_move (c := .bool _) (by rfl)) ?_
  refine WS_split 8 (by rfl) (fun g1_3 => ?_) (fun g1_3 => ?_)
  ·
    try simp only [Bool.not_eq_true', Bool.not_eq_false', decide_eq_true_eq, decide_eq_false_iff_not, ne_eq, Classical.not_not, Int.not_lt, Int.not_le] at g1_3
    refine WS_det hF (by rfl) (y_fieldAddr (by rfl) fa63_0) ?_
    refine WS_det hF (by rfl) (y_load1 (by rfl) Tryd.isAgg3 (Mem.own1 0 (by rfl) (by rfl))) ?_
    refine WS_det hF (by rfl) (y_fieldAddr (by rfl) fa63_1) ?_
    refine WS_det hF (by rfl) (y_load1 (by rfl) Tryd.isAgg3 (Mem.own1 0 (by rfl) (by rfl))) ?_
    refine WS_det hF (by rfl) (y_leq (by rfl) (by rfl)) ?_
    refine WS_det hF (by rfl) (by first | exact y_pick_t (c := .bool _) (by rfl) (by rfl) | exact y_pick_f (c := .bool _) (by rfl) (by rfl)) ?_
    refine WS_det hF (by rfl) (y_move (c := .bool _) (by rfl)) ?_
    refine WS_split 15 (by rfl) (fun g1_10 => ?_) (fun g1_10 => ?_)
    ·
      try simp only [Bool.not_eq_true', Bool.not_eq_false', decide_eq_true_eq, decide_eq_false_iff_not, ne_eq, Classical.not_not, Int.not_lt, Int.not_le] at g1_10
      refine WS_det hF (by rfl) (y_fieldAddr (by rfl) fa63_1) ?_
      refine WS_det hF (by rfl) (y_load1 (by rfl) Tryd.isAgg3 (Mem.own1 0 (by rfl) (by rfl))) ?_
      refine WS_det hF (by rfl) (y_move (c := .int .i64 _) (by rfl)) ?_
      refine WS_det hF (by rfl) (y_leq (by rfl) (by rfl)) ?_
      refine WS_det hF (by rfl) (by first | exact y_pick_t (c := .bool _) (by rfl) (by rfl) | exact y_pick_f (c := .bool _) (by rfl) (by rfl)) ?_
      refine WS_det hF (by rfl) (y_assign (c := .bool _) (by rfl)) ?_
      refine WS_nil ?_
      refine Then_normal ?_
      refine W_ret ?_
      refine Fin_ret [.bool _] [] Tryd.results150 ⟨by rfl, trivial⟩ HSub.nil ?_
      show Value.bool _ = _
      simp [*] <;> omega
    ·
      try simp only [Bool.not_eq_true', Bool.not_eq_false', decide_eq_true_eq, decide_eq_false_iff_not, ne_eq, Classical.not_not, Int.not_lt, Int.not_le] at g1_10
      refine WS_no hF (by rfl) ?_
      refine WS_no hF (by rfl) ?_
      refine WS_no hF (by rfl) ?_
      refine WS_no hF (by rfl) ?_
      refine WS_det hF (by rfl) (by first | exact y_pick_t (c := .bool _) (by rfl) (by rfl) | exact y_pick_f (c := .bool _) (by rfl) (by rfl)) ?_
      refine WS_det hF (by rfl) (y_assign (c := .bool _) (by rfl)) ?_
      refine WS_nil ?_
      refine Then_normal ?_
      refine W_ret ?_
      refine Fin_ret [.bool _] [] Tryd.results150 ⟨by rfl, trivial⟩ HSub.nil ?_
      show Value.bool _ = _
      simp [*] <;> omega
  ·
    try simp only [Bool.not_eq_true', Bool.not_eq_false', decide_eq_true_eq, decide_eq_false_iff_not, ne_eq, Classical.not_not, Int.not_lt, Int.not_le] at g1_3
    refine WS_no hF (by rfl) ?_
    refine WS_no hF (by rfl) ?_
    refine WS_no hF (by rfl) ?_
    refine WS_no hF (by rfl) ?_
    refine WS_no hF (by rfl) ?_
    refine WS_det hF (by rfl) (by first | exact y_pick_t (c := .bool _) (by rfl) (by rfl) | exact y_pick_f (c := .bool _) (by rfl) (by rfl)) ?_
    refine WS_det hF (by rfl) (y_move (c := .bool _) (by rfl)) ?_
    refine WS_no hF (by rfl) ?_
    refine WS_no hF (by rfl) ?_
    refine WS_no hF (by rfl) ?_
    refine WS_no hF (by rfl) ?_
    refine WS_det hF (by rfl) (by first | exact y_pick_t (c := .bool _) (by rfl) (by rfl) | exact y_pick_f (c := .bool _) (by rfl) (by rfl)) ?_
    refine WS_det hF (by rfl) (y_assign (c := .bool _) (by rfl)) ?_
    refine WS_nil ?_
    refine Then_normal ?_
    refine W_ret ?_
    refine Fin_ret [.bool _] [] Tryd.results150 ⟨by rfl, trivial⟩ HSub.nil ?_
    show Value.bool _ = _
    simp [*] <;> omega

end Go.Proofs.YtjekjehgmljbgaaDoor.T

/- The reference of Eighth. -/
namespace Go.Proofs.YtjekjehgmljbgaaDoor.T
open Go.RowKit Go.Proofs Go.Eng
set_option maxRecDepth 100000
set_option maxHeartbeats 1000000
set_option linter.unusedVariables false
set_option linter.unusedSimpArgs false



end Go.Proofs.YtjekjehgmljbgaaDoor.T

/- Walks: GreatTank, TwinTank, SameInts. -/
namespace Go.Proofs.YtjekjehgmljbgaaDoor.T
open Go.RowKit Go.Proofs Go.Eng
set_option maxRecDepth 100000
set_option maxHeartbeats 1000000
set_option linter.unusedVariables false
set_option linter.unusedSimpArgs false

theorem bd61_0_1_2 {x0a : Option Addr} {x0l x0c : Nat} {x1 : Int} {x2 : Int} : ∀ w, (Instr.build 61 #[(0, .slice x0a x0l x0c), (1, .int .i64 x1), (2, .int .i64 x2)]).run Tryd.prog w = .ok (.agg #[.slice x0a x0l x0c, .int .i64 x1, .int .i64 x2]) w := fun w => by kernel_rfl
theorem bs22_0  : ∀ w, (Instr.buildSlice 22 0 #[]).run Tryd.prog w = .ok (.slice (some ⟨w.heap.size, 0, none⟩) 0 0) (w.alloc (CB [] 3)) := fun w => by kernel_rfl

theorem greatTank_any (t : Tk) (a : Option Addr) (cap : Nat) (w : World) :
    Ct Tryd.prog 75 #[.agg #[.slice a t.n cap, .int .i64 t.leak, .int .i64 t.foot]] w fun v _ => v = .bool (decide ((t.n : Int) > 40)) := by
  have hF := wide_wide
  refine Ct_start (args := [_]) Tryd.func75 (by rfl) Tryd.ntmps75 (by rfl) ?_
  refine W_seq ?_
  refine W_region_lit (fun ds => ?_)
  refine WS_new hF (by rfl) (y_box (by rfl)) (fun b1 => ?_)
  refine WS_det hF (by rfl) (y_assign (c := .bool _) (by rfl)) ?_
  refine WS_nil ?_
  refine Then_normal ?_
  refine W_seq ?_
  refine W_region_lit (fun ds => ?_)
  refine WS_det hF (by rfl) (y_fieldAddr (by rfl) fa61_0) ?_
  refine WS_det hF (by rfl) (y_load1 (by rfl) Tryd.isAgg22 (Mem.own1 0 (by rfl) (by rfl))) ?_
  refine WS_det hF (by rfl) (y_len (by rfl) Tryd.runUnderlying22) ?_
  refine WS_det hF (by rfl) (y_gtr (by rfl) (by rfl)) ?_
  refine WS_det hF (by rfl) (y_assign (c := .bool _) (by rfl)) ?_
  refine WS_nil ?_
  refine Then_normal ?_
  refine W_ret ?_
  refine Fin_ret [.bool _] [] Tryd.results75 ⟨by rfl, trivial⟩ HSub.nil ?_
  rfl
/-- A tank in new memory. -/
def TwinV (t : Tk) (v : Value) (Hn : List Blk) : Prop := ∃ a cap, v = .agg #[.slice a t.n cap, .int .i64 t.leak, .int .i64 t.foot] ∧ NewRow 3 1 t.n (iv t.pints) (.slice a t.n cap) Hn
theorem twinTank_any (t : Tk) (a : Option Addr) (cap : Nat) (w : World) (hn : t.n ≤ 1000000) (hx : Ints w a t.n cap t.pints) :
    Ct Tryd.prog 76 #[.agg #[.slice a t.n cap, .int .i64 t.leak, .int .i64 t.foot]] w (TwinV t) := by
  have hlen : (iv t.pints).length = t.n * 1 := by rw [Nat.mul_one]; exact (List.length_map _).trans hx.len
  have hF := wide_wide
  refine Ct_start (args := [_]) Tryd.func76 (by rfl) Tryd.ntmps76 (by rfl) ?_
  refine W_seq ?_
  refine W_region_lit (fun ds => ?_)
  refine WS_new hF (by rfl) (y_box (by rfl)) (fun b1 => ?_)
  refine WS_new hF (by rfl) (y_alloc Tryd.zeroValue61 (by rfl)) (fun b2 => ?_)
  refine WS_nil ?_
  refine Then_normal ?_
  refine W_seq ?_
  apply W_draw1D hF Trydmixed [1000000] 11 _ (i := 0) (by rfl) (by decide +kernel)
  intro ds
  refine P_new (by rfl) (by rfl) (Over_out (by rfl) (Over_nil (y_buildSliceL bs22_0 (by rfl)))) ?_
  refine P_det (by rfl) (Over_out (by rfl) (Over_out (by rfl) (Over_nil (y_fieldAddr (by rfl) fa61_0)))) ?_
  refine P_det (by rfl) (Over_out (by rfl) (Over_out (by rfl) (Over_nil (y_load1 (by rfl) Tryd.isAgg22 (Mem.own1 0 (by rfl) (by rfl)))))) ?_
  refine P_new (by rfl) (by rfl) (Over_in (by rfl) (Over_out (by rfl) (Over_nil (by rintro _ _ ⟨b4, rfl, rfl⟩; exact (y_append0 (by rfl) (by rfl) Tryd.underlying22 infInt (by rfl) hx.src hlen (by omega) (by omega)))))) ?_
  refine P_det (by rfl) (Over_out (by rfl) (Over_out (by rfl) (Over_out (by rfl) (Over_nil (y_fieldAddr (by rfl) fa61_1))))) ?_
  refine P_det (by rfl) (Over_out (by rfl) (Over_out (by rfl) (Over_out (by rfl) (Over_nil (y_load1 (by rfl) Tryd.isAgg3 (Mem.own1 0 (by rfl) (by rfl))))))) ?_
  refine P_det (by rfl) (Over_out (by rfl) (Over_out (by rfl) (Over_out (by rfl) (Over_nil (y_fieldAddr (by rfl) fa61_2))))) ?_
  refine P_det (by rfl) (Over_out (by rfl) (Over_out (by rfl) (Over_out (by rfl) (Over_nil (y_load1 (by rfl) Tryd.isAgg3 (Mem.own1 0 (by rfl) (by rfl))))))) ?_
  refine P_ali [6] (aggP [.inr 6, .inl _, .inl _]) (by rfl) (by rfl) (by rfl) (aggP_congr (by rfl)) (Over_in (by rfl) (Over_out (by rfl) (Over_out (by rfl) (Over_nil (by rintro _ l6 ⟨ab6, cb6, rfl, hleb6, hrowb6⟩; exact (YD0_of (y_buildL bd61_0_1_2 (by rfl)))))))) ?_
  refine P_st 1000000 3 (by rfl) (by rfl) (by rfl) (by rfl) (by rfl) (Over_in (by rfl) (Over_in (by rfl) (Over_out (by rfl) (Over_nil (by rintro _ l6 ⟨ab8, cb8, rfl, hleb8, hrowb8⟩; rintro vb9 _ ⟨hvb9, rfl⟩; replace hvb9 : vb9 = .agg #[.slice _ _ _, .int .i64 _, .int .i64 _] := hvb9; subst hvb9; exact (st_preD (fun _ => by rfl) (by rfl) (by rfl) Tryd.sizeOf61 (by rfl) (by rfl) (by first | decide | exact Nat.le_of_ble_eq_true rfl | simp))))))) ?_
  refine PW_end (by rfl) ?_
  refine OverAll_cons (fun w11 l11 => ?_)
  refine OverAll_cons (fun w6 l6 => ?_)
  refine OverAll_cons (fun w3 l3 => ?_)
  refine OverAll_cons (fun w1000000 l1000000 => ?_)
  refine OverAll_nil ?_
  rintro ⟨⟨⟨⟨-, h11⟩, h6⟩, h3⟩, h1000000⟩
  obtain ⟨b3, rfl, rfl⟩ := h3
  obtain ⟨ab5, cb5, rfl, hleb5, hrowb5⟩ := h6
  obtain ⟨h11, rfl⟩ := h11
  replace h11 : w11 = .agg #[.slice _ _ _, .int .i64 _, .int .i64 _] := h11
  subst h11
  obtain rfl := h1000000
  refine Then_normal ?_
  refine W_ret ?_
  refine Fin_ret [_] l6 Tryd.results76 ⟨lvN (by rfl) Tryd.isAgg61 Tryd.sizeOf61 (Mem.own (us := [.slice _ _ _, .int .i64 _, .int .i64 _]) 0 (by rfl) (by rfl)) (by rfl), trivial⟩ (HSub.sub (by repeat (first | exact List.Sublist.refl _ | exact List.sublist_append_left _ _ | exact List.nil_sublist _ | apply List.Sublist.cons_cons | apply List.Sublist.cons | refine List.Sublist.trans ?_ (List.sublist_append_right _ _)))) ?_
  exact ⟨_, _, rfl, _, _, rfl, by assumption, by assumption⟩
theorem sameInts_any (a a' : Option Addr) (n n' cap cap' : Nat) (xs ys : List Int) (w : World) (hn : n ≤ 1000000) (hx : Ints w a n cap xs) (hy : Ints w a' n' cap' ys) :
    Ct Tryd.prog 85 #[.slice a n cap, .slice a' n' cap'] w fun v _ => v = .bool (decide (xs = ys)) := by
  have hF := wide_wide
  refine Ct_start (args := [_, _]) Tryd.func85 (by rfl) Tryd.ntmps85 (by rfl) ?_
  refine W_seq ?_
  refine W_region_lit (fun ds => ?_)
  refine WS_det hF (by rfl) (y_assign (c := .bool _) (by rfl)) ?_
  refine WS_nil ?_
  refine Then_normal ?_
  refine W_seq ?_
  refine W_seq ?_
  refine W_region_lit (fun ds => ?_)
  refine WS_det hF (by rfl) (y_move (c := .slice _ _ _) (by rfl)) ?_
  refine WS_det hF (by rfl) (y_len (by rfl) Tryd.runUnderlying22) ?_
  refine WS_det hF (by rfl) (y_move (c := .slice _ _ _) (by rfl)) ?_
  refine WS_det hF (by rfl) (y_len (by rfl) Tryd.runUnderlying22) ?_
  refine WS_det hF (by rfl) (y_neq (by rfl) (by rfl)) ?_
  refine WS_nil ?_
  refine Then_normal ?_
  refine W_cond (by rfl) (fun c1 => ?_) (fun c1 => ?_)
  ·
    try simp only [Bool.not_eq_true', Bool.not_eq_false', decide_eq_true_eq, decide_eq_false_iff_not, ne_eq, Classical.not_not, Int.not_lt, Int.not_le] at c1
    refine W_seq ?_
    refine W_region_lit (fun ds => ?_)
    refine WS_det hF (by rfl) (y_assign (c := .bool _) (by rfl)) ?_
    refine WS_nil ?_
    refine Then_normal ?_
    refine W_ret ?_
    refine Then_ret ?_
    refine Fin_ret [.bool _] [] Tryd.results85 ⟨by rfl, trivial⟩ HSub.nil ?_
    show Value.bool _ = _
    rw [decide_eq_false]
    intro h
    have h1 := hx.len
    have h2 := hy.len
    rw [h] at h1
    omega
  ·
    try simp only [Bool.not_eq_true', Bool.not_eq_false', decide_eq_true_eq, decide_eq_false_iff_not, ne_eq, Classical.not_not, Int.not_lt, Int.not_le] at c1
    obtain rfl : n = n' := by omega
    refine W_skip ?_
    refine Then_normal ?_
    refine W_seq ?_
    refine W_seq ?_
    refine W_region_lit (fun ds => ?_)
    refine WS_det hF (by rfl) (y_assign (c := .int .i64 _) (by rfl)) ?_
    refine WS_nil ?_
    refine Then_normal ?_
    refine W_block ?_
    refine W_loop (γ := Nat) (fun k => k ≤ n ∧ ∀ j, j < k → xs.getD j 0 = ys.getD j 0) (fun k => [(5, .int .i64 (k : Int)), (0, .slice a n cap), (1, .slice a' n cap')]) (fun _ => _) (fun k => n - k) (0) ⟨Nat.zero_le _, fun j h => absurd h (Nat.not_lt_zero _)⟩ (by repeat (first | exact trivial | refine ⟨by rfl, ?_⟩)) (List.Sublist.refl _) ?_
    rintro k e ⟨hk, hj⟩
    refine W_seq ?_
    refine W_seq ?_
    refine W_region_lit (fun ds => ?_)
    refine WS_det hF (by rfl) (y_move (c := .int .i64 _) (by rfl)) ?_
    refine WS_det hF (by rfl) (y_move (c := .slice _ _ _) (by rfl)) ?_
    refine WS_det hF (by rfl) (y_len (by rfl) Tryd.runUnderlying22) ?_
    refine WS_det hF (by rfl) (y_lss (by rfl) (by rfl)) ?_
    refine WS_nil ?_
    refine Then_normal ?_
    refine W_cond (by rfl) (fun c4 => ?_) (fun c4 => ?_)
    ·
      try simp only [Bool.not_eq_true', Bool.not_eq_false', decide_eq_true_eq, decide_eq_false_iff_not, ne_eq, Classical.not_not, Int.not_lt, Int.not_le] at c4
      obtain ⟨b, o, rfl, h1⟩ := hx.cell k (by omega)
      obtain ⟨b', o', rfl, h2⟩ := hy.cell k (by omega)
      refine W_skip ?_
      refine Then_normal ?_
      refine W_seq ?_
      refine W_block ?_
      refine W_seq ?_
      refine W_draw0 hF Trydmixed [] (by decide +kernel) (fun ds => ?_)
      refine P_det (by rfl) (Over_nil (y_move (c := .slice _ _ _) (by rfl))) ?_
      refine P_det (by rfl) (Over_nil (y_move (c := .int .i64 _) (by rfl))) ?_
      refine P_det (by rfl) (Over_nil (y_index (k := k) (by rfl) (by rfl) (by first | rfl | omega) (by first | decide | omega) Tryd.runUnderlying22 Tryd.sizeOf3)) ?_
      refine P_det (by rfl) (Over_nil (y_load1 (by rfl) Tryd.isAgg3 (by first | exact Mem.old1 (by assumption) | exact Mem.oldAt1 (by assumption) (by rfl) | exact Mem.old (by assumption) | exact Mem.oldAtL1 (by assumption) (by rfl) (by rfl)))) ?_
      refine P_det (by rfl) (Over_nil (y_move (c := .slice _ _ _) (by rfl))) ?_
      refine P_det (by rfl) (Over_nil (y_move (c := .int .i64 _) (by rfl))) ?_
      refine P_det (by rfl) (Over_nil (y_index (k := k) (by rfl) (by rfl) (by first | rfl | omega) (by first | decide | omega) Tryd.runUnderlying22 Tryd.sizeOf3)) ?_
      refine P_det (by rfl) (Over_nil (y_load1 (by rfl) Tryd.isAgg3 (by first | exact Mem.old1 (by assumption) | exact Mem.oldAt1 (by assumption) (by rfl) | exact Mem.old (by assumption) | exact Mem.oldAtL1 (by assumption) (by rfl) (by rfl)))) ?_
      refine P_det (by rfl) (Over_nil (y_neq (by rfl) (by rfl))) ?_
      refine PW_end (by rfl) ?_
      refine OverAll_nil ?_
      rintro -
      refine Then_normal ?_
      refine W_cond (by rfl) (fun c6 => ?_) (fun c6 => ?_)
      ·
        try simp only [Bool.not_eq_true', Bool.not_eq_false', decide_eq_true_eq, decide_eq_false_iff_not, ne_eq, Classical.not_not, Int.not_lt, Int.not_le] at c6
        refine W_seq ?_
        refine W_region_lit (fun ds => ?_)
        refine WS_det hF (by rfl) (y_assign (c := .bool _) (by rfl)) ?_
        refine WS_nil ?_
        refine Then_normal ?_
        refine W_ret ?_
        refine InB_ret ?_
        refine Then_ret ?_
        refine Loop_ret ?_
        refine InB_ret ?_
        refine Then_ret ?_
        refine Fin_ret [.bool _] [] Tryd.results85 ⟨by rfl, trivial⟩ HSub.nil ?_
        show Value.bool _ = _
        rw [decide_eq_false]
        intro h
        exact c6 (by rw [h])
      ·
        try simp only [Bool.not_eq_true', Bool.not_eq_false', decide_eq_true_eq, decide_eq_false_iff_not, ne_eq, Classical.not_not, Int.not_lt, Int.not_le] at c6
        refine W_skip ?_
        refine InB_normal ?_
        refine Then_normal ?_
        refine W_region_lit (fun ds => ?_)
        refine WS_det hF (by rfl) (y_move (c := .int .i64 _) (by rfl)) ?_
        refine WS_det hF (by rfl) (y_add (by rfl) (by rfl) (by unfold I64; omega)) ?_
        refine WS_det hF (by rfl) (y_assign (c := .int .i64 _) (by rfl)) ?_
        refine WS_nil ?_
        exact Loop_next (k + 1) ⟨by omega, fun j h => by by_cases hjk : j = k; (subst hjk; exact c6); exact hj j (by omega)⟩ (by repeat (first | exact trivial | refine ⟨by rfl, ?_⟩)) (by repeat (first | exact List.Sublist.refl _ | exact List.nil_sublist _ | apply List.Sublist.cons_cons | apply List.Sublist.cons)) (by omega)
    ·
      try simp only [Bool.not_eq_true', Bool.not_eq_false', decide_eq_true_eq, decide_eq_false_iff_not, ne_eq, Classical.not_not, Int.not_lt, Int.not_le] at c4
      refine W_exit ?_
      refine Then_exit ?_
      refine Loop_exit ?_
      refine InB_same ?_
      refine Then_normal ?_
      refine W_seq ?_
      refine W_region_lit (fun ds => ?_)
      refine WS_det hF (by rfl) (y_assign (c := .bool _) (by rfl)) ?_
      refine WS_nil ?_
      refine Then_normal ?_
      refine W_ret ?_
      refine Fin_ret [.bool _] [] Tryd.results85 ⟨by rfl, trivial⟩ HSub.nil ?_
      show Value.bool _ = _
      rw [decide_eq_true]
      have hkn : k = n := by omega
      subst hkn
      refine List.ext_getElem (hx.len.trans hy.len.symm) fun j h1 h2 => ?_
      have := hj j (by rw [← hx.len]; exact h1)
      simpa [List.getD_eq_getElem?_getD, h1, h2] using this
end Go.Proofs.YtjekjehgmljbgaaDoor.T

/- The walk of the law TankTables. -/
namespace Go.Proofs.YtjekjehgmljbgaaDoor.T
open Go.RowKit Go.Proofs Go.Eng
set_option maxRecDepth 100000
set_option maxHeartbeats 1000000
set_option linter.unusedVariables false
set_option linter.unusedSimpArgs false



end Go.Proofs.YtjekjehgmljbgaaDoor.T

/- Spans, entries, logs in memory; the forms of entries. -/
namespace Go.Proofs.YtjekjehgmljbgaaDoor.T
open Go.RowKit Go.Proofs Go.Eng
set_option maxRecDepth 100000
set_option maxHeartbeats 1000000
set_option linter.unusedVariables false
set_option linter.unusedSimpArgs false

theorem bd186_0_1_2 {x0f : Go.Fn} {x0x x0y : Array Value} {x1f : Go.Fn} {x1x x1y : Array Value} {x2f : Go.Fn} {x2x x2y : Array Value} : ∀ w, (Instr.build 186 #[(0, .func x0f x0x x0y), (1, .func x1f x1x x1y), (2, .func x2f x2x x2y)]).run Tryd.prog w = .ok (.agg #[.func x0f x0x x0y, .func x1f x1x x1y, .func x2f x2x x2y]) w := fun w => by kernel_rfl
theorem bd187_1_2_3 {x1_0 : Value} {x1_1 : Value} {x1_2 : Value} {x2_0 : Value} {x2_1 : Value} {x2_2 : Value} {x3_0 : Value} {x3_1 : Value} {x3_2 : Value} : ∀ w, (Instr.build 187 #[(1, .agg #[x1_0, x1_1, x1_2]), (2, .agg #[x2_0, x2_1, x2_2]), (3, .agg #[x3_0, x3_1, x3_2])]).run Tryd.prog w = .ok (.agg #[.nilFunc, .nilFunc, .nilFunc, x1_0, x1_1, x1_2, x2_0, x2_1, x2_2, x3_0, x3_1, x3_2]) w := fun w => by kernel_rfl
theorem bd63_1 {x1 : Int} : ∀ w, (Instr.build 63 #[(1, .int .i64 x1)]).run Tryd.prog w = .ok (.agg #[.int .i64 0, .int .i64 x1]) w := fun w => by kernel_rfl
theorem fa191_1 : ∀ b o w, (Instr.fieldAt 191 (.pointer (some ⟨b, o, none⟩)) 1).run Tryd.prog w = .ok (.pointer (some ⟨b, o + 3, none⟩)) w := fun b o w => by kernel_rfl

structure Sn where
  lo : Int
  hi : Int
deriving DecidableEq
def Sn.cells (s : Sn) : List Value := [.int .i64 s.lo, .int .i64 s.hi]
def Sn.z : Sn := ⟨0, 0⟩
structure En where
  day : Int
  kind : Int
  size : Sn
deriving DecidableEq
def En.cells (x : En) : List Value := [.int .i64 x.day, .int .i64 x.kind, .int .i64 x.size.lo, .int .i64 x.size.hi]
def En.z : En := ⟨0, 0, Sn.z⟩
abbrev Ens := Rws En.cells 4 En.z
abbrev Sns := Rws Sn.cells 2 Sn.z
structure Lg where
  tk : Tk
  start : Sn
  es : List En
def Sn.met (a b : Sn) : Sn := ⟨max a.lo b.lo, min a.hi b.hi⟩
def Sn.inB (s : Sn) (m : Int) : Bool := T.inB 0 m [s.lo, s.hi] && decide (s.lo ≤ s.hi)
def Tk.dip (t : Tk) (s : Sn) : Sn := ⟨t.up s.lo, t.down s.hi⟩
def Tk.all (t : Tk) : Sn := ⟨0, t.full⟩
def Sn.add (a b : Sn) : Sn := ⟨a.lo + b.lo, a.hi + b.hi⟩
def Sn.sub (a b : Sn) : Sn := ⟨a.lo - b.hi, a.hi - b.lo⟩
/-- Small enough for sums. -/
def Sn.Sm (s : Sn) : Prop := -1000000000 ≤ s.lo ∧ s.lo ≤ 1000000000 ∧ -1000000000 ≤ s.hi ∧ s.hi ≤ 1000000000

def formsV : List Value := [.nilFunc, .nilFunc, .nilFunc, .func (.func 172) #[] #[], .func (.func 173) #[] #[], .func (.func 174) #[] #[],
  .func (.func 172) #[] #[], .func (.func 174) #[] #[], .func (.func 173) #[] #[], .func (.func 175) #[] #[], .func (.func 176) #[] #[], .func (.func 176) #[] #[]]

theorem forms_any (w : World) : Ct Tryd.prog 144 #[] w fun v _ => v = .agg formsV.toArray := by
  have hF := wide_wide
  refine Ct_start (args := []) Tryd.func144 (by rfl) Tryd.ntmps144 (by rfl) ?_
  refine W_seq ?_
  refine W_region_lit (fun ds => ?_)
  refine WS_new hF (by rfl) (y_alloc Tryd.zeroValue187 (by rfl)) (fun b1 => ?_)
  refine WS_nil ?_
  refine Then_normal ?_
  refine W_seq ?_
  refine W_region_lit (fun ds => ?_)
  refine WS_det hF (by rfl) (y_assign (c := _) (by rfl)) ?_
  refine WS_nil ?_
  refine Then_normal ?_
  refine W_seq ?_
  refine W_region_lit (fun ds => ?_)
  refine WS_det hF (by rfl) (y_move (c := _) (by rfl)) ?_
  refine WS_det hF (by rfl) (y_buildL bd186_0_1_2 (by rfl)) ?_
  refine WS_det hF (by rfl) (y_move (c := _) (by rfl)) ?_
  refine WS_det hF (by rfl) (y_buildL bd186_0_1_2 (by rfl)) ?_
  refine WS_det hF (by rfl) (y_buildL bd186_0_1_2 (by rfl)) ?_
  refine WS_det hF (by rfl) (y_buildL bd187_1_2_3 (by rfl)) ?_
  refine WS_store hF (i := 0) (by rfl) (by rfl) Tryd.sizeOf187 (by rfl) (by rfl) (by rfl) (by first | decide | exact Nat.le_of_ble_eq_true rfl | simp) ?_
  refine WS_nil ?_
  refine Then_normal ?_
  refine W_ret ?_
  refine Fin_ret [_] [] Tryd.results144 ⟨lvN (by rfl) Tryd.isAgg187 Tryd.sizeOf187 (Mem.own (us := [_, _, _, _, _, _, _, _, _, _, _, _]) 0 (by rfl) (by rfl)) (by rfl), trivial⟩ HSub.nil ?_
  rfl
theorem forms1_any (g og : Nat) (t : Tk) (x y : Int) (w : World) (hG : Gg w g og t) :
    Ct Tryd.prog 172 #[.pointer (some ⟨g, og, none⟩), .agg #[.int .i64 x, .int .i64 y]] w fun v _ => v = .bool (Sn.inB ⟨x, y⟩ t.full) := by
  obtain ⟨hok, a, cap, hg, hx⟩ := hG
  have hF := wide_wide
  refine Ct_start (args := [_, _]) Tryd.func172 (by rfl) Tryd.ntmps172 (by rfl) ?_
  refine W_seq ?_
  refine W_region_lit (fun ds => ?_)
  refine WS_new hF (by rfl) (y_box (by rfl)) (fun b1 => ?_)
  refine WS_det hF (by rfl) (y_assign (c := .bool _) (by rfl)) ?_
  refine WS_nil ?_
  refine Then_normal ?_
  refine W_seq ?_
  refine W_draw0 hF Trydmixed [] (by decide +kernel) (fun ds => ?_)
  refine P_det (by rfl) (Over_nil (y_loadN (by rfl) Tryd.isAgg63 Tryd.sizeOf63 (Mem.own (us := [.int .i64 _, .int .i64 _]) 0 (by rfl) (by rfl)) (by rfl))) ?_
  refine P_det (by rfl) (Over_nil (y_move (c := .pointer _) (by rfl))) ?_
  refine P_det (by rfl) (Over_nil (by first | exact y_nilCheck (by rfl) | exact y_nilCheckF (by rfl))) ?_
  refine P_det (by rfl) (Over_nil (y_fieldAddr (by rfl) fa191_1)) ?_
  refine P_det (by rfl) (Over_nil (y_load1 (by rfl) Tryd.isAgg3 (by first | exact Mem.old1 (by assumption) | exact Mem.oldAt1 (by assumption) (by rfl) | exact Mem.old (by assumption) | exact Mem.oldAtL1 (by assumption) (by rfl) (by rfl)))) ?_
  refine P_det (by rfl) (Over_nil (y_callL (by rfl) (by rfl) Tryd.call145 (fun w hw => span_any _ _ _ w))) ?_
  refine P_det (by rfl) (Over_nil (y_assign (c := .bool _) (by rfl))) ?_
  refine PW_end (by rfl) ?_
  refine OverAll_nil ?_
  rintro -
  refine Then_normal ?_
  refine W_ret ?_
  refine Fin_ret [.bool _] [] Tryd.results172 ⟨by rfl, trivial⟩ HSub.nil ?_
  rfl
theorem forms2_any (g og : Nat) (t : Tk) (x y : Int) (w : World) (hG : Gg w g og t) :
    Ct Tryd.prog 175 #[.pointer (some ⟨g, og, none⟩), .agg #[.int .i64 x, .int .i64 y]] w fun v _ => v = .bool (Sn.inB ⟨x, y⟩ t.height) := by
  obtain ⟨hok, a, cap, hg, hx⟩ := hG
  have hF := wide_wide
  refine Ct_start (args := [_, _]) Tryd.func175 (by rfl) Tryd.ntmps175 (by rfl) ?_
  refine W_seq ?_
  refine W_region_lit (fun ds => ?_)
  refine WS_new hF (by rfl) (y_box (by rfl)) (fun b1 => ?_)
  refine WS_det hF (by rfl) (y_assign (c := .bool _) (by rfl)) ?_
  refine WS_nil ?_
  refine Then_normal ?_
  refine W_seq ?_
  refine W_draw0 hF Trydmixed [] (by decide +kernel) (fun ds => ?_)
  refine P_det (by rfl) (Over_nil (y_loadN (by rfl) Tryd.isAgg63 Tryd.sizeOf63 (Mem.own (us := [.int .i64 _, .int .i64 _]) 0 (by rfl) (by rfl)) (by rfl))) ?_
  refine P_det (by rfl) (Over_nil (y_move (c := .pointer _) (by rfl))) ?_
  refine P_det (by rfl) (Over_nil (by first | exact y_nilCheck (by rfl) | exact y_nilCheckF (by rfl))) ?_
  refine P_det (by rfl) (Over_nil (y_fieldAddr (by rfl) fa191_2)) ?_
  refine P_det (by rfl) (Over_nil (y_load1 (by rfl) Tryd.isAgg3 (by first | exact Mem.old1 (by assumption) | exact Mem.oldAt1 (by assumption) (by rfl) | exact Mem.old (by assumption) | exact Mem.oldAtL1 (by assumption) (by rfl) (by rfl)))) ?_
  refine P_det (by rfl) (Over_nil (y_callL (by rfl) (by rfl) Tryd.call145 (fun w hw => span_any _ _ _ w))) ?_
  refine P_det (by rfl) (Over_nil (y_assign (c := .bool _) (by rfl))) ?_
  refine PW_end (by rfl) ?_
  refine OverAll_nil ?_
  rintro -
  refine Then_normal ?_
  refine W_ret ?_
  refine Fin_ret [.bool _] [] Tryd.results175 ⟨by rfl, trivial⟩ HSub.nil ?_
  rfl
theorem more_any (g og : Nat) (t : Tk) (s h : Sn) (w : World) (hG : Gg w g og t) (hs : s.Sm) (hh : h.Sm) :
    Ct Tryd.prog 173 #[.pointer (some ⟨g, og, none⟩), .agg s.cells.toArray, .agg h.cells.toArray] w fun v _ => v = .agg ((h.add s).met t.all).cells.toArray := by
  obtain ⟨hok, a, cap, hg, hx⟩ := hG
  unfold Sn.Sm at hs hh
  have hF := wide_wide
  refine Ct_start (args := [_, _, _]) Tryd.func173 (by rfl) Tryd.ntmps173 (by rfl) ?_
  refine W_seq ?_
  refine W_region_lit (fun ds => ?_)
  refine WS_new hF (by rfl) (y_box (by rfl)) (fun b1 => ?_)
  refine WS_new hF (by rfl) (y_box (by rfl)) (fun b2 => ?_)
  refine WS_new hF (by rfl) (y_alloc Tryd.zeroValue63 (by rfl)) (fun b3 => ?_)
  refine WS_nil ?_
  refine Then_normal ?_
  refine W_seq ?_
  apply W_draw1 hF Trydmixed [1000000] (i := 0) (by rfl) (by decide +kernel)
  intro ds
  refine P_det (by rfl) (Over_out (by rfl) (Over_nil (y_fieldAddr (by rfl) fa63_0))) ?_
  refine P_det (by rfl) (Over_out (by rfl) (Over_nil (y_load1 (by rfl) Tryd.isAgg3 (Mem.own1 0 (by rfl) (by rfl))))) ?_
  refine P_det (by rfl) (Over_out (by rfl) (Over_nil (y_fieldAddr (by rfl) fa63_0))) ?_
  refine P_det (by rfl) (Over_out (by rfl) (Over_nil (y_load1 (by rfl) Tryd.isAgg3 (Mem.own1 1 (by rfl) (by rfl))))) ?_
  refine P_det (by rfl) (Over_out (by rfl) (Over_nil (y_add (by rfl) (by rfl) (by unfold I64; omega)))) ?_
  refine P_det (by rfl) (Over_out (by rfl) (Over_nil (y_fieldAddr (by rfl) fa63_1))) ?_
  refine P_det (by rfl) (Over_out (by rfl) (Over_nil (y_load1 (by rfl) Tryd.isAgg3 (Mem.own1 0 (by rfl) (by rfl))))) ?_
  refine P_det (by rfl) (Over_out (by rfl) (Over_nil (y_fieldAddr (by rfl) fa63_1))) ?_
  refine P_det (by rfl) (Over_out (by rfl) (Over_nil (y_load1 (by rfl) Tryd.isAgg3 (Mem.own1 1 (by rfl) (by rfl))))) ?_
  refine P_det (by rfl) (Over_out (by rfl) (Over_nil (y_add (by rfl) (by rfl) (by unfold I64; omega)))) ?_
  refine P_det (by rfl) (Over_out (by rfl) (Over_nil (y_buildL bd63_0_1 (by rfl)))) ?_
  refine P_det (by rfl) (Over_out (by rfl) (Over_nil (y_move (c := .pointer _) (by rfl)))) ?_
  refine P_det (by rfl) (Over_out (by rfl) (Over_nil (by first | exact y_nilCheck (by rfl) | exact y_nilCheckF (by rfl)))) ?_
  refine P_det (by rfl) (Over_out (by rfl) (Over_nil (y_fieldAddr (by rfl) fa191_1))) ?_
  refine P_det (by rfl) (Over_out (by rfl) (Over_nil (y_load1 (by rfl) Tryd.isAgg3 (by first | exact Mem.old1 (by assumption) | exact Mem.oldAt1 (by assumption) (by rfl) | exact Mem.old (by assumption) | exact Mem.oldAtL1 (by assumption) (by rfl) (by rfl))))) ?_
  refine P_det (by rfl) (Over_out (by rfl) (Over_nil (y_buildL bd63_1 (by rfl)))) ?_
  refine P_det (by rfl) (Over_out (by rfl) (Over_nil (y_callL (by rfl) (by rfl) Tryd.call168 (fun w hw => met_any _ _ _ _ w)))) ?_
  refine P_st 1000000 0 (by rfl) (by rfl) (by rfl) (by rfl) (by rfl) (Over_nil (st_pre (fun _ => by rfl) (fun _ => by rfl) Tryd.sizeOf63 (by rfl) (by rfl) (by first | decide | exact Nat.le_of_ble_eq_true rfl | simp))) ?_
  refine PW_end (by rfl) ?_
  refine OverAll_cons (fun w1000000 l1000000 => ?_)
  refine OverAll_nil ?_
  rintro ⟨-, h1000000⟩
  obtain rfl := h1000000
  refine Then_normal ?_
  refine W_ret ?_
  refine Fin_ret [_] [] Tryd.results173 ⟨lvN (by rfl) Tryd.isAgg63 Tryd.sizeOf63 (Mem.own (us := [.int .i64 _, .int .i64 _]) 0 (by rfl) (by rfl)) (by rfl), trivial⟩ HSub.nil ?_
  rfl
theorem tless_any (g og : Nat) (t : Tk) (s h : Sn) (w : World) (hG : Gg w g og t) (hs : s.Sm) (hh : h.Sm) :
    Ct Tryd.prog 174 #[.pointer (some ⟨g, og, none⟩), .agg s.cells.toArray, .agg h.cells.toArray] w fun v _ => v = .agg ((h.sub s).met t.all).cells.toArray := by
  obtain ⟨hok, a, cap, hg, hx⟩ := hG
  unfold Sn.Sm at hs hh
  have hF := wide_wide
  refine Ct_start (args := [_, _, _]) Tryd.func174 (by rfl) Tryd.ntmps174 (by rfl) ?_
  refine W_seq ?_
  refine W_region_lit (fun ds => ?_)
  refine WS_new hF (by rfl) (y_box (by rfl)) (fun b1 => ?_)
  refine WS_new hF (by rfl) (y_box (by rfl)) (fun b2 => ?_)
  refine WS_new hF (by rfl) (y_alloc Tryd.zeroValue63 (by rfl)) (fun b3 => ?_)
  refine WS_nil ?_
  refine Then_normal ?_
  refine W_seq ?_
  apply W_draw1 hF Trydmixed [1000000] (i := 0) (by rfl) (by decide +kernel)
  intro ds
  refine P_det (by rfl) (Over_out (by rfl) (Over_nil (y_fieldAddr (by rfl) fa63_0))) ?_
  refine P_det (by rfl) (Over_out (by rfl) (Over_nil (y_load1 (by rfl) Tryd.isAgg3 (Mem.own1 0 (by rfl) (by rfl))))) ?_
  refine P_det (by rfl) (Over_out (by rfl) (Over_nil (y_fieldAddr (by rfl) fa63_1))) ?_
  refine P_det (by rfl) (Over_out (by rfl) (Over_nil (y_load1 (by rfl) Tryd.isAgg3 (Mem.own1 1 (by rfl) (by rfl))))) ?_
  refine P_det (by rfl) (Over_out (by rfl) (Over_nil (y_sub (by rfl) (by rfl) (by unfold I64; omega)))) ?_
  refine P_det (by rfl) (Over_out (by rfl) (Over_nil (y_fieldAddr (by rfl) fa63_1))) ?_
  refine P_det (by rfl) (Over_out (by rfl) (Over_nil (y_load1 (by rfl) Tryd.isAgg3 (Mem.own1 0 (by rfl) (by rfl))))) ?_
  refine P_det (by rfl) (Over_out (by rfl) (Over_nil (y_fieldAddr (by rfl) fa63_0))) ?_
  refine P_det (by rfl) (Over_out (by rfl) (Over_nil (y_load1 (by rfl) Tryd.isAgg3 (Mem.own1 1 (by rfl) (by rfl))))) ?_
  refine P_det (by rfl) (Over_out (by rfl) (Over_nil (y_sub (by rfl) (by rfl) (by unfold I64; omega)))) ?_
  refine P_det (by rfl) (Over_out (by rfl) (Over_nil (y_buildL bd63_0_1 (by rfl)))) ?_
  refine P_det (by rfl) (Over_out (by rfl) (Over_nil (y_move (c := .pointer _) (by rfl)))) ?_
  refine P_det (by rfl) (Over_out (by rfl) (Over_nil (by first | exact y_nilCheck (by rfl) | exact y_nilCheckF (by rfl)))) ?_
  refine P_det (by rfl) (Over_out (by rfl) (Over_nil (y_fieldAddr (by rfl) fa191_1))) ?_
  refine P_det (by rfl) (Over_out (by rfl) (Over_nil (y_load1 (by rfl) Tryd.isAgg3 (by first | exact Mem.old1 (by assumption) | exact Mem.oldAt1 (by assumption) (by rfl) | exact Mem.old (by assumption) | exact Mem.oldAtL1 (by assumption) (by rfl) (by rfl))))) ?_
  refine P_det (by rfl) (Over_out (by rfl) (Over_nil (y_buildL bd63_1 (by rfl)))) ?_
  refine P_det (by rfl) (Over_out (by rfl) (Over_nil (y_callL (by rfl) (by rfl) Tryd.call168 (fun w hw => met_any _ _ _ _ w)))) ?_
  refine P_st 1000000 0 (by rfl) (by rfl) (by rfl) (by rfl) (by rfl) (Over_nil (st_pre (fun _ => by rfl) (fun _ => by rfl) Tryd.sizeOf63 (by rfl) (by rfl) (by first | decide | exact Nat.le_of_ble_eq_true rfl | simp))) ?_
  refine PW_end (by rfl) ?_
  refine OverAll_cons (fun w1000000 l1000000 => ?_)
  refine OverAll_nil ?_
  rintro ⟨-, h1000000⟩
  obtain rfl := h1000000
  refine Then_normal ?_
  refine W_ret ?_
  refine Fin_ret [_] [] Tryd.results174 ⟨lvN (by rfl) Tryd.isAgg63 Tryd.sizeOf63 (Mem.own (us := [.int .i64 _, .int .i64 _]) 0 (by rfl) (by rfl)) (by rfl), trivial⟩ HSub.nil ?_
  rfl
theorem seen_any (g og : Nat) (t : Tk) (s h : Sn) (w : World) (hG : Gg w g og t) (hs : s.inB t.height = true) :
    Ct Tryd.prog 176 #[.pointer (some ⟨g, og, none⟩), .agg s.cells.toArray, .agg h.cells.toArray] w fun v _ => v = .agg (h.met (t.dip s)).cells.toArray := by
  obtain ⟨s0, s1⟩ := s
  obtain ⟨h0, h1⟩ := h
  unfold Sn.inB at hs
  rw [Bool.and_eq_true, inB2] at hs
  have hF := wide_wide
  refine Ct_start (args := [_, _, _]) Tryd.func176 (by rfl) Tryd.ntmps176 (by rfl) ?_
  refine W_seq ?_
  refine W_region_lit (fun ds => ?_)
  refine WS_new hF (by rfl) (y_box (by rfl)) (fun b1 => ?_)
  refine WS_new hF (by rfl) (y_box (by rfl)) (fun b2 => ?_)
  refine WS_new hF (by rfl) (y_alloc Tryd.zeroValue63 (by rfl)) (fun b3 => ?_)
  refine WS_nil ?_
  refine Then_normal ?_
  refine W_seq ?_
  apply W_draw1 hF Trydmixed [1000000] (i := 0) (by rfl) (by decide +kernel)
  intro ds
  refine P_det (by rfl) (Over_out (by rfl) (Over_nil (y_loadN (by rfl) Tryd.isAgg63 Tryd.sizeOf63 (Mem.own (us := [.int .i64 _, .int .i64 _]) 0 (by rfl) (by rfl)) (by rfl)))) ?_
  refine P_det (by rfl) (Over_out (by rfl) (Over_nil (y_move (c := .pointer _) (by rfl)))) ?_
  refine P_det (by rfl) (Over_out (by rfl) (Over_nil (y_loadN (by rfl) Tryd.isAgg63 Tryd.sizeOf63 (Mem.own (us := [.int .i64 _, .int .i64 _]) 1 (by rfl) (by rfl)) (by rfl)))) ?_
  refine P_det (by rfl) (Over_out (by rfl) (Over_nil (y_callL (by rfl) (by rfl) Tryd.call199 (fun w hw => dip_any _ _ t s0 s1 w (hG.st w hw) hs.1.1.1 hs.1.1.2 hs.1.2.1 hs.1.2.2)))) ?_
  refine P_det (by rfl) (Over_out (by rfl) (Over_nil (y_callL (by rfl) (by rfl) Tryd.call168 (fun w hw => met_any _ _ _ _ w)))) ?_
  refine P_st 1000000 0 (by rfl) (by rfl) (by rfl) (by rfl) (by rfl) (Over_nil (st_pre (fun _ => by rfl) (fun _ => by rfl) Tryd.sizeOf63 (by rfl) (by rfl) (by first | decide | exact Nat.le_of_ble_eq_true rfl | simp))) ?_
  refine PW_end (by rfl) ?_
  refine OverAll_cons (fun w1000000 l1000000 => ?_)
  refine OverAll_nil ?_
  rintro ⟨-, h1000000⟩
  obtain rfl := h1000000
  refine Then_normal ?_
  refine W_ret ?_
  refine Fin_ret [_] [] Tryd.results176 ⟨lvN (by rfl) Tryd.isAgg63 Tryd.sizeOf63 (Mem.own (us := [.int .i64 _, .int .i64 _]) 0 (by rfl) (by rfl)) (by rfl), trivial⟩ HSub.nil ?_
  rfl
end Go.Proofs.YtjekjehgmljbgaaDoor.T

/- Logs that are valid; a book in memory; drip, before, after. -/
namespace Go.Proofs.YtjekjehgmljbgaaDoor.T
open Go.RowKit Go.Proofs Go.Eng
set_option maxRecDepth 100000
set_option maxHeartbeats 1000000
set_option linter.unusedVariables false
set_option linter.unusedSimpArgs false

theorem fa186_1 : ∀ b o w, (Instr.fieldAt 186 (.pointer (some ⟨b, o, none⟩)) 1).run Tryd.prog w = .ok (.pointer (some ⟨b, o + 1, none⟩)) w := fun b o w => by kernel_rfl
theorem fa189_0 : ∀ b o w, (Instr.fieldAt 189 (.pointer (some ⟨b, o, none⟩)) 0).run Tryd.prog w = .ok (.pointer (some ⟨b, o + 0, none⟩)) w := fun b o w => by kernel_rfl
theorem fa189_1 : ∀ b o w, (Instr.fieldAt 189 (.pointer (some ⟨b, o, none⟩)) 1).run Tryd.prog w = .ok (.pointer (some ⟨b, o + 1, none⟩)) w := fun b o w => by kernel_rfl
theorem fa189_2 : ∀ b o w, (Instr.fieldAt 189 (.pointer (some ⟨b, o, none⟩)) 2).run Tryd.prog w = .ok (.pointer (some ⟨b, o + 7, none⟩)) w := fun b o w => by kernel_rfl
theorem fa66_2 : ∀ b o w, (Instr.fieldAt 66 (.pointer (some ⟨b, o, none⟩)) 2).run Tryd.prog w = .ok (.pointer (some ⟨b, o + 5, none⟩)) w := fun b o w => by kernel_rfl
theorem fa77_0 : ∀ b o w, (Instr.fieldAt 77 (.pointer (some ⟨b, o, none⟩)) 0).run Tryd.prog w = .ok (.pointer (some ⟨b, o + 0, none⟩)) w := fun b o w => by kernel_rfl
theorem fa77_1 : ∀ b o w, (Instr.fieldAt 77 (.pointer (some ⟨b, o, none⟩)) 1).run Tryd.prog w = .ok (.pointer (some ⟨b, o + 1, none⟩)) w := fun b o w => by kernel_rfl
theorem fa77_2 : ∀ b o w, (Instr.fieldAt 77 (.pointer (some ⟨b, o, none⟩)) 2).run Tryd.prog w = .ok (.pointer (some ⟨b, o + 2, none⟩)) w := fun b o w => by kernel_rfl

def Lg.e (l : Lg) (k : Nat) : En := l.es.getD k En.z
def Tk.most (t : Tk) (kind : Int) : Int := if kind = 3 then t.height else t.full
def Tk.entB (t : Tk) (day : Int) (x : En) : Bool := inB day 3652 [x.day] && inB 1 3 [x.kind] && x.size.inB (t.most x.kind)
def Tk.entsB (t : Tk) : Int → List En → Bool
  | _, [] => true
  | day, x :: l => t.entB day x && t.entsB x.day l
def Lg.okB (l : Lg) : Bool := l.start.inB l.tk.full && decide (l.es.length ≤ 12) && l.tk.entsB 0 l.es
structure Lg.Ok (l : Lg) : Prop where
  tk : l.tk.Ok
  start : l.start.inB l.tk.full = true
  n12 : l.es.length ≤ 12
  day : ∀ k, k < l.es.length → 0 ≤ (l.e k).day ∧ (l.e k).day ≤ 3652
  mono : ∀ k, k + 1 < l.es.length → (l.e k).day ≤ (l.e (k + 1)).day
  kind : ∀ k, k < l.es.length → 1 ≤ (l.e k).kind ∧ (l.e k).kind ≤ 3
  size : ∀ k, k < l.es.length → (l.e k).size.inB (l.tk.most (l.e k).kind) = true
theorem Sn.inB_iff {s : Sn} {m : Int} : s.inB m = true ↔ 0 ≤ s.lo ∧ s.lo ≤ s.hi ∧ s.hi ≤ m := by
  unfold Sn.inB
  rw [Bool.and_eq_true, inB2, decide_eq_true_eq]; omega
theorem Lg.Ok.sm {l : Lg} (h : l.Ok) {k : Nat} (hk : k < l.es.length) : (l.e k).size.Sm := by
  have h1 := Sn.inB_iff.1 (h.size k hk)
  have h2 := h.tk.full_bd
  have h3 := h.tk.n21
  have h4 := h.tk.n2
  unfold Tk.most Tk.height at h1
  unfold Sn.Sm
  split at h1 <;> omega
def Lg.drip (l : Lg) (i : Nat) : Int := if i = 0 then 0 else l.tk.leak * ((l.e i).day - (l.e (i - 1)).day)
def Lg.before (l : Lg) (i : Nat) (s : Sn) : Sn := ⟨max 0 (s.lo - l.drip i), s.hi⟩
/-- Forth, by a kind. -/
def Tk.forth (t : Tk) (x : En) (s : Sn) : Sn := if x.kind = 1 then (s.add x.size).met t.all else if x.kind = 2 then (s.sub x.size).met t.all else s.met (t.dip x.size)
def Tk.back (t : Tk) (x : En) (s : Sn) : Sn := if x.kind = 1 then (s.sub x.size).met t.all else if x.kind = 2 then (s.add x.size).met t.all else s.met (t.dip x.size)
def Lg.after (l : Lg) (i : Nat) (s : Sn) : Sn := l.tk.forth (l.e i) (l.before i s)
theorem Lg.Ok.drip_bd {l : Lg} (h : l.Ok) {i : Nat} (hi : i < l.es.length) : 0 ≤ l.drip i ∧ l.drip i ≤ 182600 := by
  unfold Lg.drip
  split
  · omega
  · have h1 := h.mono (i - 1) (by omega)
    rw [show i - 1 + 1 = i by omega] at h1
    have h2 := h.day i hi
    have h3 := h.day (i - 1) (by omega)
    have := mul_bd h.tk.leak0 h.tk.leak1 (show 0 ≤ (l.e i).day - (l.e (i - 1)).day by omega) (show (l.e i).day - (l.e (i - 1)).day ≤ 3652 by omega)
    omega

def bookCells (g : Nat) (l : Lg) (a : Option Addr) (cap : Nat) (ae : Option Addr) (cape : Nat) : List Value :=
  [.pointer (some ⟨g, 0, none⟩), .slice a l.tk.n cap, .int .i64 l.tk.leak, .int .i64 l.tk.foot, .int .i64 l.start.lo, .int .i64 l.start.hi, .slice ae l.es.length cape] ++ formsV
/-- A book in memory. -/
structure Bk (w : World) (bk : Nat) (l : Lg) : Prop where
  ok : l.Ok
  ex : ∃ g a cap ae cape, At w bk 0 (bookCells g l a cap ae cape) ∧ Gg w g 0 l.tk ∧ Ens w ae l.es.length cape l.es
theorem Bk.below {w w' : World} {bk : Nat} {l : Lg} (h : Bk w bk l) (hb : Below w.heap.size w w') : Bk w' bk l := by
  obtain ⟨hok, g, a, cap, ae, cape, h1, h2, h3⟩ := h
  exact ⟨hok, g, a, cap, ae, cape, At.old hb h1, h2.below hb, h3.below hb⟩
theorem Bk.st {C : Ctx} {H : List Blk} {bk : Nat} {l : Lg} (h : Bk C.w0 bk l) (w : World) (hw : St C H w) : Bk w bk l := h.below hw.1

theorem drip_any (bk : Nat) (l : Lg) (i : Nat) (w : World) (hB : Bk w bk l) (hi : i < l.es.length) :
    Ct Tryd.prog 167 #[.pointer (some ⟨bk, 0, none⟩), .int .i64 (i : Int)] w fun v _ => v = .int .i64 (l.drip i) := by
  obtain ⟨hok, g, a, cap, ae, cape, h1, ⟨_, a2, cap2, hg, _⟩, h3⟩ := hB
  obtain ⟨b, o, rfl⟩ := h3.adr (by omega)
  have hd := hok.drip_bd hi
  have h12 := hok.n12
  have hF := wide_wide
  refine Ct_start (args := [_, _]) Tryd.func167 (by rfl) Tryd.ntmps167 (by rfl) ?_
  refine W_seq ?_
  refine W_region_lit (fun ds => ?_)
  refine WS_det hF (by rfl) (y_assign (c := .int .i64 _) (by rfl)) ?_
  refine WS_nil ?_
  refine Then_normal ?_
  refine W_seq ?_
  refine W_seq ?_
  refine W_region_lit (fun ds => ?_)
  refine WS_det hF (by rfl) (y_move (c := .int .i64 _) (by rfl)) ?_
  refine WS_det hF (by rfl) (y_eql (by rfl) (by rfl)) ?_
  refine WS_nil ?_
  refine Then_normal ?_
  refine W_cond (by rfl) (fun c1 => ?_) (fun c1 => ?_)
  ·
    try simp only [Bool.not_eq_true', Bool.not_eq_false', decide_eq_true_eq, decide_eq_false_iff_not, ne_eq, Classical.not_not, Int.not_lt, Int.not_le] at c1
    refine W_seq ?_
    refine W_region_lit (fun ds => ?_)
    refine WS_det hF (by rfl) (y_assign (c := .int .i64 _) (by rfl)) ?_
    refine WS_nil ?_
    refine Then_normal ?_
    refine W_ret ?_
    refine Then_ret ?_
    refine Fin_ret [.int .i64 _] [] Tryd.results167 ⟨by rfl, trivial⟩ HSub.nil ?_
    have hi0 : i = 0 := by omega
    subst hi0
    show Value.int _ _ = _
    rfl
  ·
    try simp only [Bool.not_eq_true', Bool.not_eq_false', decide_eq_true_eq, decide_eq_false_iff_not, ne_eq, Classical.not_not, Int.not_lt, Int.not_le] at c1
    have hi0 : ¬ i = 0 := by omega
    have e1 : At w b (o + i * 4) (l.e i).cells := h3.at hi
    have e0 : At w b (o + (i - 1) * 4) (l.e (i - 1)).cells := h3.at (k := i - 1) (by omega)
    have d1 := hok.day i hi
    have d0 := hok.day (i - 1) (by omega)
    rw [Lg.drip, if_neg hi0] at hd ⊢
    refine W_skip ?_
    refine Then_normal ?_
    refine W_seq ?_
    refine W_draw0 hF Trydmixed [] (by decide +kernel) (fun ds => ?_)
    refine P_det (by rfl) (Over_nil (y_move (c := .pointer _) (by rfl))) ?_
    refine P_det (by rfl) (Over_nil (by first | exact y_nilCheck (by rfl) | exact y_nilCheckF (by rfl))) ?_
    refine P_det (by rfl) (Over_nil (y_fieldAddr (by rfl) fa189_0)) ?_
    refine P_det (by rfl) (Over_nil (y_load1 (by rfl) Tryd.isAgg182 (by first | exact Mem.old1 (by assumption) | exact Mem.oldAt1 (by assumption) (by rfl) | exact Mem.old (by assumption) | exact Mem.oldAtL1 (by assumption) (by rfl) (by rfl)))) ?_
    refine P_det (by rfl) (Over_nil (by first | exact y_nilCheck (by rfl) | exact y_nilCheckF (by rfl))) ?_
    refine P_det (by rfl) (Over_nil (y_fieldAddr (by rfl) fa191_0)) ?_
    refine P_det (by rfl) (Over_nil (y_fieldAddr (by rfl) fa61_1)) ?_
    refine P_det (by rfl) (Over_nil (y_load1 (by rfl) Tryd.isAgg3 (by first | exact Mem.old1 (by assumption) | exact Mem.oldAt1 (by assumption) (by rfl) | exact Mem.old (by assumption) | exact Mem.oldAtL1 (by assumption) (by rfl) (by rfl)))) ?_
    refine P_det (by rfl) (Over_nil (y_move (c := .pointer _) (by rfl))) ?_
    refine P_det (by rfl) (Over_nil (by first | exact y_nilCheck (by rfl) | exact y_nilCheckF (by rfl))) ?_
    refine P_det (by rfl) (Over_nil (y_fieldAddr (by rfl) fa189_1)) ?_
    refine P_det (by rfl) (Over_nil (y_fieldAddr (by rfl) fa66_2)) ?_
    refine P_det (by rfl) (Over_nil (y_load1 (by rfl) Tryd.isAgg64 (by first | exact Mem.old1 (by assumption) | exact Mem.oldAt1 (by assumption) (by rfl) | exact Mem.old (by assumption) | exact Mem.oldAtL1 (by assumption) (by rfl) (by rfl)))) ?_
    refine P_det (by rfl) (Over_nil (y_move (c := .int .i64 _) (by rfl))) ?_
    refine P_det (by rfl) (Over_nil (y_index (k := i) (by rfl) (by rfl) (by first | rfl | omega) (by first | decide | omega) Tryd.runUnderlying64 Tryd.sizeOf77)) ?_
    refine P_det (by rfl) (Over_nil (y_fieldAddr (by rfl) fa77_0)) ?_
    refine P_det (by rfl) (Over_nil (y_load1 (by rfl) Tryd.isAgg3 (by first | exact Mem.old1 (by assumption) | exact Mem.oldAt1 (by assumption) (by rfl) | exact Mem.old (by assumption) | exact Mem.oldAtL1 (by assumption) (by rfl) (by rfl)))) ?_
    refine P_det (by rfl) (Over_nil (y_move (c := .pointer _) (by rfl))) ?_
    refine P_det (by rfl) (Over_nil (by first | exact y_nilCheck (by rfl) | exact y_nilCheckF (by rfl))) ?_
    refine P_det (by rfl) (Over_nil (y_fieldAddr (by rfl) fa189_1)) ?_
    refine P_det (by rfl) (Over_nil (y_fieldAddr (by rfl) fa66_2)) ?_
    refine P_det (by rfl) (Over_nil (y_load1 (by rfl) Tryd.isAgg64 (by first | exact Mem.old1 (by assumption) | exact Mem.oldAt1 (by assumption) (by rfl) | exact Mem.old (by assumption) | exact Mem.oldAtL1 (by assumption) (by rfl) (by rfl)))) ?_
    refine P_det (by rfl) (Over_nil (y_move (c := .int .i64 _) (by rfl))) ?_
    refine P_det (by rfl) (Over_nil (y_sub (by rfl) (by rfl) (by unfold I64; omega))) ?_
    refine P_det (by rfl) (Over_nil (y_index (k := i - 1) (by rfl) (by rfl) (by first | rfl | omega) (by first | decide | omega) Tryd.runUnderlying64 Tryd.sizeOf77)) ?_
    refine P_det (by rfl) (Over_nil (y_fieldAddr (by rfl) fa77_0)) ?_
    refine P_det (by rfl) (Over_nil (y_load1 (by rfl) Tryd.isAgg3 (by first | exact Mem.old1 (by assumption) | exact Mem.oldAt1 (by assumption) (by rfl) | exact Mem.old (by assumption) | exact Mem.oldAtL1 (by assumption) (by rfl) (by rfl)))) ?_
    refine P_det (by rfl) (Over_nil (y_sub (by rfl) (by rfl) (by unfold I64; omega))) ?_
    refine P_det (by rfl) (Over_nil (y_mul (by rfl) (by rfl) (by unfold I64; omega))) ?_
    refine P_det (by rfl) (Over_nil (y_assign (c := .int .i64 _) (by rfl))) ?_
    refine PW_end (by rfl) ?_
    refine OverAll_nil ?_
    rintro -
    refine Then_normal ?_
    refine W_ret ?_
    refine Fin_ret [.int .i64 _] [] Tryd.results167 ⟨by rfl, trivial⟩ HSub.nil ?_
    rfl
theorem before_any (bk : Nat) (l : Lg) (i : Nat) (s : Sn) (w : World) (hB : Bk w bk l) (hi : i < l.es.length) (hs : s.Sm) :
    Ct Tryd.prog 191 #[.pointer (some ⟨bk, 0, none⟩), .int .i64 (i : Int), .agg s.cells.toArray] w fun v _ => v = .agg (l.before i s).cells.toArray := by
  have hd := hB.ok.drip_bd hi
  unfold Sn.Sm at hs
  have hF := wide_wide
  refine Ct_start (args := [_, _, _]) Tryd.func191 (by rfl) Tryd.ntmps191 (by rfl) ?_
  refine W_seq ?_
  refine W_region_lit (fun ds => ?_)
  refine WS_new hF (by rfl) (y_box (by rfl)) (fun b1 => ?_)
  refine WS_new hF (by rfl) (y_alloc Tryd.zeroValue63 (by rfl)) (fun b2 => ?_)
  refine WS_nil ?_
  refine Then_normal ?_
  refine W_seq ?_
  apply W_draw1 hF Trydmixed [1000000] (i := 0) (by rfl) (by decide +kernel)
  intro ds
  refine P_det (by rfl) (Over_out (by rfl) (Over_nil (y_fieldAddr (by rfl) fa63_0))) ?_
  refine P_det (by rfl) (Over_out (by rfl) (Over_nil (y_load1 (by rfl) Tryd.isAgg3 (Mem.own1 0 (by rfl) (by rfl))))) ?_
  refine P_det (by rfl) (Over_out (by rfl) (Over_nil (y_move (c := .pointer _) (by rfl)))) ?_
  refine P_det (by rfl) (Over_out (by rfl) (Over_nil (y_move (c := .int .i64 _) (by rfl)))) ?_
  refine P_det (by rfl) (Over_out (by rfl) (Over_nil (y_callL (by rfl) (by rfl) Tryd.call167 (fun w hw => drip_any bk l i w (hB.st w hw) hi)))) ?_
  refine P_det (by rfl) (Over_out (by rfl) (Over_nil (y_sub (by rfl) (by rfl) (by unfold I64; omega)))) ?_
  refine P_det (by rfl) (Over_out (by rfl) (Over_nil (y_max (by rfl) (by rfl)))) ?_
  refine P_det (by rfl) (Over_out (by rfl) (Over_nil (y_fieldAddr (by rfl) fa63_1))) ?_
  refine P_det (by rfl) (Over_out (by rfl) (Over_nil (y_load1 (by rfl) Tryd.isAgg3 (Mem.own1 0 (by rfl) (by rfl))))) ?_
  refine P_det (by rfl) (Over_out (by rfl) (Over_nil (y_buildL bd63_0_1 (by rfl)))) ?_
  refine P_st 1000000 0 (by rfl) (by rfl) (by rfl) (by rfl) (by rfl) (Over_nil (st_pre (fun _ => by rfl) (fun _ => by rfl) Tryd.sizeOf63 (by rfl) (by rfl) (by first | decide | exact Nat.le_of_ble_eq_true rfl | simp))) ?_
  refine PW_end (by rfl) ?_
  refine OverAll_cons (fun w1000000 l1000000 => ?_)
  refine OverAll_nil ?_
  rintro ⟨-, h1000000⟩
  obtain rfl := h1000000
  refine Then_normal ?_
  refine W_ret ?_
  refine Fin_ret [_] [] Tryd.results191 ⟨lvN (by rfl) Tryd.isAgg63 Tryd.sizeOf63 (Mem.own (us := [.int .i64 _, .int .i64 _]) 0 (by rfl) (by rfl)) (by rfl), trivial⟩ HSub.nil ?_
  rfl
theorem after_any (bk : Nat) (l : Lg) (i : Nat) (s : Sn) (w : World) (hB : Bk w bk l) (hi : i < l.es.length) (hs : s.Sm) :
    Ct Tryd.prog 165 #[.pointer (some ⟨bk, 0, none⟩), .int .i64 (i : Int), .agg s.cells.toArray] w fun v _ => v = .agg (l.after i s).cells.toArray := by
  have hb : (l.before i s).Sm := by
    have hd := hB.ok.drip_bd hi
    unfold Sn.Sm at hs ⊢
    unfold Lg.before
    simp only
    omega
  have hk := hB.ok.kind i hi
  have hz := hB.ok.sm hi
  have hq := hB.ok.size i hi
  have hL0 : l.after i s = l.tk.forth (l.e i) (l.before i s) := rfl
  obtain ⟨g, a, cap, ae, cape, h1, hG, h3⟩ := hB.ex
  obtain ⟨b, o, rfl⟩ := h3.adr (by omega)
  have e1 : At w b (o + i * 4) (l.e i).cells := h3.at hi
  generalize l.e i = x at *
  obtain ⟨d0, k0, z⟩ := x
  simp only at hk hz hq
  obtain rfl | rfl | rfl : k0 = 1 ∨ k0 = 2 ∨ k0 = 3 := by omega
  ·
    have hF := wide_wide
    refine Ct_start (args := [_, _, _]) Tryd.func165 (by rfl) Tryd.ntmps165 (by rfl) ?_
    refine W_seq ?_
    refine W_region_lit (fun ds => ?_)
    refine WS_new hF (by rfl) (y_box (by rfl)) (fun b1 => ?_)
    refine WS_new hF (by rfl) (y_alloc Tryd.zeroValue63 (by rfl)) (fun b2 => ?_)
    refine WS_nil ?_
    refine Then_normal ?_
    refine W_seq ?_
    refine W_region_lit (fun ds => ?_)
    refine WS_det hF (by rfl) (y_move (c := .pointer _) (by rfl)) ?_
    refine WS_det hF (by rfl) (by first | exact y_nilCheck (by rfl) | exact y_nilCheckF (by rfl)) ?_
    refine WS_det hF (by rfl) (y_fieldAddr (by rfl) fa189_1) ?_
    refine WS_det hF (by rfl) (y_fieldAddr (by rfl) fa66_2) ?_
    refine WS_det hF (by rfl) (y_load1 (by rfl) Tryd.isAgg64 (by first | exact Mem.old1 (by assumption) | exact Mem.oldAt1 (by assumption) (by rfl) | exact Mem.old (by assumption) | exact Mem.oldAtL1 (by assumption) (by rfl) (by rfl))) ?_
    refine WS_det hF (by rfl) (y_move (c := .int .i64 _) (by rfl)) ?_
    refine WS_det hF (by rfl) (y_index (k := i) (by rfl) (by rfl) (by first | rfl | omega) (by first | decide | omega) Tryd.runUnderlying64 Tryd.sizeOf77) ?_
    refine WS_det hF (by rfl) (y_loadN (by rfl) Tryd.isAgg77 Tryd.sizeOf77 (by first | exact Mem.old (by assumption) | exact Mem.oldAt (us := [.int .i64 _, .int .i64 _, .int .i64 _, .int .i64 _]) (by assumption) (by rfl) | exact Mem.oldAtL (us := [.int .i64 _, .int .i64 _, .int .i64 _, .int .i64 _]) (by assumption) (by rfl) (by rfl)) (by rfl)) ?_
    refine WS_new hF (by rfl) (y_alloc Tryd.zeroValue77 (by rfl)) (fun b3 => ?_)
    refine WS_store hF (i := 0) (by rfl) (by rfl) Tryd.sizeOf77 (by rfl) (by rfl) (by rfl) (by first | decide | exact Nat.le_of_ble_eq_true rfl | simp) ?_
    refine WS_nil ?_
    refine Then_normal ?_
    refine W_seq ?_
    apply W_draw1 hF Trydmixed [1000000] (i := 1) (by rfl) (by decide +kernel)
    intro ds
    refine P_det (by rfl) (Over_out (by rfl) (Over_nil (y_move (c := .pointer _) (by rfl)))) ?_
    refine P_det (by rfl) (Over_out (by rfl) (Over_nil (y_fieldAddr (by rfl) fa77_1))) ?_
    refine P_det (by rfl) (Over_out (by rfl) (Over_nil (y_load1 (by rfl) Tryd.isAgg3 (Mem.own1 0 (by rfl) (by rfl))))) ?_
    refine P_det (by rfl) (Over_out (by rfl) (Over_nil (by first | exact y_nilCheck (by rfl) | exact y_nilCheckF (by rfl)))) ?_
    refine P_det (by rfl) (Over_out (by rfl) (Over_nil (y_fieldAddr (by rfl) fa189_2))) ?_
    refine P_det (by rfl) (Over_out (by rfl) (Over_nil (y_indexA (k := 1) (by rfl) (by rfl) (by first | rfl | omega) (by first | decide | omega) Tryd.runUnderlying187 Tryd.sizeOf186))) ?_
    refine P_det (by rfl) (Over_out (by rfl) (Over_nil (y_fieldAddr (by rfl) fa186_1))) ?_
    refine P_det (by rfl) (Over_out (by rfl) (Over_nil (y_load1 (by rfl) Tryd.isAgg184 (by first | exact Mem.old1 (by assumption) | exact Mem.oldAt1 (by assumption) (by rfl) | exact Mem.old (by assumption) | exact Mem.oldAtL1 (by assumption) (by rfl) (by rfl))))) ?_
    refine P_det (by rfl) (Over_out (by rfl) (Over_nil (y_move (c := .pointer _) (by rfl)))) ?_
    refine P_det (by rfl) (Over_out (by rfl) (Over_nil (by first | exact y_nilCheck (by rfl) | exact y_nilCheckF (by rfl)))) ?_
    refine P_det (by rfl) (Over_out (by rfl) (Over_nil (y_fieldAddr (by rfl) fa189_0))) ?_
    refine P_det (by rfl) (Over_out (by rfl) (Over_nil (y_load1 (by rfl) Tryd.isAgg182 (by first | exact Mem.old1 (by assumption) | exact Mem.oldAt1 (by assumption) (by rfl) | exact Mem.old (by assumption) | exact Mem.oldAtL1 (by assumption) (by rfl) (by rfl))))) ?_
    refine P_det (by rfl) (Over_out (by rfl) (Over_nil (y_fieldAddr (by rfl) fa77_2))) ?_
    refine P_det (by rfl) (Over_out (by rfl) (Over_nil (y_loadN (by rfl) Tryd.isAgg63 Tryd.sizeOf63 (Mem.own (us := [.int .i64 _, .int .i64 _]) 0 (by rfl) (by rfl)) (by rfl)))) ?_
    refine P_det (by rfl) (Over_out (by rfl) (Over_nil (y_move (c := .pointer _) (by rfl)))) ?_
    refine P_det (by rfl) (Over_out (by rfl) (Over_nil (y_move (c := .int .i64 _) (by rfl)))) ?_
    refine P_det (by rfl) (Over_out (by rfl) (Over_nil (y_loadN (by rfl) Tryd.isAgg63 Tryd.sizeOf63 (Mem.own (us := [.int .i64 _, .int .i64 _]) 1 (by rfl) (by rfl)) (by rfl)))) ?_
    refine P_det (by rfl) (Over_out (by rfl) (Over_nil (y_callL (by rfl) (by rfl) Tryd.call191 (fun w hw => before_any bk l i s w (hB.st w hw) hi hs)))) ?_
    refine P_det (by rfl) (Over_out (by rfl) (Over_nil (y_callL (by rfl) (by rfl) Tryd.call173 (fun w hw => more_any g 0 l.tk z (l.before i s) w (hG.st w hw) hz hb)))) ?_
    refine P_st 1000000 0 (by rfl) (by rfl) (by rfl) (by rfl) (by rfl) (Over_nil (st_pre (fun _ => by rfl) (fun _ => by rfl) Tryd.sizeOf63 (by rfl) (by rfl) (by first | decide | exact Nat.le_of_ble_eq_true rfl | simp))) ?_
    refine PW_end (by rfl) ?_
    refine OverAll_cons (fun w1000000 l1000000 => ?_)
    refine OverAll_nil ?_
    rintro ⟨-, h1000000⟩
    obtain rfl := h1000000
    refine Then_normal ?_
    refine W_ret ?_
    refine Fin_ret [_] [] Tryd.results165 ⟨lvN (by rfl) Tryd.isAgg63 Tryd.sizeOf63 (Mem.own (us := [.int .i64 _, .int .i64 _]) 0 (by rfl) (by rfl)) (by rfl), trivial⟩ HSub.nil ?_
    show Value.agg _ = _
    rw [hL0]; rfl
  ·
    have hF := wide_wide
    refine Ct_start (args := [_, _, _]) Tryd.func165 (by rfl) Tryd.ntmps165 (by rfl) ?_
    refine W_seq ?_
    refine W_region_lit (fun ds => ?_)
    refine WS_new hF (by rfl) (y_box (by rfl)) (fun b1 => ?_)
    refine WS_new hF (by rfl) (y_alloc Tryd.zeroValue63 (by rfl)) (fun b2 => ?_)
    refine WS_nil ?_
    refine Then_normal ?_
    refine W_seq ?_
    refine W_region_lit (fun ds => ?_)
    refine WS_det hF (by rfl) (y_move (c := .pointer _) (by rfl)) ?_
    refine WS_det hF (by rfl) (by first | exact y_nilCheck (by rfl) | exact y_nilCheckF (by rfl)) ?_
    refine WS_det hF (by rfl) (y_fieldAddr (by rfl) fa189_1) ?_
    refine WS_det hF (by rfl) (y_fieldAddr (by rfl) fa66_2) ?_
    refine WS_det hF (by rfl) (y_load1 (by rfl) Tryd.isAgg64 (by first | exact Mem.old1 (by assumption) | exact Mem.oldAt1 (by assumption) (by rfl) | exact Mem.old (by assumption) | exact Mem.oldAtL1 (by assumption) (by rfl) (by rfl))) ?_
    refine WS_det hF (by rfl) (y_move (c := .int .i64 _) (by rfl)) ?_
    refine WS_det hF (by rfl) (y_index (k := i) (by rfl) (by rfl) (by first | rfl | omega) (by first | decide | omega) Tryd.runUnderlying64 Tryd.sizeOf77) ?_
    refine WS_det hF (by rfl) (y_loadN (by rfl) Tryd.isAgg77 Tryd.sizeOf77 (by first | exact Mem.old (by assumption) | exact Mem.oldAt (us := [.int .i64 _, .int .i64 _, .int .i64 _, .int .i64 _]) (by assumption) (by rfl) | exact Mem.oldAtL (us := [.int .i64 _, .int .i64 _, .int .i64 _, .int .i64 _]) (by assumption) (by rfl) (by rfl)) (by rfl)) ?_
    refine WS_new hF (by rfl) (y_alloc Tryd.zeroValue77 (by rfl)) (fun b3 => ?_)
    refine WS_store hF (i := 0) (by rfl) (by rfl) Tryd.sizeOf77 (by rfl) (by rfl) (by rfl) (by first | decide | exact Nat.le_of_ble_eq_true rfl | simp) ?_
    refine WS_nil ?_
    refine Then_normal ?_
    refine W_seq ?_
    apply W_draw1 hF Trydmixed [1000000] (i := 1) (by rfl) (by decide +kernel)
    intro ds
    refine P_det (by rfl) (Over_out (by rfl) (Over_nil (y_move (c := .pointer _) (by rfl)))) ?_
    refine P_det (by rfl) (Over_out (by rfl) (Over_nil (y_fieldAddr (by rfl) fa77_1))) ?_
    refine P_det (by rfl) (Over_out (by rfl) (Over_nil (y_load1 (by rfl) Tryd.isAgg3 (Mem.own1 0 (by rfl) (by rfl))))) ?_
    refine P_det (by rfl) (Over_out (by rfl) (Over_nil (by first | exact y_nilCheck (by rfl) | exact y_nilCheckF (by rfl)))) ?_
    refine P_det (by rfl) (Over_out (by rfl) (Over_nil (y_fieldAddr (by rfl) fa189_2))) ?_
    refine P_det (by rfl) (Over_out (by rfl) (Over_nil (y_indexA (k := 2) (by rfl) (by rfl) (by first | rfl | omega) (by first | decide | omega) Tryd.runUnderlying187 Tryd.sizeOf186))) ?_
    refine P_det (by rfl) (Over_out (by rfl) (Over_nil (y_fieldAddr (by rfl) fa186_1))) ?_
    refine P_det (by rfl) (Over_out (by rfl) (Over_nil (y_load1 (by rfl) Tryd.isAgg184 (by first | exact Mem.old1 (by assumption) | exact Mem.oldAt1 (by assumption) (by rfl) | exact Mem.old (by assumption) | exact Mem.oldAtL1 (by assumption) (by rfl) (by rfl))))) ?_
    refine P_det (by rfl) (Over_out (by rfl) (Over_nil (y_move (c := .pointer _) (by rfl)))) ?_
    refine P_det (by rfl) (Over_out (by rfl) (Over_nil (by first | exact y_nilCheck (by rfl) | exact y_nilCheckF (by rfl)))) ?_
    refine P_det (by rfl) (Over_out (by rfl) (Over_nil (y_fieldAddr (by rfl) fa189_0))) ?_
    refine P_det (by rfl) (Over_out (by rfl) (Over_nil (y_load1 (by rfl) Tryd.isAgg182 (by first | exact Mem.old1 (by assumption) | exact Mem.oldAt1 (by assumption) (by rfl) | exact Mem.old (by assumption) | exact Mem.oldAtL1 (by assumption) (by rfl) (by rfl))))) ?_
    refine P_det (by rfl) (Over_out (by rfl) (Over_nil (y_fieldAddr (by rfl) fa77_2))) ?_
    refine P_det (by rfl) (Over_out (by rfl) (Over_nil (y_loadN (by rfl) Tryd.isAgg63 Tryd.sizeOf63 (Mem.own (us := [.int .i64 _, .int .i64 _]) 0 (by rfl) (by rfl)) (by rfl)))) ?_
    refine P_det (by rfl) (Over_out (by rfl) (Over_nil (y_move (c := .pointer _) (by rfl)))) ?_
    refine P_det (by rfl) (Over_out (by rfl) (Over_nil (y_move (c := .int .i64 _) (by rfl)))) ?_
    refine P_det (by rfl) (Over_out (by rfl) (Over_nil (y_loadN (by rfl) Tryd.isAgg63 Tryd.sizeOf63 (Mem.own (us := [.int .i64 _, .int .i64 _]) 1 (by rfl) (by rfl)) (by rfl)))) ?_
    refine P_det (by rfl) (Over_out (by rfl) (Over_nil (y_callL (by rfl) (by rfl) Tryd.call191 (fun w hw => before_any bk l i s w (hB.st w hw) hi hs)))) ?_
    refine P_det (by rfl) (Over_out (by rfl) (Over_nil (y_callL (by rfl) (by rfl) Tryd.call174 (fun w hw => tless_any g 0 l.tk z (l.before i s) w (hG.st w hw) hz hb)))) ?_
    refine P_st 1000000 0 (by rfl) (by rfl) (by rfl) (by rfl) (by rfl) (Over_nil (st_pre (fun _ => by rfl) (fun _ => by rfl) Tryd.sizeOf63 (by rfl) (by rfl) (by first | decide | exact Nat.le_of_ble_eq_true rfl | simp))) ?_
    refine PW_end (by rfl) ?_
    refine OverAll_cons (fun w1000000 l1000000 => ?_)
    refine OverAll_nil ?_
    rintro ⟨-, h1000000⟩
    obtain rfl := h1000000
    refine Then_normal ?_
    refine W_ret ?_
    refine Fin_ret [_] [] Tryd.results165 ⟨lvN (by rfl) Tryd.isAgg63 Tryd.sizeOf63 (Mem.own (us := [.int .i64 _, .int .i64 _]) 0 (by rfl) (by rfl)) (by rfl), trivial⟩ HSub.nil ?_
    show Value.agg _ = _
    rw [hL0]; rfl
  ·
    have hF := wide_wide
    refine Ct_start (args := [_, _, _]) Tryd.func165 (by rfl) Tryd.ntmps165 (by rfl) ?_
    refine W_seq ?_
    refine W_region_lit (fun ds => ?_)
    refine WS_new hF (by rfl) (y_box (by rfl)) (fun b1 => ?_)
    refine WS_new hF (by rfl) (y_alloc Tryd.zeroValue63 (by rfl)) (fun b2 => ?_)
    refine WS_nil ?_
    refine Then_normal ?_
    refine W_seq ?_
    refine W_region_lit (fun ds => ?_)
    refine WS_det hF (by rfl) (y_move (c := .pointer _) (by rfl)) ?_
    refine WS_det hF (by rfl) (by first | exact y_nilCheck (by rfl) | exact y_nilCheckF (by rfl)) ?_
    refine WS_det hF (by rfl) (y_fieldAddr (by rfl) fa189_1) ?_
    refine WS_det hF (by rfl) (y_fieldAddr (by rfl) fa66_2) ?_
    refine WS_det hF (by rfl) (y_load1 (by rfl) Tryd.isAgg64 (by first | exact Mem.old1 (by assumption) | exact Mem.oldAt1 (by assumption) (by rfl) | exact Mem.old (by assumption) | exact Mem.oldAtL1 (by assumption) (by rfl) (by rfl))) ?_
    refine WS_det hF (by rfl) (y_move (c := .int .i64 _) (by rfl)) ?_
    refine WS_det hF (by rfl) (y_index (k := i) (by rfl) (by rfl) (by first | rfl | omega) (by first | decide | omega) Tryd.runUnderlying64 Tryd.sizeOf77) ?_
    refine WS_det hF (by rfl) (y_loadN (by rfl) Tryd.isAgg77 Tryd.sizeOf77 (by first | exact Mem.old (by assumption) | exact Mem.oldAt (us := [.int .i64 _, .int .i64 _, .int .i64 _, .int .i64 _]) (by assumption) (by rfl) | exact Mem.oldAtL (us := [.int .i64 _, .int .i64 _, .int .i64 _, .int .i64 _]) (by assumption) (by rfl) (by rfl)) (by rfl)) ?_
    refine WS_new hF (by rfl) (y_alloc Tryd.zeroValue77 (by rfl)) (fun b3 => ?_)
    refine WS_store hF (i := 0) (by rfl) (by rfl) Tryd.sizeOf77 (by rfl) (by rfl) (by rfl) (by first | decide | exact Nat.le_of_ble_eq_true rfl | simp) ?_
    refine WS_nil ?_
    refine Then_normal ?_
    refine W_seq ?_
    apply W_draw1 hF Trydmixed [1000000] (i := 1) (by rfl) (by decide +kernel)
    intro ds
    refine P_det (by rfl) (Over_out (by rfl) (Over_nil (y_move (c := .pointer _) (by rfl)))) ?_
    refine P_det (by rfl) (Over_out (by rfl) (Over_nil (y_fieldAddr (by rfl) fa77_1))) ?_
    refine P_det (by rfl) (Over_out (by rfl) (Over_nil (y_load1 (by rfl) Tryd.isAgg3 (Mem.own1 0 (by rfl) (by rfl))))) ?_
    refine P_det (by rfl) (Over_out (by rfl) (Over_nil (by first | exact y_nilCheck (by rfl) | exact y_nilCheckF (by rfl)))) ?_
    refine P_det (by rfl) (Over_out (by rfl) (Over_nil (y_fieldAddr (by rfl) fa189_2))) ?_
    refine P_det (by rfl) (Over_out (by rfl) (Over_nil (y_indexA (k := 3) (by rfl) (by rfl) (by first | rfl | omega) (by first | decide | omega) Tryd.runUnderlying187 Tryd.sizeOf186))) ?_
    refine P_det (by rfl) (Over_out (by rfl) (Over_nil (y_fieldAddr (by rfl) fa186_1))) ?_
    refine P_det (by rfl) (Over_out (by rfl) (Over_nil (y_load1 (by rfl) Tryd.isAgg184 (by first | exact Mem.old1 (by assumption) | exact Mem.oldAt1 (by assumption) (by rfl) | exact Mem.old (by assumption) | exact Mem.oldAtL1 (by assumption) (by rfl) (by rfl))))) ?_
    refine P_det (by rfl) (Over_out (by rfl) (Over_nil (y_move (c := .pointer _) (by rfl)))) ?_
    refine P_det (by rfl) (Over_out (by rfl) (Over_nil (by first | exact y_nilCheck (by rfl) | exact y_nilCheckF (by rfl)))) ?_
    refine P_det (by rfl) (Over_out (by rfl) (Over_nil (y_fieldAddr (by rfl) fa189_0))) ?_
    refine P_det (by rfl) (Over_out (by rfl) (Over_nil (y_load1 (by rfl) Tryd.isAgg182 (by first | exact Mem.old1 (by assumption) | exact Mem.oldAt1 (by assumption) (by rfl) | exact Mem.old (by assumption) | exact Mem.oldAtL1 (by assumption) (by rfl) (by rfl))))) ?_
    refine P_det (by rfl) (Over_out (by rfl) (Over_nil (y_fieldAddr (by rfl) fa77_2))) ?_
    refine P_det (by rfl) (Over_out (by rfl) (Over_nil (y_loadN (by rfl) Tryd.isAgg63 Tryd.sizeOf63 (Mem.own (us := [.int .i64 _, .int .i64 _]) 0 (by rfl) (by rfl)) (by rfl)))) ?_
    refine P_det (by rfl) (Over_out (by rfl) (Over_nil (y_move (c := .pointer _) (by rfl)))) ?_
    refine P_det (by rfl) (Over_out (by rfl) (Over_nil (y_move (c := .int .i64 _) (by rfl)))) ?_
    refine P_det (by rfl) (Over_out (by rfl) (Over_nil (y_loadN (by rfl) Tryd.isAgg63 Tryd.sizeOf63 (Mem.own (us := [.int .i64 _, .int .i64 _]) 1 (by rfl) (by rfl)) (by rfl)))) ?_
    refine P_det (by rfl) (Over_out (by rfl) (Over_nil (y_callL (by rfl) (by rfl) Tryd.call191 (fun w hw => before_any bk l i s w (hB.st w hw) hi hs)))) ?_
    refine P_det (by rfl) (Over_out (by rfl) (Over_nil (y_callL (by rfl) (by rfl) Tryd.call176 (fun w hw => seen_any g 0 l.tk z (l.before i s) w (hG.st w hw) hq)))) ?_
    refine P_st 1000000 0 (by rfl) (by rfl) (by rfl) (by rfl) (by rfl) (Over_nil (st_pre (fun _ => by rfl) (fun _ => by rfl) Tryd.sizeOf63 (by rfl) (by rfl) (by first | decide | exact Nat.le_of_ble_eq_true rfl | simp))) ?_
    refine PW_end (by rfl) ?_
    refine OverAll_cons (fun w1000000 l1000000 => ?_)
    refine OverAll_nil ?_
    rintro ⟨-, h1000000⟩
    obtain rfl := h1000000
    refine Then_normal ?_
    refine W_ret ?_
    refine Fin_ret [_] [] Tryd.results165 ⟨lvN (by rfl) Tryd.isAgg63 Tryd.sizeOf63 (Mem.own (us := [.int .i64 _, .int .i64 _]) 0 (by rfl) (by rfl)) (by rfl), trivial⟩ HSub.nil ?_
    show Value.agg _ = _
    rw [hL0]; rfl
end Go.Proofs.YtjekjehgmljbgaaDoor.T

/- opened: a log at work. -/
namespace Go.Proofs.YtjekjehgmljbgaaDoor.T
open Go.RowKit Go.Proofs Go.Eng
set_option maxRecDepth 100000
set_option maxHeartbeats 1000000
set_option linter.unusedVariables false
set_option linter.unusedSimpArgs false

theorem bd189_0_1_2 {x0 : Option Addr} {x1_0a : Option Addr} {x1_0l x1_0c : Nat} {x1_1 : Int} {x1_2 : Int} {x1_3 : Int} {x1_4 : Int} {x1_5a : Option Addr} {x1_5l x1_5c : Nat} {x2_0 : Value} {x2_1 : Value} {x2_2 : Value} {x2_3 : Value} {x2_4 : Value} {x2_5 : Value} {x2_6 : Value} {x2_7 : Value} {x2_8 : Value} {x2_9 : Value} {x2_10 : Value} {x2_11 : Value} : ∀ w, (Instr.build 189 #[(0, .pointer x0), (1, .agg #[.slice x1_0a x1_0l x1_0c, .int .i64 x1_1, .int .i64 x1_2, .int .i64 x1_3, .int .i64 x1_4, .slice x1_5a x1_5l x1_5c]), (2, .agg #[x2_0, x2_1, x2_2, x2_3, x2_4, x2_5, x2_6, x2_7, x2_8, x2_9, x2_10, x2_11])]).run Tryd.prog w = .ok (.agg #[.pointer x0, .slice x1_0a x1_0l x1_0c, .int .i64 x1_1, .int .i64 x1_2, .int .i64 x1_3, .int .i64 x1_4, .slice x1_5a x1_5l x1_5c, x2_0, x2_1, x2_2, x2_3, x2_4, x2_5, x2_6, x2_7, x2_8, x2_9, x2_10, x2_11]) w := fun w => by kernel_rfl
theorem fa186_0 : ∀ b o w, (Instr.fieldAt 186 (.pointer (some ⟨b, o, none⟩)) 0).run Tryd.prog w = .ok (.pointer (some ⟨b, o + 0, none⟩)) w := fun b o w => by kernel_rfl
theorem fa66_0 : ∀ b o w, (Instr.fieldAt 66 (.pointer (some ⟨b, o, none⟩)) 0).run Tryd.prog w = .ok (.pointer (some ⟨b, o + 0, none⟩)) w := fun b o w => by kernel_rfl
theorem fa66_1 : ∀ b o w, (Instr.fieldAt 66 (.pointer (some ⟨b, o, none⟩)) 1).run Tryd.prog w = .ok (.pointer (some ⟨b, o + 3, none⟩)) w := fun b o w => by kernel_rfl

def gaugeCells (t : Tk) (a : Option Addr) (cap : Nat) : List Value := [.slice a t.n cap, .int .i64 t.leak, .int .i64 t.foot, .int .i64 t.full, .int .i64 t.height]
def Lg.err (l : Lg) : Int := if l.tk.okB then if l.okB then 0 else 31 else 30
/-- What comes of a log: a book in two new blocks, or none. -/
def BookV (l : Lg) (a : Option Addr) (cap : Nat) (ae : Option Addr) (cape : Nat) (v : Value) (Hn : List Blk) : Prop :=
  ∃ p, v = .tuple #[.pointer p, .int .i64 l.err] ∧ (l.err = 0 → ∃ g b, p = some ⟨b, 0, none⟩ ∧ Hn = [(b, CB (bookCells g l a cap ae cape) 189), (g, CB (gaugeCells l.tk a cap) 191)]) ∧ (l.err ≠ 0 → Hn = [])
theorem Tk.entsB_take (t : Tk) : ∀ (es : List En) (day : Int) (k : Nat) (h : k < es.length), t.entsB day es = (t.entsB day (es.take k) && t.entsB (if k = 0 then day else (es.getD (k - 1) En.z).day) (es.drop k))
  | [], _, k, h => by simp at h
  | x :: es, day, 0, _ => by simp [Tk.entsB]
  | x :: es, day, k + 1, h => by
    rw [List.take_succ_cons, List.drop_succ_cons, Tk.entsB, Tk.entsB]
    cases k with
    | zero => simp [Tk.entsB]
    | succ k =>
      rw [Tk.entsB_take t es x.day (k + 1) (by simpa using h), Bool.and_assoc]
      simp
theorem Tk.entsB_succ (t : Tk) : ∀ (es : List En) (day : Int) (k : Nat) (h : k < es.length), t.entsB day (es.take (k + 1)) = (t.entsB day (es.take k) && t.entB (if k = 0 then day else (es.getD (k - 1) En.z).day) (es.getD k En.z))
  | [], _, k, h => by simp at h
  | x :: es, day, 0, _ => by simp [Tk.entsB]
  | x :: es, day, k + 1, h => by
    have hk : k < es.length := by simpa using h
    rw [List.take_succ_cons, List.take_succ_cons, Tk.entsB, Tk.entsB, Tk.entsB_succ t es x.day k hk, Bool.and_assoc]
    congr 2
    cases k with
    | zero => simp
    | succ k => simp
theorem Tk.entsB_bad (t : Tk) {es : List En} {day : Int} {k : Nat} (h : k < es.length) (hb : t.entB (if k = 0 then day else (es.getD (k - 1) En.z).day) (es.getD k En.z) = false) : t.entsB day es = false := by
  rw [t.entsB_take es day k h]
  have : es.drop k = es.getD k En.z :: es.drop (k + 1) := by
    rw [List.drop_eq_getElem_cons h]; simp [List.getD_eq_getElem?_getD, h]
  rw [this, Tk.entsB, hb]; simp
def Lg.dayAt (l : Lg) (k : Nat) : Int := if k = 0 then 0 else (l.e (k - 1)).day
def rightF (kind : Int) : FuncId := if kind = 3 then 175 else 172
theorem right_call (kind : Int) : ∀ args w, (callFunc (rightF kind) args).run Tryd.prog w = .ok (.enter (rightF kind) args) w := by
  unfold rightF
  split
  · exact Tryd.call175
  · exact Tryd.call172
theorem right_any (kind : Int) (g og : Nat) (t : Tk) (s : Sn) (w : World) (hG : Gg w g og t) :
    Ct Tryd.prog (rightF kind) #[.pointer (some ⟨g, og, none⟩), .agg s.cells.toArray] w fun v _ => v = .bool (s.inB (t.most kind)) := by
  unfold rightF Tk.most
  split
  · exact forms2_any g og t s.lo s.hi w hG
  · exact forms1_any g og t s.lo s.hi w hG
theorem right_cell (g : Nat) (l : Lg) (a : Option Addr) (cap : Nat) (ae : Option Addr) (cape : Nat) (k : Nat) (h : 1 ≤ k ∧ k ≤ 3) : (bookCells g l a cap ae cape)[7 + k * 3]? = some (.func (.func (rightF (k : Int))) #[] #[]) := by
  obtain rfl | rfl | rfl : k = 1 ∨ k = 2 ∨ k = 3 := by omega
  · rfl
  · rfl
  · rfl

theorem opened_any (l : Lg) (a : Option Addr) (cap : Nat) (ae : Option Addr) (cape : Nat) (w : World) (hn : l.tk.n ≤ 1000000) (hx : Ints w a l.tk.n cap l.tk.pints) (he : Ens w ae l.es.length cape l.es) :
    Ct Tryd.prog 116 #[.agg #[.slice a l.tk.n cap, .int .i64 l.tk.leak, .int .i64 l.tk.foot, .int .i64 l.start.lo, .int .i64 l.start.hi, .slice ae l.es.length cape]] w (BookV l a cap ae cape) := by
  have hF := wide_wide
  refine Ct_start (args := [_]) Tryd.func116 (by rfl) Tryd.ntmps116 (by rfl) ?_
  refine W_seq ?_
  refine W_region_lit (fun ds => ?_)
  refine WS_new hF (by rfl) (y_box (by rfl)) (fun b1 => ?_)
  refine WS_det hF (by rfl) (y_assign (c := .pointer _) (by rfl)) ?_
  refine WS_det hF (by rfl) (y_assign (c := .int .i64 _) (by rfl)) ?_
  refine WS_nil ?_
  refine Then_normal ?_
  refine W_seq ?_
  refine W_region_lit (fun ds => ?_)
  refine WS_det hF (by rfl) (y_fieldAddr (by rfl) fa66_0) ?_
  refine WS_det hF (by rfl) (y_loadN (by rfl) Tryd.isAgg61 Tryd.sizeOf61 (Mem.own (us := [.slice _ _ _, .int .i64 _, .int .i64 _]) 0 (by rfl) (by rfl)) (by rfl)) ?_
  refine WS_gen hF (by rfl) (y_callL (by rfl) (by rfl) Tryd.call143 (fun w hw => gauged_any l.tk a cap w hn (hx.st w hw))) ?_
  rintro _ Hg ⟨p, rfl, hg1, hg2⟩
  refine WS_det hF (by rfl) (y_move (c := .tuple _) (by rfl)) ?_
  refine WS_det hF (by rfl) (y_extract (c := .pointer _) (by rfl) (by rfl)) ?_
  refine WS_det hF (by rfl) (y_extract (c := .bool _) (by rfl) (by rfl)) ?_
  refine WS_det hF (by rfl) (y_assign (c := .pointer _) (by rfl)) ?_
  refine WS_det hF (by rfl) (y_assign (c := .bool _) (by rfl)) ?_
  refine WS_nil ?_
  refine Then_normal ?_
  refine W_seq ?_
  refine W_seq ?_
  refine W_region_lit (fun ds => ?_)
  refine WS_det hF (by rfl) (y_move (c := .bool _) (by rfl)) ?_
  refine WS_det hF (by rfl) (y_not (by rfl)) ?_
  refine WS_nil ?_
  refine Then_normal ?_
  refine W_cond (by rfl) (fun c2 => ?_) (fun c2 => ?_)
  ·
    try simp only [Bool.not_eq_true', Bool.not_eq_false', decide_eq_true_eq, decide_eq_false_iff_not, ne_eq, Classical.not_not, Int.not_lt, Int.not_le] at c2
    obtain rfl := hg2 c2
    refine W_seq ?_
    refine W_region_lit (fun ds => ?_)
    refine WS_det hF (by rfl) (y_assign (c := .pointer _) (by rfl)) ?_
    refine WS_det hF (by rfl) (y_assign (c := .int .i64 _) (by rfl)) ?_
    refine WS_nil ?_
    refine Then_normal ?_
    refine W_ret ?_
    refine Then_ret ?_
    refine Fin_ret [.pointer _, .int .i64 _] [] Tryd.results116 ⟨by rfl, by rfl, trivial⟩ HSub.nil ?_
    have h30 : l.err = 30 := by simp [Lg.err, c2]
    refine ⟨none, ?_, fun h => by omega, fun _ => rfl⟩
    rw [h30]; rfl
  ·
    try simp only [Bool.not_eq_true', Bool.not_eq_false', decide_eq_true_eq, decide_eq_false_iff_not, ne_eq, Classical.not_not, Int.not_lt, Int.not_le] at c2
    obtain ⟨g, rfl, rfl⟩ := hg1 c2
    refine W_skip ?_
    refine Then_normal ?_
    refine W_seq ?_
    refine W_draw0 hF Trydmixed [] (by decide +kernel) (fun ds => ?_)
    refine P_det (by rfl) (Over_nil (y_move (c := .pointer _) (by rfl))) ?_
    refine P_det (by rfl) (Over_nil (y_loadN (by rfl) Tryd.isAgg66 Tryd.sizeOf66 (Mem.own (us := [.slice _ _ _, .int .i64 _, .int .i64 _, .int .i64 _, .int .i64 _, .slice _ _ _]) 1 (by rfl) (by rfl)) (by rfl))) ?_
    refine P_det (by rfl) (Over_nil (y_callL (by rfl) (by rfl) Tryd.call144 (fun w hw => forms_any w))) ?_
    refine P_det (by rfl) (Over_nil (y_buildL bd189_0_1_2 (by rfl))) ?_
    refine P_new (by rfl) (by rfl) (Over_nil (y_box (by rfl))) ?_
    refine P_ali [22] (fun e => e 22) (by rfl) (by rfl) (by rfl) (fun _ _ h => h 22 (List.mem_singleton.2 rfl)) (Over_in (by rfl) (Over_nil (by rintro _ _ ⟨b2, rfl, rfl⟩; exact (YD0_of (y_assign (c := .pointer _) (by rfl)))))) ?_
    refine PW_end (by rfl) ?_
    refine OverAll_cons (fun w6 l6 => ?_)
    refine OverAll_cons (fun w22 l22 => ?_)
    refine OverAll_nil ?_
    rintro ⟨⟨-, h6⟩, h22⟩
    obtain ⟨bk, rfl, rfl⟩ := h22
    obtain ⟨h6, rfl⟩ := h6
    replace h6 : w6 = .pointer _ := h6
    subst h6
    refine Then_normal ?_
    refine W_seq ?_
    refine W_seq ?_
    refine W_draw0 hF Trydmixed [] (by decide +kernel) (fun ds => ?_)
    refine P_det (by rfl) (Over_nil (y_fieldAddr (by rfl) fa66_1)) ?_
    refine P_det (by rfl) (Over_nil (y_loadN (by rfl) Tryd.isAgg63 Tryd.sizeOf63 (Mem.own (us := [.int .i64 _, .int .i64 _]) 2 (by rfl) (by rfl)) (by rfl))) ?_
    refine P_det (by rfl) (Over_nil (y_move (c := .pointer _) (by rfl))) ?_
    refine P_det (by rfl) (Over_nil (by first | exact y_nilCheck (by rfl) | exact y_nilCheckF (by rfl))) ?_
    refine P_det (by rfl) (Over_nil (y_fieldAddr (by rfl) fa191_1)) ?_
    refine P_det (by rfl) (Over_nil (y_load1 (by rfl) Tryd.isAgg3 (Mem.own1 1 (by rfl) (by rfl)))) ?_
    refine P_det (by rfl) (Over_nil (y_callL (by rfl) (by rfl) Tryd.call145 (fun w hw => span_any _ _ _ w))) ?_
    refine P_det (by rfl) (Over_nil (y_not (by rfl))) ?_
    refine P_det (by rfl) (Over_nil (y_move (c := .bool _) (by rfl))) ?_
    refine P_split 31 (by rfl) (fun g5_8 => ?_) (fun g5_8 => ?_)
    ·
      try simp only [Bool.not_eq_true', Bool.not_eq_false', decide_eq_true_eq, decide_eq_false_iff_not, ne_eq, Classical.not_not, Int.not_lt, Int.not_le] at g5_8
      refine P_no (by rfl) ?_
      refine P_no (by rfl) ?_
      refine P_no (by rfl) ?_
      refine P_no (by rfl) ?_
      refine P_det (by rfl) (Over_nil (by first | exact y_pick_t (c := .bool _) (by rfl) (by rfl) | exact y_pick_f (c := .bool _) (by rfl) (by rfl))) ?_
      refine PW_end (by rfl) ?_
      refine OverAll_nil ?_
      rintro -
      refine Then_normal ?_
      refine W_cond (by rfl) (fun c5 => ?_) (fun c5 => ?_)
      ·
        try simp only [Bool.not_eq_true', Bool.not_eq_false', decide_eq_true_eq, decide_eq_false_iff_not, ne_eq, Classical.not_not, Int.not_lt, Int.not_le] at c5
        refine W_seq ?_
        refine W_region_lit (fun ds => ?_)
        refine WS_det hF (by rfl) (y_assign (c := .pointer _) (by rfl)) ?_
        refine WS_det hF (by rfl) (y_assign (c := .int .i64 _) (by rfl)) ?_
        refine WS_nil ?_
        refine Then_normal ?_
        refine W_ret ?_
        refine Then_ret ?_
        refine Fin_ret [.pointer _, .int .i64 _] [] Tryd.results116 ⟨by rfl, by rfl, trivial⟩ HSub.nil ?_
        have hs : l.start.inB l.tk.full = false := g5_8
        have h31 : l.err = 31 := by simp [Lg.err, Lg.okB, c2, hs]
        refine ⟨none, ?_, fun h => by omega, fun _ => rfl⟩
        rw [h31]; rfl
      · cases c5
    ·
      try simp only [Bool.not_eq_true', Bool.not_eq_false', decide_eq_true_eq, decide_eq_false_iff_not, ne_eq, Classical.not_not, Int.not_lt, Int.not_le] at g5_8
      refine P_det (by rfl) (Over_nil (y_fieldAddr (by rfl) fa66_2)) ?_
      refine P_det (by rfl) (Over_nil (y_load1 (by rfl) Tryd.isAgg64 (Mem.own1 2 (by rfl) (by rfl)))) ?_
      refine P_det (by rfl) (Over_nil (y_len (by rfl) Tryd.runUnderlying64)) ?_
      refine P_det (by rfl) (Over_nil (y_gtr (by rfl) (by rfl))) ?_
      refine P_det (by rfl) (Over_nil (by first | exact y_pick_t (c := .bool _) (by rfl) (by rfl) | exact y_pick_f (c := .bool _) (by rfl) (by rfl))) ?_
      refine PW_end (by rfl) ?_
      refine OverAll_nil ?_
      rintro -
      refine Then_normal ?_
      refine W_cond (by rfl) (fun c5 => ?_) (fun c5 => ?_)
      ·
        try simp only [Bool.not_eq_true', Bool.not_eq_false', decide_eq_true_eq, decide_eq_false_iff_not, ne_eq, Classical.not_not, Int.not_lt, Int.not_le] at c5
        refine W_seq ?_
        refine W_region_lit (fun ds => ?_)
        refine WS_det hF (by rfl) (y_assign (c := .pointer _) (by rfl)) ?_
        refine WS_det hF (by rfl) (y_assign (c := .int .i64 _) (by rfl)) ?_
        refine WS_nil ?_
        refine Then_normal ?_
        refine W_ret ?_
        refine Then_ret ?_
        refine Fin_ret [.pointer _, .int .i64 _] [] Tryd.results116 ⟨by rfl, by rfl, trivial⟩ HSub.nil ?_
        have h31 : l.err = 31 := by
          have : decide (l.es.length ≤ 12) = false := by simp; omega
          simp [Lg.err, Lg.okB, c2, this]
        refine ⟨none, ?_, fun h => by omega, fun _ => rfl⟩
        rw [h31]; rfl
      ·
        try simp only [Bool.not_eq_true', Bool.not_eq_false', decide_eq_true_eq, decide_eq_false_iff_not, ne_eq, Classical.not_not, Int.not_lt, Int.not_le] at c5
        refine W_skip ?_
        refine Then_normal ?_
        refine W_seq ?_
        refine W_region_lit (fun ds => ?_)
        refine WS_det hF (by rfl) (y_assign (c := .int .i64 _) (by rfl)) ?_
        refine WS_nil ?_
        refine Then_normal ?_
        refine W_seq ?_
        refine W_seq ?_
        refine W_region_lit (fun ds => ?_)
        refine WS_det hF (by rfl) (y_fieldAddr (by rfl) fa66_2) ?_
        refine WS_det hF (by rfl) (y_load1 (by rfl) Tryd.isAgg64 (Mem.own1 2 (by rfl) (by rfl))) ?_
        refine WS_det hF (by rfl) (y_len (by rfl) Tryd.runUnderlying64) ?_
        refine WS_det hF (by rfl) (y_move (c := .int .i64 _) (by rfl)) ?_
        refine WS_nil ?_
        refine Then_normal ?_
        refine W_block ?_
        refine W_loop (γ := Nat) (fun k => k ≤ l.es.length ∧ l.tk.entsB 0 (l.es.take k) = true) (fun k => [(40, .int .i64 (k : Int)), (39, .int .i64 (l.es.length : Int)), (38, .slice ae l.es.length cape), (7, .int .i64 (l.dayAt k)), (1, .pointer (some ⟨b1, 0, none⟩)), (4, .pointer (some ⟨g, 0, none⟩)), (6, .pointer (some ⟨bk, 0, none⟩))]) (fun _ => _) (fun k => l.es.length - k) (0) ⟨Nat.zero_le _, rfl⟩ (by repeat (first | exact trivial | refine ⟨by rfl, ?_⟩)) (List.Sublist.refl _) ?_
        rintro k e ⟨hk, hent⟩
        refine W_seq ?_
        refine W_region_lit (fun ds => ?_)
        refine WS_det hF (by rfl) (y_lss (by rfl) (by rfl)) ?_
        refine WS_nil ?_
        refine Then_normal ?_
        refine W_seq ?_
        refine W_cond (by rfl) (fun c9 => ?_) (fun c9 => ?_)
        ·
          try simp only [Bool.not_eq_true', Bool.not_eq_false', decide_eq_true_eq, decide_eq_false_iff_not, ne_eq, Classical.not_not, Int.not_lt, Int.not_le] at c9
          obtain ⟨b, o, rfl, hc⟩ := he.cell k (by omega)
          change At w b _ (l.e k).cells at hc
          refine W_skip ?_
          refine Then_normal ?_
          refine W_seq ?_
          refine W_block ?_
          refine W_seq ?_
          refine W_region_lit (fun ds => ?_)
          refine WS_det hF (by rfl) (y_index (k := k) (by rfl) (by rfl) (by first | rfl | omega) (by first | decide | omega) Tryd.runUnderlying64 Tryd.sizeOf77) ?_
          refine WS_det hF (by rfl) (y_loadN (by rfl) Tryd.isAgg77 Tryd.sizeOf77 (by first | exact Mem.old (by assumption) | exact Mem.oldAt (us := [.int .i64 _, .int .i64 _, .int .i64 _, .int .i64 _]) (by assumption) (by rfl) | exact Mem.oldAtL (us := [.int .i64 _, .int .i64 _, .int .i64 _, .int .i64 _]) (by assumption) (by rfl) (by rfl)) (by rfl)) ?_
          refine WS_new hF (by rfl) (y_alloc Tryd.zeroValue77 (by rfl)) (fun b4 => ?_)
          refine WS_store hF (i := 0) (by rfl) (by rfl) Tryd.sizeOf77 (by rfl) (by rfl) (by rfl) (by first | decide | exact Nat.le_of_ble_eq_true rfl | simp) ?_
          refine WS_nil ?_
          refine Then_normal ?_
          refine W_seq ?_
          refine W_seq ?_
          refine W_draw0 hF Trydmixed [] (by decide +kernel) (fun ds => ?_)
          refine P_det (by rfl) (Over_nil (y_move (c := .int .i64 _) (by rfl))) ?_
          refine P_det (by rfl) (Over_nil (y_fieldAddr (by rfl) fa77_0)) ?_
          refine P_det (by rfl) (Over_nil (y_load1 (by rfl) Tryd.isAgg3 (Mem.own1 0 (by rfl) (by rfl)))) ?_
          refine P_new (by rfl) (by rfl) (Over_nil (y_buildSliceL bs22_1_0 (by rfl))) ?_
          refine P_det (by rfl) (Over_in (by rfl) (Over_nil (by rintro _ _ ⟨b6, rfl, rfl⟩; exact (y_callL (by rfl) (by rfl) Tryd.call117 (fun w hw => in_any _ _ _ _ _ _ w (by decide) (by first | exact Ints.one 0 rfl w hw | exact Ints.two 0 rfl w hw)))))) ?_
          refine P_det (by rfl) (Over_out (by rfl) (Over_nil (y_not (by rfl)))) ?_
          refine P_det (by rfl) (Over_out (by rfl) (Over_nil (y_move (c := .bool _) (by rfl)))) ?_
          refine P_split 50 (by rfl) (fun g11_6 => ?_) (fun g11_6 => ?_)
          ·
            try simp only [Bool.not_eq_true', Bool.not_eq_false', decide_eq_true_eq, decide_eq_false_iff_not, ne_eq, Classical.not_not, Int.not_lt, Int.not_le] at g11_6
            refine P_no (by rfl) ?_
            refine P_no (by rfl) ?_
            refine P_no (by rfl) ?_
            refine P_no (by rfl) ?_
            refine P_no (by rfl) ?_
            refine P_det (by rfl) (Over_out (by rfl) (Over_nil (by first | exact y_pick_t (c := .bool _) (by rfl) (by rfl) | exact y_pick_f (c := .bool _) (by rfl) (by rfl)))) ?_
            refine P_det (by rfl) (Over_out (by rfl) (Over_nil (y_move (c := .bool _) (by rfl)))) ?_
            refine P_no (by rfl) ?_
            refine P_no (by rfl) ?_
            refine P_no (by rfl) ?_
            refine P_no (by rfl) ?_
            refine P_no (by rfl) ?_
            refine P_no (by rfl) ?_
            refine P_no (by rfl) ?_
            refine P_no (by rfl) ?_
            refine P_no (by rfl) ?_
            refine P_no (by rfl) ?_
            refine P_no (by rfl) ?_
            refine P_no (by rfl) ?_
            refine P_no (by rfl) ?_
            refine P_det (by rfl) (Over_out (by rfl) (Over_nil (by first | exact y_pick_t (c := .bool _) (by rfl) (by rfl) | exact y_pick_f (c := .bool _) (by rfl) (by rfl)))) ?_
            refine PW_end (by rfl) ?_
            refine OverAll_cons (fun w47 l47 => ?_)
            refine OverAll_nil ?_
            rintro ⟨-, h47⟩
            obtain ⟨b5, rfl, rfl⟩ := h47
            refine Then_normal ?_
            refine W_cond (by rfl) (fun c11 => ?_) (fun c11 => ?_)
            ·
              try simp only [Bool.not_eq_true', Bool.not_eq_false', decide_eq_true_eq, decide_eq_false_iff_not, ne_eq, Classical.not_not, Int.not_lt, Int.not_le] at c11
              refine W_seq ?_
              refine W_region_lit (fun ds => ?_)
              refine WS_det hF (by rfl) (y_assign (c := .pointer _) (by rfl)) ?_
              refine WS_det hF (by rfl) (y_assign (c := .int .i64 _) (by rfl)) ?_
              refine WS_nil ?_
              refine Then_normal ?_
              refine W_ret ?_
              refine Then_ret ?_
              refine InB_ret ?_
              refine Then_ret ?_
              refine Loop_ret ?_
              refine InB_ret ?_
              refine Then_ret ?_
              refine Fin_ret [.pointer _, .int .i64 _] [] Tryd.results116 ⟨by rfl, by rfl, trivial⟩ HSub.nil ?_
              have hbad : l.tk.entB (if k = 0 then 0 else (l.es.getD (k - 1) En.z).day) (l.es.getD k En.z) = false := by
                show l.tk.entB (l.dayAt k) (l.e k) = false
                unfold Tk.entB
                rw [show inB (l.dayAt k) 3652 [(l.e k).day] = false from g11_6]; rfl
              have h31 : l.err = 31 := by simp [Lg.err, Lg.okB, c2, l.tk.entsB_bad (by omega) hbad]
              refine ⟨none, ?_, fun h => by omega, fun _ => rfl⟩
              rw [h31]; rfl
            · cases c11
          ·
            try simp only [Bool.not_eq_true', Bool.not_eq_false', decide_eq_true_eq, decide_eq_false_iff_not, ne_eq, Classical.not_not, Int.not_lt, Int.not_le] at g11_6
            refine P_det (by rfl) (Over_out (by rfl) (Over_nil (y_fieldAddr (by rfl) fa77_1))) ?_
            refine P_det (by rfl) (Over_out (by rfl) (Over_nil (y_load1 (by rfl) Tryd.isAgg3 (Mem.own1 0 (by rfl) (by rfl))))) ?_
            refine P_new (by rfl) (by rfl) (Over_out (by rfl) (Over_nil (y_buildSliceL bs22_1_0 (by rfl)))) ?_
            refine P_det (by rfl) (Over_in (by rfl) (Over_out (by rfl) (Over_nil (by rintro _ _ ⟨b8, rfl, rfl⟩; exact (y_callL (by rfl) (by rfl) Tryd.call117 (fun w hw => in_any _ _ _ _ _ _ w (by decide) (by first | exact Ints.one 0 rfl w hw | exact Ints.two 0 rfl w hw))))))) ?_
            refine P_det (by rfl) (Over_out (by rfl) (Over_out (by rfl) (Over_nil (y_not (by rfl))))) ?_
            refine P_det (by rfl) (Over_out (by rfl) (Over_out (by rfl) (Over_nil (by first | exact y_pick_t (c := .bool _) (by rfl) (by rfl) | exact y_pick_f (c := .bool _) (by rfl) (by rfl))))) ?_
            refine P_det (by rfl) (Over_out (by rfl) (Over_out (by rfl) (Over_nil (y_move (c := .bool _) (by rfl))))) ?_
            refine P_split 57 (by rfl) (fun g11_13 => ?_) (fun g11_13 => ?_)
            ·
              try simp only [Bool.not_eq_true', Bool.not_eq_false', decide_eq_true_eq, decide_eq_false_iff_not, ne_eq, Classical.not_not, Int.not_lt, Int.not_le] at g11_13
              refine P_no (by rfl) ?_
              refine P_no (by rfl) ?_
              refine P_no (by rfl) ?_
              refine P_no (by rfl) ?_
              refine P_no (by rfl) ?_
              refine P_no (by rfl) ?_
              refine P_no (by rfl) ?_
              refine P_no (by rfl) ?_
              refine P_no (by rfl) ?_
              refine P_no (by rfl) ?_
              refine P_no (by rfl) ?_
              refine P_no (by rfl) ?_
              refine P_no (by rfl) ?_
              refine P_det (by rfl) (Over_out (by rfl) (Over_out (by rfl) (Over_nil (by first | exact y_pick_t (c := .bool _) (by rfl) (by rfl) | exact y_pick_f (c := .bool _) (by rfl) (by rfl))))) ?_
              refine PW_end (by rfl) ?_
              refine OverAll_cons (fun w53 l53 => ?_)
              refine OverAll_cons (fun w47 l47 => ?_)
              refine OverAll_nil ?_
              rintro ⟨⟨-, h53⟩, h47⟩
              obtain ⟨b5, rfl, rfl⟩ := h47
              obtain ⟨b7, rfl, rfl⟩ := h53
              refine Then_normal ?_
              refine W_cond (by rfl) (fun c11 => ?_) (fun c11 => ?_)
              ·
                try simp only [Bool.not_eq_true', Bool.not_eq_false', decide_eq_true_eq, decide_eq_false_iff_not, ne_eq, Classical.not_not, Int.not_lt, Int.not_le] at c11
                refine W_seq ?_
                refine W_region_lit (fun ds => ?_)
                refine WS_det hF (by rfl) (y_assign (c := .pointer _) (by rfl)) ?_
                refine WS_det hF (by rfl) (y_assign (c := .int .i64 _) (by rfl)) ?_
                refine WS_nil ?_
                refine Then_normal ?_
                refine W_ret ?_
                refine Then_ret ?_
                refine InB_ret ?_
                refine Then_ret ?_
                refine Loop_ret ?_
                refine InB_ret ?_
                refine Then_ret ?_
                refine Fin_ret [.pointer _, .int .i64 _] [] Tryd.results116 ⟨by rfl, by rfl, trivial⟩ HSub.nil ?_
                have hbad : l.tk.entB (if k = 0 then 0 else (l.es.getD (k - 1) En.z).day) (l.es.getD k En.z) = false := by
                  show l.tk.entB (l.dayAt k) (l.e k) = false
                  unfold Tk.entB
                  rw [show inB 1 3 [(l.e k).kind] = false from g11_13, Bool.and_false]; rfl
                have h31 : l.err = 31 := by simp [Lg.err, Lg.okB, c2, l.tk.entsB_bad (by omega) hbad]
                refine ⟨none, ?_, fun h => by omega, fun _ => rfl⟩
                rw [h31]; rfl
              · cases c11
            ·
              try simp only [Bool.not_eq_true', Bool.not_eq_false', decide_eq_true_eq, decide_eq_false_iff_not, ne_eq, Classical.not_not, Int.not_lt, Int.not_le] at g11_13
              have hkd := inB1.1 g11_13
              obtain ⟨kk, hkk⟩ : ∃ kk : Nat, (l.e k).kind = (kk : Int) := Int.eq_ofNat_of_zero_le (by omega)
              refine P_det (by rfl) (Over_out (by rfl) (Over_out (by rfl) (Over_nil (y_move (c := .pointer _) (by rfl))))) ?_
              refine P_det (by rfl) (Over_out (by rfl) (Over_out (by rfl) (Over_nil (y_fieldAddr (by rfl) fa77_1)))) ?_
              refine P_det (by rfl) (Over_out (by rfl) (Over_out (by rfl) (Over_nil (y_load1 (by rfl) Tryd.isAgg3 (Mem.own1 0 (by rfl) (by rfl)))))) ?_
              refine P_det (by rfl) (Over_out (by rfl) (Over_out (by rfl) (Over_nil (by first | exact y_nilCheck (by rfl) | exact y_nilCheckF (by rfl))))) ?_
              refine P_det (by rfl) (Over_out (by rfl) (Over_out (by rfl) (Over_nil (y_fieldAddr (by rfl) fa189_2)))) ?_
              refine P_det (by rfl) (Over_out (by rfl) (Over_out (by rfl) (Over_nil (y_indexA (k := kk) (by rfl) (by rfl) (by first | rfl | omega) (by first | decide | omega) Tryd.runUnderlying187 Tryd.sizeOf186)))) ?_
              refine P_det (by rfl) (Over_out (by rfl) (Over_out (by rfl) (Over_nil (y_fieldAddr (by rfl) fa186_0)))) ?_
              refine P_det (by rfl) (Over_out (by rfl) (Over_out (by rfl) (Over_nil (y_load1 (by rfl) Tryd.isAgg183 (by first | exact Mem.own1 0 (by rfl) (right_cell _ l _ cap _ cape kk (by omega)) | exact Mem.own1 1 (by rfl) (right_cell _ l _ cap _ cape kk (by omega)) | exact Mem.own1 2 (by rfl) (right_cell _ l _ cap _ cape kk (by omega))))))) ?_
              refine P_det (by rfl) (Over_out (by rfl) (Over_out (by rfl) (Over_nil (y_move (c := .pointer _) (by rfl))))) ?_
              refine P_det (by rfl) (Over_out (by rfl) (Over_out (by rfl) (Over_nil (y_fieldAddr (by rfl) fa77_2)))) ?_
              refine P_det (by rfl) (Over_out (by rfl) (Over_out (by rfl) (Over_nil (y_loadN (by rfl) Tryd.isAgg63 Tryd.sizeOf63 (Mem.own (us := [.int .i64 _, .int .i64 _]) 0 (by rfl) (by rfl)) (by rfl))))) ?_
              refine P_det (by rfl) (Over_out (by rfl) (Over_out (by rfl) (Over_nil (y_callL (by rfl) (by rfl) (right_call _) (fun w hw => right_any _ g 0 l.tk (l.e k).size w (Gg.own (by repeat (first | exact List.mem_cons_self | apply List.mem_cons_of_mem)) c2 hx w hw)))))) ?_
              refine P_det (by rfl) (Over_out (by rfl) (Over_out (by rfl) (Over_nil (y_not (by rfl))))) ?_
              refine P_det (by rfl) (Over_out (by rfl) (Over_out (by rfl) (Over_nil (by first | exact y_pick_t (c := .bool _) (by rfl) (by rfl) | exact y_pick_f (c := .bool _) (by rfl) (by rfl))))) ?_
              refine PW_end (by rfl) ?_
              refine OverAll_cons (fun w53 l53 => ?_)
              refine OverAll_cons (fun w47 l47 => ?_)
              refine OverAll_nil ?_
              rintro ⟨⟨-, h53⟩, h47⟩
              obtain ⟨b5, rfl, rfl⟩ := h47
              obtain ⟨b7, rfl, rfl⟩ := h53
              refine Then_normal ?_
              refine W_cond (by rfl) (fun c11 => ?_) (fun c11 => ?_)
              ·
                try simp only [Bool.not_eq_true', Bool.not_eq_false', decide_eq_true_eq, decide_eq_false_iff_not, ne_eq, Classical.not_not, Int.not_lt, Int.not_le] at c11
                refine W_seq ?_
                refine W_region_lit (fun ds => ?_)
                refine WS_det hF (by rfl) (y_assign (c := .pointer _) (by rfl)) ?_
                refine WS_det hF (by rfl) (y_assign (c := .int .i64 _) (by rfl)) ?_
                refine WS_nil ?_
                refine Then_normal ?_
                refine W_ret ?_
                refine Then_ret ?_
                refine InB_ret ?_
                refine Then_ret ?_
                refine Loop_ret ?_
                refine InB_ret ?_
                refine Then_ret ?_
                refine Fin_ret [.pointer _, .int .i64 _] [] Tryd.results116 ⟨by rfl, by rfl, trivial⟩ HSub.nil ?_
                have hbad : l.tk.entB (if k = 0 then 0 else (l.es.getD (k - 1) En.z).day) (l.es.getD k En.z) = false := by
                  show l.tk.entB (l.dayAt k) (l.e k) = false
                  unfold Tk.entB
                  rw [show (l.e k).size.inB (l.tk.most (l.e k).kind) = false by rw [hkk]; exact c11, Bool.and_false]
                have h31 : l.err = 31 := by simp [Lg.err, Lg.okB, c2, l.tk.entsB_bad (by omega) hbad]
                refine ⟨none, ?_, fun h => by omega, fun _ => rfl⟩
                rw [h31]; rfl
              ·
                try simp only [Bool.not_eq_true', Bool.not_eq_false', decide_eq_true_eq, decide_eq_false_iff_not, ne_eq, Classical.not_not, Int.not_lt, Int.not_le] at c11
                have hgood : (true && l.tk.entB (if k = 0 then 0 else (l.es.getD (k - 1) En.z).day) (l.es.getD k En.z)) = true := by
                  rw [Bool.true_and]
                  show l.tk.entB (l.dayAt k) (l.e k) = true
                  unfold Tk.entB
                  rw [show inB (l.dayAt k) 3652 [(l.e k).day] = true from g11_6, show inB 1 3 [(l.e k).kind] = true from g11_13, show (l.e k).size.inB (l.tk.most (l.e k).kind) = true by rw [hkk]; exact c11]; rfl
                refine W_skip ?_
                refine Then_normal ?_
                refine W_region_lit (fun ds => ?_)
                refine WS_det hF (by rfl) (y_fieldAddr (by rfl) fa77_0) ?_
                refine WS_det hF (by rfl) (y_load1 (by rfl) Tryd.isAgg3 (Mem.own1 2 (by rfl) (by rfl))) ?_
                refine WS_det hF (by rfl) (y_assign (c := .int .i64 _) (by rfl)) ?_
                refine WS_nil ?_
                refine InB_normal ?_
                refine Then_normal ?_
                refine W_region_lit (fun ds => ?_)
                refine WS_det hF (by rfl) (y_add (by rfl) (by rfl) (by unfold I64; omega)) ?_
                refine WS_det hF (by rfl) (y_move (c := .int .i64 _) (by rfl)) ?_
                refine WS_nil ?_
                exact Loop_next (k + 1) ⟨by omega, by rw [l.tk.entsB_succ l.es 0 k (by omega), hent]; exact hgood⟩ (by repeat (first | exact trivial | refine ⟨by rfl, ?_⟩)) (by repeat (first | exact List.Sublist.refl _ | exact List.nil_sublist _ | apply List.Sublist.cons_cons | apply List.Sublist.cons)) (by omega)
        ·
          try simp only [Bool.not_eq_true', Bool.not_eq_false', decide_eq_true_eq, decide_eq_false_iff_not, ne_eq, Classical.not_not, Int.not_lt, Int.not_le] at c9
          refine W_exit ?_
          refine Then_exit ?_
          refine Loop_exit ?_
          refine InB_same ?_
          refine Then_normal ?_
          refine W_seq ?_
          refine W_region_lit (fun ds => ?_)
          refine WS_det hF (by rfl) (y_move (c := .pointer _) (by rfl)) ?_
          refine WS_det hF (by rfl) (y_assign (c := .pointer _) (by rfl)) ?_
          refine WS_det hF (by rfl) (y_assign (c := .int .i64 _) (by rfl)) ?_
          refine WS_nil ?_
          refine Then_normal ?_
          refine W_ret ?_
          have h0 : l.err = 0 := by
            have hkn : k = l.es.length := by omega
            rw [hkn, List.take_length] at hent
            have hs : l.start.inB l.tk.full = true := g5_8
            have h12 : decide (l.es.length ≤ 12) = true := by simp; omega
            simp [Lg.err, Lg.okB, c2, hs, hent, h12]
          refine Fin_ret [.pointer _, .int .i64 _] [(bk, _), (g, _)] Tryd.results116 ⟨by rfl, by rfl, trivial⟩ (HSub.sub (by repeat (first | exact List.nil_sublist _ | apply List.Sublist.cons_cons | apply List.Sublist.cons))) ?_
          refine ⟨_, by rw [h0]; rfl, fun _ => ⟨g, bk, rfl, rfl⟩, fun h => absurd h0 h⟩
end Go.Proofs.YtjekjehgmljbgaaDoor.T

/- What a tank can hold at all times: the iterator. -/
namespace Go.Proofs.YtjekjehgmljbgaaDoor.T
open Go.RowKit Go.Proofs Go.Eng
set_option maxRecDepth 100000
set_option maxHeartbeats 1000000
set_option linter.unusedVariables false
set_option linter.unusedSimpArgs false



theorem holding_any (bk : Nat) (w : World) : Ct Tryd.prog 135 #[.pointer (some ⟨bk, 0, none⟩)] w fun v Hn => ∃ bx, v = .func (.func 164) #[] #[.pointer (some ⟨bx, 0, none⟩)] ∧ Hn = [(bx, CB [.pointer (some ⟨bk, 0, none⟩)] 178)] := by
  have hF := wide_wide
  refine Ct_start (args := [_]) Tryd.func135 (by rfl) Tryd.ntmps135 (by rfl) ?_
  refine W_seq ?_
  refine W_region_lit (fun ds => ?_)
  refine WS_new hF (by rfl) (y_box (by rfl)) (fun b1 => ?_)
  refine WS_det hF (by rfl) (y_assign (c := _) (by rfl)) ?_
  refine WS_nil ?_
  refine Then_normal ?_
  refine W_seq ?_
  refine W_region_lit (fun ds => ?_)
  refine WS_det hF (by rfl) (y_makeFuncL (by rfl) (by rfl)) ?_
  refine WS_det hF (by rfl) (y_assign (c := _) (by rfl)) ?_
  refine WS_nil ?_
  refine Then_normal ?_
  refine W_ret ?_
  refine Fin_ret [_] [(b1, _)] Tryd.results135 ⟨by rfl, trivial⟩ (HSub.sub (by repeat (first | exact List.nil_sublist _ | apply List.Sublist.cons_cons | apply List.Sublist.cons))) ?_
  exact ⟨_, rfl, rfl⟩
theorem Bk.own {C : Ctx} {H : List Blk} {bk g : Nat} {l : Lg} {a : Option Addr} {cap : Nat} {ae : Option Addr} {cape : Nat} (hb : (bk, CB (bookCells g l a cap ae cape) 189) ∈ H) (hg : (g, CB (gaugeCells l.tk a cap) 191) ∈ H) (hok : l.Ok) (hx : Ints C.w0 a l.tk.n cap l.tk.pints) (he : Ens C.w0 ae l.es.length cape l.es)
    (w : World) (hw : St C H w) : Bk w bk l := by
  obtain ⟨i, hi, hii⟩ := List.mem_iff_getElem.1 hb
  exact ⟨hok, g, a, cap, ae, cape, Mem.own (rest := []) i ((List.getElem?_eq_getElem hi).trans (congrArg some hii)) (by rw [List.append_nil]; rfl) w hw, Gg.own hg (Tk.ok_iff.2 hok.tk) hx w hw, he.st w hw⟩
end Go.Proofs.YtjekjehgmljbgaaDoor.T

/- What a tank can hold: pure. -/
namespace Go.Proofs.YtjekjehgmljbgaaDoor.T
open Go.RowKit Go.Proofs Go.Eng
set_option maxRecDepth 100000
set_option maxHeartbeats 1000000
set_option linter.unusedVariables false

def Lg.hold (l : Lg) : Nat → Sn
  | 0 => l.start
  | k + 1 => l.after k (l.hold k)
def Sn.empty (s : Sn) : Bool := decide (s.hi < s.lo)
/-- How many times are told, from one on: till there is nothing, or no entry more. -/
def Lg.steps (l : Lg) (k : Nat) : Nat → Nat
  | 0 => 1
  | m + 1 => if (l.hold k).empty then 1 else 1 + l.steps (k + 1) m
theorem Lg.Ok.hold_bd {l : Lg} (h : l.Ok) : ∀ k, k ≤ l.es.length → (∀ j, j < k → (l.hold j).empty = false) → 0 ≤ (l.hold k).lo ∧ (l.hold k).hi ≤ l.tk.full ∧ (l.hold k).lo ≤ 700000 ∧ -700000 ≤ (l.hold k).hi
  | 0, _, _ => by
    have := Sn.inB_iff.1 h.start
    have := h.tk.full_bd
    show 0 ≤ l.start.lo ∧ l.start.hi ≤ _ ∧ _ ∧ _
    refine ⟨by omega, by omega, ?_, ?_⟩
    · show l.start.lo ≤ _; omega
    · show _ ≤ l.start.hi; omega
  | k + 1, hk, hj => by
    have ih := Lg.Ok.hold_bd h k (by omega) fun j hjk => hj j (by omega)
    have he := hj k (by omega)
    unfold Sn.empty at he
    simp only [decide_eq_false_iff_not, Int.not_lt] at he
    have hd := h.drip_bd (i := k) (by omega)
    have hf := h.tk.full_bd
    have hz := Sn.inB_iff.1 (h.size k (by omega))
    have hhb : l.tk.height ≤ 160 := by have := h.tk.n21; unfold Tk.height; omega
    have hup := h.tk.eight_bd (x := (l.e k).size.lo)
    have hdn := h.tk.eight_bd (x := (l.e k).size.hi)
    show 0 ≤ (l.after k (l.hold k)).lo ∧ (l.after k (l.hold k)).hi ≤ _ ∧ (l.after k (l.hold k)).lo ≤ 700000 ∧ -700000 ≤ (l.after k (l.hold k)).hi
    generalize l.hold k = s at *
    unfold Lg.after Tk.forth Lg.before
    unfold Tk.most at hz
    split
    · rename_i h1
      rw [if_neg (by omega)] at hz
      simp only [Sn.met, Sn.add, Tk.all]
      omega
    · split
      · rename_i h1 h2
        rw [if_neg (by omega)] at hz
        simp only [Sn.met, Sn.sub, Tk.all]
        omega
      · rename_i h1 h2
        have hk := h.kind k (by omega)
        rw [if_pos (by omega)] at hz
        have hup := hup (by omega) (by omega)
        have hdn := hdn (by omega) (by omega)
        simp only [Sn.met, Tk.dip, Tk.up, Tk.down]
        omega
end Go.Proofs.YtjekjehgmljbgaaDoor.T

/- The iterator of what a tank can hold. -/
namespace Go.Proofs.YtjekjehgmljbgaaDoor.T
open Go.RowKit Go.Proofs Go.Eng
set_option maxRecDepth 100000
set_option maxHeartbeats 1000000
set_option linter.unusedVariables false
set_option linter.unusedSimpArgs false



theorem Lg.Ok.hold_sm {l : Lg} (h : l.Ok) {k : Nat} (hk : k ≤ l.es.length) (hj : ∀ j, j < k → (l.hold j).empty = false) (he : (l.hold k).empty = false) : (l.hold k).Sm := by
  have h1 := h.hold_bd k hk hj
  have hf := h.tk.full_bd
  unfold Sn.empty at he
  simp only [decide_eq_false_iff_not, Int.not_lt] at he
  unfold Sn.Sm
  omega
def Lg.times (l : Lg) : Nat := l.steps 0 l.es.length
theorem Lg.steps_pos (l : Lg) (k m : Nat) : 1 ≤ l.steps k m := by
  cases m with
  | zero => exact Nat.le_refl _
  | succ m => unfold Lg.steps; split <;> omega

theorem Lg.steps_more (l : Lg) {k m : Nat} (he : (l.hold k).empty = false) : l.steps k (m + 1) = 1 + l.steps (k + 1) m := by
  rw [Lg.steps, he]; rfl
theorem Lg.steps_end (l : Lg) {k m : Nat} (he : (l.hold k).empty = true) : l.steps k m = 1 := by
  cases m with
  | zero => rfl
  | succ m => rw [Lg.steps, he]; rfl
theorem holding_it (l : Lg) (w0 : World) (ds0 out0 : List Deferred) (bx bk g : Nat) (a : Option Addr) (cap : Nat) (ae : Option Addr) (cape : Nat) (hok : l.Ok) (hx : Ints w0 a l.tk.n cap l.tk.pints) (he : Ens w0 ae l.es.length cape l.es) :
    It ⟨Tryd.prog, w0, ds0, out0⟩ 164 [.pointer (some ⟨bx, 0, none⟩)] (fun k => [.int .i64 (k : Int), .agg (l.hold k).cells.toArray]) l.times
      [(bx, CB [.pointer (some ⟨bk, 0, none⟩)] 178), (bk, CB (bookCells g l a cap ae cape) 189), (g, CB (gaugeCells l.tk a cap) 191)] := by
  intro lp J Jx hY G hJ
  have h0 : 0 < l.times := l.steps_pos 0 _
  have hn := hok.n12
  have he0 : (l.hold 0).empty = false := by
    have := Sn.inB_iff.1 hok.start
    show decide (l.start.hi < l.start.lo) = false
    simp only [decide_eq_false_iff_not]; omega
  have hF := wide_wide
  refine Cs_start (args := [_, _]) Tryd.func164 (by rfl) Tryd.ntmps164 (by rfl) ?_
  refine W_seq ?_
  refine W_region_lit (fun ds => ?_)
  refine WS_det hF (by rfl) (y_load1 (by rfl) Tryd.isAgg178 (Mem.own1 0 (by rfl) (by rfl))) ?_
  refine WS_det hF (by rfl) (by first | exact y_nilCheck (by rfl) | exact y_nilCheckF (by rfl)) ?_
  refine WS_det hF (by rfl) (y_fieldAddr (by rfl) fa189_1) ?_
  refine WS_det hF (by rfl) (y_fieldAddr (by rfl) fa66_1) ?_
  refine WS_det hF (by rfl) (y_loadN (by rfl) Tryd.isAgg63 Tryd.sizeOf63 (Mem.own (us := [.int .i64 _, .int .i64 _]) 1 (by rfl) (by rfl)) (by rfl)) ?_
  refine WS_new hF (by rfl) (y_alloc Tryd.zeroValue63 (by rfl)) (fun b1 => ?_)
  refine WS_store hF (i := 0) (by rfl) (by rfl) Tryd.sizeOf63 (by rfl) (by rfl) (by rfl) (by first | decide | exact Nat.le_of_ble_eq_true rfl | simp) ?_
  refine WS_nil ?_
  refine Then_normal ?_
  refine W_seq ?_
  refine W_seq ?_
  refine W_region_lit (fun ds => ?_)
  refine WS_det hF (by rfl) (y_move (c := _) (by rfl)) ?_
  refine WS_det hF (by rfl) (y_loadN (by rfl) Tryd.isAgg63 Tryd.sizeOf63 (Mem.own (us := [.int .i64 _, .int .i64 _]) 0 (by rfl) (by rfl)) (by rfl)) ?_
  refine WS_yield (by rfl) (by rfl) (by rfl) (hY 0 h0 ds [_, _, _, _] G hJ) ?_
  rintro yb _ ⟨G1, rfl, hb⟩
  refine WS_det hF (by rfl) (y_not (by rfl)) ?_
  refine WS_nil ?_
  refine Then_normal ?_
  refine W_cond (by rfl) (fun c1 => ?_) (fun c1 => ?_)
  ·
    try simp only [Bool.not_eq_true', Bool.not_eq_false', decide_eq_true_eq, decide_eq_false_iff_not, ne_eq, Classical.not_not, Int.not_lt, Int.not_le] at c1
    obtain ⟨rfl, hj⟩ | ⟨_, hj⟩ := hb
    · cases c1
    refine W_ret ?_
    refine Then_ret ?_
    refine Fin_ret [] ((bx, _) :: (bk, _) :: (g, _) :: G1) Tryd.results164 trivial (HSub.sub (by repeat (first | exact List.Sublist.refl _ | exact List.nil_sublist _ | apply List.Sublist.cons_cons | apply List.Sublist.cons))) ?_
    exact ⟨G1, rfl, .inr ⟨0, h0, hj⟩⟩
  ·
    try simp only [Bool.not_eq_true', Bool.not_eq_false', decide_eq_true_eq, decide_eq_false_iff_not, ne_eq, Classical.not_not, Int.not_lt, Int.not_le] at c1
    obtain ⟨_, hj⟩ | ⟨rfl, hj⟩ := hb
    case inr => cases c1
    refine W_skip ?_
    refine Then_normal ?_
    refine W_seq ?_
    refine W_region_lit (fun ds => ?_)
    refine WS_det hF (by rfl) (y_load1 (by rfl) Tryd.isAgg178 (Mem.own1 1 (by rfl) (by rfl))) ?_
    refine WS_det hF (by rfl) (by first | exact y_nilCheck (by rfl) | exact y_nilCheckF (by rfl)) ?_
    refine WS_det hF (by rfl) (y_fieldAddr (by rfl) fa189_1) ?_
    refine WS_det hF (by rfl) (y_fieldAddr (by rfl) fa66_2) ?_
    refine WS_det hF (by rfl) (y_load1 (by rfl) Tryd.isAgg64 (Mem.own1 2 (by rfl) (by rfl))) ?_
    refine WS_det hF (by rfl) (y_len (by rfl) Tryd.runUnderlying64) ?_
    refine WS_det hF (by rfl) (y_move (c := .int .i64 _) (by rfl)) ?_
    refine WS_nil ?_
    refine Then_normal ?_
    refine W_block ?_
    refine W_loop (γ := Nat × List Blk) (fun p => p.1 ≤ l.es.length ∧ (∀ j, j ≤ p.1 → (l.hold j).empty = false) ∧ l.times = p.1 + l.steps p.1 (l.es.length - p.1) ∧ J (p.1 + 1) p.2) (fun p => [(0, .func (.yield lp) #[] #[]), (1, .pointer (some ⟨bx, 0, none⟩)), (3, .pointer (some ⟨b1, 0, none⟩)), (19, .int .i64 (l.es.length : Int)), (20, .int .i64 (p.1 : Int))]) (fun p => (b1, CB (l.hold p.1).cells 63) :: (bx, CB [.pointer (some ⟨bk, 0, none⟩)] 178) :: (bk, CB (bookCells g l a cap ae cape) 189) :: (g, CB (gaugeCells l.tk a cap) 191) :: p.2) (fun p => l.es.length - p.1) ((0, G1)) ⟨Nat.zero_le _, fun j hj => by obtain rfl : j = 0 := (by omega); exact he0, by show l.times = 0 + l.times; omega, hj⟩ (by repeat (first | exact trivial | refine ⟨by rfl, ?_⟩)) (List.Sublist.refl _) ?_
    rintro ⟨k, G2⟩ e ⟨hk, hne, htm, hj2⟩
    refine W_seq ?_
    refine W_region_lit (fun ds => ?_)
    refine WS_det hF (by rfl) (y_lss (by rfl) (by rfl)) ?_
    refine WS_nil ?_
    refine Then_normal ?_
    refine W_seq ?_
    refine W_cond (by rfl) (fun c3 => ?_) (fun c3 => ?_)
    ·
      try simp only [Bool.not_eq_true', Bool.not_eq_false', decide_eq_true_eq, decide_eq_false_iff_not, ne_eq, Classical.not_not, Int.not_lt, Int.not_le] at c3
      have hk1 : k + 1 < l.times := by
        rw [htm, show l.es.length - k = (l.es.length - (k + 1)) + 1 by omega, l.steps_more (hne k (Nat.le_refl _))]
        have := l.steps_pos (k + 1) (l.es.length - (k + 1))
        omega
      refine W_skip ?_
      refine Then_normal ?_
      refine W_seq ?_
      refine W_block ?_
      refine W_seq ?_
      refine W_region_lit (fun ds => ?_)
      refine WS_det hF (by rfl) (y_move (c := .int .i64 _) (by rfl)) ?_
      refine WS_det hF (by rfl) (y_assign (c := .int .i64 _) (by rfl)) ?_
      refine WS_nil ?_
      refine Then_normal ?_
      refine W_seq ?_
      refine W_region_lit (fun ds => ?_)
      refine WS_det hF (by rfl) (y_load1 (by rfl) Tryd.isAgg178 (Mem.own1 1 (by rfl) (by rfl))) ?_
      refine WS_det hF (by rfl) (y_move (c := .int .i64 _) (by rfl)) ?_
      refine WS_det hF (by rfl) (y_loadN (by rfl) Tryd.isAgg63 Tryd.sizeOf63 (Mem.own (us := [.int .i64 _, .int .i64 _]) 0 (by rfl) (by rfl)) (by rfl)) ?_
      refine WS_det hF (by rfl) (y_callL (by rfl) (by rfl) Tryd.call165 (fun w hw => after_any bk l k (l.hold k) w (Bk.own (by repeat (first | exact List.mem_cons_self | apply List.mem_cons_of_mem)) (by repeat (first | exact List.mem_cons_self | apply List.mem_cons_of_mem)) hok hx he w hw) (by omega) (hok.hold_sm (by omega) (fun j hj => hne j (by omega)) (hne k (Nat.le_refl _))))) ?_
      refine WS_store hF (i := 0) (by rfl) (by rfl) Tryd.sizeOf63 (by rfl) (by rfl) (by rfl) (by first | decide | exact Nat.le_of_ble_eq_true rfl | simp) ?_
      refine WS_nil ?_
      refine Then_normal ?_
      refine W_seq ?_
      refine W_region_lit (fun ds => ?_)
      refine WS_det hF (by rfl) (y_move (c := _) (by rfl)) ?_
      refine WS_det hF (by rfl) (y_move (c := .int .i64 _) (by rfl)) ?_
      refine WS_det hF (by rfl) (y_add (by rfl) (by rfl) (by unfold I64; omega)) ?_
      refine WS_det hF (by rfl) (y_loadN (by rfl) Tryd.isAgg63 Tryd.sizeOf63 (Mem.own (us := [.int .i64 _, .int .i64 _]) 0 (by rfl) (by rfl)) (by rfl)) ?_
      refine WS_yield (by rfl) (by rfl) (by rfl) (hY (k + 1) hk1 ds [_, _, _, _] G2 hj2) ?_
      rintro yb _ ⟨G3, rfl, hb⟩
      refine WS_det hF (by rfl) (y_not (by rfl)) ?_
      refine WS_det hF (by rfl) (y_move (c := .bool _) (by rfl)) ?_
      refine WS_split 33 (by rfl) (fun g6_6 => ?_) (fun g6_6 => ?_)
      ·
        try simp only [Bool.not_eq_true', Bool.not_eq_false', decide_eq_true_eq, decide_eq_false_iff_not, ne_eq, Classical.not_not, Int.not_lt, Int.not_le] at g6_6
        obtain ⟨rfl, hj3⟩ | ⟨_, hj3⟩ := hb
        · cases g6_6
        refine WS_no hF (by rfl) ?_
        refine WS_no hF (by rfl) ?_
        refine WS_det hF (by rfl) (by first | exact y_pick_t (c := .bool _) (by rfl) (by rfl) | exact y_pick_f (c := .bool _) (by rfl) (by rfl)) ?_
        refine WS_nil ?_
        refine Then_normal ?_
        refine W_cond (by rfl) (fun c6 => ?_) (fun c6 => ?_)
        ·
          try simp only [Bool.not_eq_true', Bool.not_eq_false', decide_eq_true_eq, decide_eq_false_iff_not, ne_eq, Classical.not_not, Int.not_lt, Int.not_le] at c6
          refine W_ret ?_
          refine InB_ret ?_
          refine Then_ret ?_
          refine Loop_ret ?_
          refine InB_ret ?_
          refine Fin_ret [] ((bx, _) :: (bk, _) :: (g, _) :: G3) Tryd.results164 trivial (HSub.sub (by repeat (first | exact List.Sublist.refl _ | exact List.nil_sublist _ | apply List.Sublist.cons_cons | apply List.Sublist.cons))) ?_
          exact ⟨G3, rfl, .inr ⟨k + 1, hk1, hj3⟩⟩
        · cases c6
      ·
        try simp only [Bool.not_eq_true', Bool.not_eq_false', decide_eq_true_eq, decide_eq_false_iff_not, ne_eq, Classical.not_not, Int.not_lt, Int.not_le] at g6_6
        obtain ⟨_, hj3⟩ | ⟨rfl, hj3⟩ := hb
        case inr => cases g6_6
        refine WS_det hF (by rfl) (y_loadN (by rfl) Tryd.isAgg63 Tryd.sizeOf63 (Mem.own (us := [.int .i64 _, .int .i64 _]) 0 (by rfl) (by rfl)) (by rfl)) ?_
        refine WS_det hF (by rfl) (y_callL (by rfl) (by rfl) Tryd.call136 (fun w hw => empty_any (l.hold (k + 1)).lo (l.hold (k + 1)).hi w)) ?_
        refine WS_det hF (by rfl) (by first | exact y_pick_t (c := .bool _) (by rfl) (by rfl) | exact y_pick_f (c := .bool _) (by rfl) (by rfl)) ?_
        refine WS_nil ?_
        refine Then_normal ?_
        refine W_cond (by rfl) (fun c6 => ?_) (fun c6 => ?_)
        ·
          try simp only [Bool.not_eq_true', Bool.not_eq_false', decide_eq_true_eq, decide_eq_false_iff_not, ne_eq, Classical.not_not, Int.not_lt, Int.not_le] at c6
          refine W_ret ?_
          refine InB_ret ?_
          refine Then_ret ?_
          refine Loop_ret ?_
          refine InB_ret ?_
          refine Fin_ret [] ((bx, _) :: (bk, _) :: (g, _) :: G3) Tryd.results164 trivial (HSub.sub (by repeat (first | exact List.Sublist.refl _ | exact List.nil_sublist _ | apply List.Sublist.cons_cons | apply List.Sublist.cons))) ?_
          refine ⟨G3, rfl, .inl ?_⟩
          rw [htm, show l.es.length - k = (l.es.length - (k + 1)) + 1 by omega, l.steps_more (hne k (Nat.le_refl _)), l.steps_end (by unfold Sn.empty; simp only [decide_eq_true_eq]; omega)]
          rw [show k + (1 + 1) = k + 1 + 1 by omega]
          exact hj3
        ·
          try simp only [Bool.not_eq_true', Bool.not_eq_false', decide_eq_true_eq, decide_eq_false_iff_not, ne_eq, Classical.not_not, Int.not_lt, Int.not_le] at c6
          have hne1 : ∀ j, j ≤ k + 1 → (l.hold j).empty = false := fun j hj => by
            obtain hj | rfl : j ≤ k ∨ j = k + 1 := by omega
            · exact hne j hj
            · unfold Sn.empty; simp only [decide_eq_false_iff_not]; omega
          have htm1 : l.times = (k + 1) + l.steps (k + 1) (l.es.length - (k + 1)) := by
            rw [htm, show l.es.length - k = (l.es.length - (k + 1)) + 1 by omega, l.steps_more (hne k (Nat.le_refl _))]; omega
          refine W_skip ?_
          refine InB_normal ?_
          refine Then_normal ?_
          refine W_region_lit (fun ds => ?_)
          refine WS_det hF (by rfl) (y_add (by rfl) (by rfl) (by unfold I64; omega)) ?_
          refine WS_det hF (by rfl) (y_move (c := .int .i64 _) (by rfl)) ?_
          refine WS_nil ?_
          exact Loop_next (k + 1, G3) ⟨by omega, hne1, htm1, hj3⟩ (by repeat (first | exact trivial | refine ⟨by rfl, ?_⟩)) (by repeat (first | exact List.Sublist.refl _ | exact List.nil_sublist _ | apply List.Sublist.cons_cons | apply List.Sublist.cons)) (by simp only; omega)
    ·
      try simp only [Bool.not_eq_true', Bool.not_eq_false', decide_eq_true_eq, decide_eq_false_iff_not, ne_eq, Classical.not_not, Int.not_lt, Int.not_le] at c3
      refine W_exit ?_
      refine Then_exit ?_
      refine Loop_exit ?_
      refine InB_same ?_
      refine Fin_norm [] ((bx, _) :: (bk, _) :: (g, _) :: G2) Tryd.results164 trivial (HSub.sub (by repeat (first | exact List.Sublist.refl _ | exact List.nil_sublist _ | apply List.Sublist.cons_cons | apply List.Sublist.cons))) ?_
      refine ⟨G2, rfl, .inl ?_⟩
      obtain rfl : k = l.es.length := by omega
      rw [htm, Nat.sub_self]; exact hj2
end Go.Proofs.YtjekjehgmljbgaaDoor.T

/- What may come before and after, by the entries behind: pure. -/
namespace Go.Proofs.YtjekjehgmljbgaaDoor.T
open Go.RowKit Go.Proofs Go.Eng
set_option maxRecDepth 100000
set_option maxHeartbeats 1000000
set_option linter.unusedVariables false

def Lg.aftR (l : Lg) : Nat → Sn
  | 0 => l.tk.all
  | m + 1 => ⟨(l.tk.back (l.e (l.es.length - (m + 1))) (l.aftR m)).lo, min l.tk.full ((l.tk.back (l.e (l.es.length - (m + 1))) (l.aftR m)).hi + l.drip (l.es.length - (m + 1)))⟩
def Lg.aft (l : Lg) (i : Nat) : Sn := l.aftR (l.es.length - i)
def Lg.ahd (l : Lg) (i : Nat) : Sn := l.tk.back (l.e i) (l.aft (i + 1))
theorem Lg.aft_n (l : Lg) : l.aft l.es.length = l.tk.all := by unfold Lg.aft; rw [Nat.sub_self]; rfl
theorem Lg.aft_lt (l : Lg) {i : Nat} (h : i < l.es.length) : l.aft i = ⟨(l.ahd i).lo, min l.tk.full ((l.ahd i).hi + l.drip i)⟩ := by
  unfold Lg.ahd Lg.aft
  obtain ⟨m, hm⟩ : ∃ m, l.es.length - i = m + 1 := ⟨l.es.length - i - 1, by omega⟩
  rw [hm, Lg.aftR, show l.es.length - (m + 1) = i by omega, show l.es.length - (i + 1) = m by omega]
def Sn.BB (s : Sn) (f k : Int) : Prop := 0 ≤ s.lo ∧ s.hi ≤ f ∧ s.lo ≤ 700000 * k ∧ -(700000 * k) ≤ s.hi
theorem Lg.Ok.back_bd {l : Lg} (h : l.Ok) {i : Nat} (hi : i < l.es.length) {s : Sn} {k : Int} (hk : 1 ≤ k) (hs : s.BB l.tk.full k) : (l.tk.back (l.e i) s).BB l.tk.full (k + 1) := by
  have hf := h.tk.full_bd
  have hz := Sn.inB_iff.1 (h.size i hi)
  have hhb : l.tk.height ≤ 160 := by have := h.tk.n21; unfold Tk.height; omega
  have hup := h.tk.eight_bd (x := (l.e i).size.lo)
  have hdn := h.tk.eight_bd (x := (l.e i).size.hi)
  have hkd := h.kind i hi
  unfold Sn.BB at hs ⊢
  unfold Tk.back
  unfold Tk.most at hz
  split
  · rename_i h1
    rw [if_neg (by omega)] at hz
    simp only [Sn.met, Sn.sub, Tk.all]
    omega
  · split
    · rename_i h1 h2
      rw [if_neg (by omega)] at hz
      simp only [Sn.met, Sn.add, Tk.all]
      omega
    · rename_i h1 h2
      rw [if_pos (by omega)] at hz
      have hup := hup (by omega) (by omega)
      have hdn := hdn (by omega) (by omega)
      simp only [Sn.met, Tk.dip, Tk.up, Tk.down]
      omega
theorem Lg.Ok.aftR_bd {l : Lg} (h : l.Ok) : ∀ m, m ≤ l.es.length → (l.aftR m).BB l.tk.full (m + 1)
  | 0, _ => by
    have hf := h.tk.full_bd
    unfold Lg.aftR Sn.BB Tk.all
    simp only
    omega
  | m + 1, hm => by
    have hb := h.back_bd (i := l.es.length - (m + 1)) (by omega) (k := m + 1) (by omega) (Lg.Ok.aftR_bd h m (by omega))
    have hd := h.drip_bd (i := l.es.length - (m + 1)) (by omega)
    have hf := h.tk.full_bd
    unfold Lg.aftR
    unfold Sn.BB at hb ⊢
    push_cast
    omega
theorem Lg.Ok.aft_bd {l : Lg} (h : l.Ok) {i : Nat} (hi : i ≤ l.es.length) : 0 ≤ (l.aft i).lo ∧ (l.aft i).hi ≤ l.tk.full ∧ (l.aft i).lo ≤ 10000000 ∧ -10000000 ≤ (l.aft i).hi := by
  have := h.aftR_bd (l.es.length - i) (by omega)
  have h12 := h.n12
  unfold Sn.BB at this
  unfold Lg.aft
  omega
theorem Lg.Ok.ahd_bd {l : Lg} (h : l.Ok) {i : Nat} (hi : i < l.es.length) : 0 ≤ (l.ahd i).lo ∧ (l.ahd i).hi ≤ l.tk.full ∧ (l.ahd i).lo ≤ 10000000 ∧ -10000000 ≤ (l.ahd i).hi := by
  have := h.back_bd hi (k := (l.es.length - (i + 1) : Nat) + 1) (by omega) (h.aftR_bd (l.es.length - (i + 1)) (by omega))
  have h12 := h.n12
  unfold Sn.BB at this
  unfold Lg.ahd Lg.aft
  omega
end Go.Proofs.YtjekjehgmljbgaaDoor.T

namespace Go.Proofs.YtjekjehgmljbgaaDoor.T
open Go.RowKit Go.Proofs Go.Eng
set_option maxRecDepth 100000
set_option maxHeartbeats 1000000
set_option linter.unusedVariables false
set_option linter.unusedSimpArgs false



theorem backward_any (ae : Option Addr) (n cape : Nat) (w : World) : Ct Tryd.prog 166 #[.slice ae n cape] w fun v Hn => ∃ bx, v = .func (.func 192) #[] #[.pointer (some ⟨bx, 0, none⟩)] ∧ Hn = [(bx, CB [.slice ae n cape] 64)] := by
  have hF := wide_wide
  refine Ct_start (args := [_]) Tryd.func166 (by rfl) Tryd.ntmps166 (by rfl) ?_
  refine W_seq ?_
  refine W_region_lit (fun ds => ?_)
  refine WS_new hF (by rfl) (y_box (by rfl)) (fun b1 => ?_)
  refine WS_det hF (by rfl) (y_assign (c := _) (by rfl)) ?_
  refine WS_nil ?_
  refine Then_normal ?_
  refine W_seq ?_
  refine W_region_lit (fun ds => ?_)
  refine WS_det hF (by rfl) (y_makeFuncL (by rfl) (by rfl)) ?_
  refine WS_det hF (by rfl) (y_assign (c := _) (by rfl)) ?_
  refine WS_nil ?_
  refine Then_normal ?_
  refine W_ret ?_
  refine Fin_ret [_] [(b1, _)] Tryd.results166 ⟨by rfl, trivial⟩ (HSub.sub (by repeat (first | exact List.nil_sublist _ | apply List.Sublist.cons_cons | apply List.Sublist.cons))) ?_
  exact ⟨_, rfl, rfl⟩
theorem backward_it (w0 : World) (ds0 out0 : List Deferred) (bx : Nat) (n : Nat) (ae : Option Addr) (cape : Nat) (es : List En) (hn : n ≤ 1000000) (he : Ens w0 ae n cape es) :
    It ⟨Tryd.prog, w0, ds0, out0⟩ 192 [.pointer (some ⟨bx, 0, none⟩)] (fun k => [.int .i64 ((n : Int) - 1 - (k : Int)), .agg (es.getD (n - 1 - k) En.z).cells.toArray]) n [(bx, CB [.slice ae n cape] 64)] := by
  intro lp J Jx hY G hJ
  have hF := wide_wide
  refine Cs_start (args := [_, _]) Tryd.func192 (by rfl) Tryd.ntmps192 (by rfl) ?_
  refine W_seq ?_
  refine W_region_lit (fun ds => ?_)
  refine WS_det hF (by rfl) (y_load1 (by rfl) Tryd.isAgg64 (Mem.own1 0 (by rfl) (by rfl))) ?_
  refine WS_det hF (by rfl) (y_len (by rfl) Tryd.runUnderlying64) ?_
  refine WS_det hF (by rfl) (y_sub (by rfl) (by rfl) (by unfold I64; omega)) ?_
  refine WS_det hF (by rfl) (y_assign (c := .int .i64 _) (by rfl)) ?_
  refine WS_nil ?_
  refine Then_normal ?_
  refine W_block ?_
  refine W_loop (γ := Nat × List Blk) (fun p => p.1 ≤ n ∧ J p.1 p.2) (fun p => [(0, .func (.yield lp) #[] #[]), (1, .pointer (some ⟨bx, 0, none⟩)), (3, .int .i64 ((n : Int) - 1 - (p.1 : Int)))]) (fun p => (bx, CB [.slice ae n cape] 64) :: p.2) (fun p => n - p.1) ((0, G)) ⟨Nat.zero_le _, hJ⟩ ((by repeat (first | exact trivial | refine ⟨by rfl, ?_⟩ | refine ⟨congrArg (Value.int _) (by first | omega | (simp only; omega) | (push_cast; omega)), ?_⟩))) (List.Sublist.refl _) ?_
  rintro ⟨k, G2⟩ e ⟨hk, hj2⟩
  refine W_seq ?_
  refine W_seq ?_
  refine W_region_lit (fun ds => ?_)
  refine WS_det hF (by rfl) (y_move (c := .int .i64 _) (by rfl)) ?_
  refine WS_det hF (by rfl) (y_geq (by rfl) (by rfl)) ?_
  refine WS_nil ?_
  refine Then_normal ?_
  refine W_cond (by rfl) (fun c1 => ?_) (fun c1 => ?_)
  ·
    try simp only [Bool.not_eq_true', Bool.not_eq_false', decide_eq_true_eq, decide_eq_false_iff_not, ne_eq, Classical.not_not, Int.not_lt, Int.not_le] at c1
    obtain ⟨b, o, rfl, hc⟩ := he.cell (n - 1 - k) (by omega)
    refine W_skip ?_
    refine Then_normal ?_
    refine W_seq ?_
    refine W_block ?_
    refine W_seq ?_
    refine W_region_lit (fun ds => ?_)
    refine WS_det hF (by rfl) (y_move (c := _) (by rfl)) ?_
    refine WS_det hF (by rfl) (y_move (c := .int .i64 _) (by rfl)) ?_
    refine WS_det hF (by rfl) (y_load1 (by rfl) Tryd.isAgg64 (Mem.own1 0 (by rfl) (by rfl))) ?_
    refine WS_det hF (by rfl) (y_move (c := .int .i64 _) (by rfl)) ?_
    refine WS_det hF (by rfl) (y_index (k := n - 1 - k) (by rfl) (by rfl) (by first | rfl | omega) (by first | decide | omega) Tryd.runUnderlying64 Tryd.sizeOf77) ?_
    refine WS_det hF (by rfl) (y_loadN (by rfl) Tryd.isAgg77 Tryd.sizeOf77 (by first | exact Mem.old (by assumption) | exact Mem.oldAt (us := [.int .i64 _, .int .i64 _, .int .i64 _, .int .i64 _]) (by assumption) (by rfl) | exact Mem.oldAtL (us := [.int .i64 _, .int .i64 _, .int .i64 _, .int .i64 _]) (by assumption) (by rfl) (by rfl)) (by rfl)) ?_
    refine WS_yield (by rfl) (by rfl) (by rfl) (hY k (by omega) ds [_] G2 hj2) ?_
    rintro yb _ ⟨G3, rfl, hb⟩
    refine WS_det hF (by rfl) (y_not (by rfl)) ?_
    refine WS_nil ?_
    refine Then_normal ?_
    refine W_cond (by rfl) (fun c3 => ?_) (fun c3 => ?_)
    ·
      try simp only [Bool.not_eq_true', Bool.not_eq_false', decide_eq_true_eq, decide_eq_false_iff_not, ne_eq, Classical.not_not, Int.not_lt, Int.not_le] at c3
      obtain ⟨rfl, hj3⟩ | ⟨_, hj3⟩ := hb
      · cases c3
      refine W_ret ?_
      refine InB_ret ?_
      refine Then_ret ?_
      refine Loop_ret ?_
      refine InB_ret ?_
      refine Fin_ret [] ((bx, _) :: G3) Tryd.results192 trivial (HSub.sub (by repeat (first | exact List.Sublist.refl _ | exact List.nil_sublist _ | apply List.Sublist.cons_cons | apply List.Sublist.cons))) ?_
      exact ⟨G3, rfl, .inr ⟨k, by omega, hj3⟩⟩
    ·
      try simp only [Bool.not_eq_true', Bool.not_eq_false', decide_eq_true_eq, decide_eq_false_iff_not, ne_eq, Classical.not_not, Int.not_lt, Int.not_le] at c3
      obtain ⟨_, hj3⟩ | ⟨rfl, hj3⟩ := hb
      case inr => cases c3
      refine W_skip ?_
      refine InB_normal ?_
      refine Then_normal ?_
      refine W_region_lit (fun ds => ?_)
      refine WS_det hF (by rfl) (y_move (c := .int .i64 _) (by rfl)) ?_
      refine WS_det hF (by rfl) (y_sub (by rfl) (by rfl) (by unfold I64; omega)) ?_
      refine WS_det hF (by rfl) (y_assign (c := .int .i64 _) (by rfl)) ?_
      refine WS_nil ?_
      exact Loop_next (k + 1, G3) ⟨by omega, hj3⟩ (by repeat (first | exact trivial | refine ⟨by rfl, ?_⟩ | refine ⟨congrArg (Value.int _) (by first | omega | (simp only; omega) | (push_cast; omega)), ?_⟩)) (by repeat (first | exact List.Sublist.refl _ | exact List.nil_sublist _ | apply List.Sublist.cons_cons | apply List.Sublist.cons)) (by simp only; omega)
  ·
    try simp only [Bool.not_eq_true', Bool.not_eq_false', decide_eq_true_eq, decide_eq_false_iff_not, ne_eq, Classical.not_not, Int.not_lt, Int.not_le] at c1
    refine W_exit ?_
    refine Then_exit ?_
    refine Loop_exit ?_
    refine InB_same ?_
    refine Fin_norm [] ((bx, _) :: G2) Tryd.results192 trivial (HSub.sub (by repeat (first | exact List.Sublist.refl _ | exact List.nil_sublist _ | apply List.Sublist.cons_cons | apply List.Sublist.cons))) ?_
    obtain rfl : k = n := by omega
    exact ⟨G2, rfl, .inl hj2⟩
end Go.Proofs.YtjekjehgmljbgaaDoor.T
