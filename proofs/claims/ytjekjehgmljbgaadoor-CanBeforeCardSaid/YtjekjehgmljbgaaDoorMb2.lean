/- The reference's Pour and Play, walked. -/
import Derived.Test.YtjekjehgmljbgaaDoorMb1
import Derived.Maps.RangeRun
import Derived.Test.YtjekjehgmljbgaaDoorChecked
import Derived.Laws.Bits64b
set_option linter.unusedVariables false
set_option linter.unusedSimpArgs false
/- Blocks whose contents nobody asks for any more: stores into them, one by one. No project text. -/
namespace Go.Eng
open Go.RowKit

theorem W_sub {C : Ctx} {F : Fence} {n : Nat} {ds : List Deferred} {c : Code} {Q : Exit → Env → List Blk → Prop} {e : Env} {H H' : List Blk} (hs : HSub H H') (h : W C F n ds c Q e H') : W C F n ds c Q e H :=
  fun dd w hw a ha => h dd w ⟨hw.1, hs _ _ hw.2, hw.3⟩ a ha
theorem W_perm {C : Ctx} {F : Fence} {n : Nat} {ds : List Deferred} {c : Code} {Q : Exit → Env → List Blk → Prop} {e : Env} {H H' : List Blk} (hs : H.Perm H') (h : W C F n ds c Q e H') : W C F n ds c Q e H :=
  W_sub (fun _ _ h => h.perm hs.symm) h
section
variable {S1 S2 M M' L : List Blk} {x y : Blk}
theorem Pul.base : (S1 ++ x :: S2).Perm (x :: (S1 ++ S2)) := List.perm_middle
theorem Pul.base0 : (x :: S2).Perm (x :: S2) := List.Perm.refl _
theorem Pul.cons (h : M.Perm (x :: M')) : (y :: M).Perm (x :: y :: M') := (h.cons y).trans (List.Perm.swap ..)
theorem Pul.app (h : M.Perm (x :: M')) : (L ++ M).Perm (x :: (L ++ M')) := (h.append_left L).trans List.perm_middle
theorem Pul.end (h : M.Perm (x :: M')) : M.Perm (x :: M') := h
end

/-- Two blocks of one shape: the place, the length and the kind. -/
def Sh1 (x y : Blk) : Prop := x.1 = y.1 ∧ ∃ vs us T, x.2 = CB vs T ∧ y.2 = CB us T ∧ us.length = vs.length
inductive Shp : List Blk → List Blk → Prop
  | nil : Shp [] []
  | cons {x y : Blk} {l m : List Blk} : Sh1 x y → Shp l m → Shp (x :: l) (y :: m)
theorem Sh1.refl {b : Nat} {vs : List Value} {T : TypeId} : Sh1 (b, CB vs T) (b, CB vs T) := ⟨rfl, vs, vs, T, rfl, rfl, rfl⟩
theorem Shp.app {a b c d : List Blk} (h : Shp a b) (h' : Shp c d) : Shp (a ++ c) (b ++ d) := by
  induction h with
  | nil => exact h'
  | cons h1 _ ih => exact .cons h1 ih
theorem NewRow.shp {T : TypeId} {sz m : Nat} {us : List Value} {v : Value} {Hn : List Blk} (h : NewRow T sz m us v Hn) : Shp Hn Hn := by
  obtain ⟨a, cap, rfl, _, ⟨_, b, junk, rfl, rfl, _⟩ | ⟨_, rfl, _⟩⟩ := h
  · exact .cons Sh1.refl .nil
  · exact .nil
theorem CB_inj {vs us : List Value} {T T' : TypeId} (h : CB vs T = CB us T') : vs = us ∧ T = T' := by
  unfold CB at h
  simp only [Obj.cells.injEq] at h
  exact ⟨by simpa using h.1, by simpa using h.2⟩
/-- A block of such a list stands somewhere in it, and a store leaves the shape. -/
theorem Shp.get {S0 S : List Blk} {b : Nat} {vs : List Value} {T : TypeId} (h : Shp S0 S) (hm : (b, CB vs T) ∈ S0) :
    ∃ S1 us S2, S = S1 ++ (b, CB us T) :: S2 ∧ us.length = vs.length ∧ ∀ us', us'.length = us.length → Shp S0 (S1 ++ (b, CB us' T) :: S2) := by
  induction h with
  | nil => cases hm
  | @cons x y l m h1 h2 ih =>
    rcases List.mem_cons.1 hm with rfl | hm
    · obtain ⟨rfl, vs', us, T', e1, e2, hl⟩ := h1
      obtain ⟨rfl, rfl⟩ := CB_inj e1
      obtain ⟨yb, yo⟩ := y
      simp only at e2
      subst e2
      exact ⟨[], us, m, rfl, hl, fun us' hl' => .cons ⟨rfl, _, _, _, rfl, rfl, hl'.trans hl⟩ h2⟩
    · obtain ⟨S1, us, S2, rfl, hl, hp⟩ := ih hm
      exact ⟨y :: S1, us, S2, rfl, hl, fun us' hl' => .cons h1 (hp us' hl')⟩
/-- A slice whose cells lie in such a block. -/
def OwnR (S0 : List Blk) (T : TypeId) (sz : Nat) (a : Option Addr) (n : Nat) : Prop := n = 0 ∨ ∃ b vs, a = some ⟨b, 0, none⟩ ∧ (b, CB vs T) ∈ S0 ∧ n * sz ≤ vs.length
theorem NewRow.own {S0 : List Blk} {T : TypeId} {sz n cap : Nat} {us : List Value} {a : Option Addr} {Hn : List Blk} (h : NewRow T sz n us (.slice a n cap) Hn) (hs : ∀ x ∈ Hn, x ∈ S0) : OwnR S0 T sz a n := by
  obtain ⟨a', cap', he, hle, ⟨hn, b, junk, rfl, rfl, hl⟩ | ⟨h0, _⟩⟩ := h
  · cases he
    exact .inr ⟨b, _, rfl, hs _ (List.mem_singleton.2 rfl), by rw [hl]; exact Nat.mul_le_mul_right _ hle⟩
  · exact .inl h0
theorem OwnR.get {S0 S : List Blk} {T : TypeId} {sz n k : Nat} {a : Option Addr} (h : OwnR S0 T sz a n) (hk : k < n) (hS : Shp S0 S) :
    ∃ b S1 us S2, a = some ⟨b, 0, none⟩ ∧ S = S1 ++ (b, CB us T) :: S2 ∧ k * sz + sz ≤ us.length ∧ ∀ us', us'.length = us.length → Shp S0 (S1 ++ (b, CB us' T) :: S2) := by
  rcases h with h | ⟨b, vs, rfl, hm, hl⟩
  · omega
  · obtain ⟨S1, us, S2, rfl, hu, hp⟩ := hS.get hm
    refine ⟨b, S1, us, S2, rfl, rfl, ?_, hp⟩
    rw [hu]
    refine Nat.le_trans ?_ hl
    rw [← Nat.succ_mul]
    exact Nat.mul_le_mul_right _ hk
end Go.Eng
namespace Go.Eng
section
variable {C : Ctx} {F : Fence} {n : Nat} {ds : List Deferred} {c : Code} {Q : Exit → Env → List Blk → Prop} {e : Env} {H M M' : List Blk}
theorem W_pull (x : Blk) (hp : H.Perm (x :: M')) (h : W C F n ds c Q e (x :: M')) : W C F n ds c Q e H := W_perm hp h
theorem W_push {x : Blk} (hp : M.Perm (x :: M')) (h : W C F n ds c Q e M) : W C F n ds c Q e (x :: M') := W_perm hp.symm h
end
end Go.Eng

/- Comparisons whose answer is known; equality of Bools. No project text. -/
namespace Go.Eng
open Go.RowKit
section
variable {C : Ctx} {e : Env} {H : List Blk} {o : Oper} {d : Option Tmp} {x y : Operand} {t t' ty : TypeId} {pos : String} {af : Array Edge} {g : Option (Nat × Bool)} {b c : Bool}
theorem YD_eq {u v : Value} (h : YD C o e H u) (hb : u = v) : YD C o e H v := by subst hb; exact h
end
end Go.Eng
namespace Go.Eng
end Go.Eng

/- Short words for what is asked often; a rest that is walked once. No project text. -/
namespace Go.Eng
open Go.RowKit
theorem sbA {A B : List Blk} (h : A.Sublist B := by (try simp only [List.append_assoc, List.cons_append, List.nil_append, List.set_cons_zero, List.set_cons_succ]); repeat (first | exact List.Sublist.refl _ | exact List.nil_sublist _ | exact List.sublist_append_left _ _ | apply List.Sublist.append_left | apply List.Sublist.cons_cons | apply List.Sublist.cons | refine List.Sublist.trans ?_ (List.sublist_append_right _ _))) : A.Sublist B := h
theorem slt {e : Env} {L : List (Nat × Value)} (h : Slots e L := by repeat (first | exact trivial | refine ⟨by rfl, ?_⟩)) : Slots e L := h
section
variable {C : Ctx} {F : Fence} {n : Nat} {ds : List Deferred} {x1 x2 x3 x4 x5 x6 y : Code} {Q : Exit → Env → List Blk → Prop} {e : Env} {H : List Blk} {γ : Type}
/-- The rest, whatever way led to it: some slots as they were, some as a ghost says. -/
def Rest (C : Ctx) (F : Fence) (n : Nat) (ds : List Deferred) (y : Code) (Q : Exit → Env → List Blk → Prop) {γ : Type} (I : γ → Prop) (L : List (Nat × Value)) (M : γ → List (Nat × Value)) (B : γ → List Blk) : Prop :=
  ∀ g e H, I g → Slots e L → Slots e (M g) → HSub H (B g) → W C F n ds y Q e H
theorem Slots.app {e : Env} : ∀ {L M : List (Nat × Value)}, Slots e L → Slots e M → Slots e (L ++ M)
  | [], _, _, h => h
  | _ :: _, _, h, h' => ⟨h.1, Slots.app h.2 h'⟩
theorem rest_of {I : γ → Prop} {L : List (Nat × Value)} {M : γ → List (Nat × Value)} {B : γ → List Blk} (h : ∀ g e, I g → W C F n ds y Q (sets e (L ++ M g)) (B g)) : Rest C F n ds y Q I L M B := fun g e H hi hL hM hB => by
  have := h g e hi
  rw [(hL.app hM).sets] at this
  exact W_sub hB this
theorem W_J1 (I : γ → Prop) (L : List (Nat × Value)) (M : γ → List (Nat × Value)) (B : γ → List Blk) (_ : Slots e L) (hr : ∀ g e, I g → W C F n ds y Q (sets e (L ++ M g)) (B g)) (h : Rest C F n ds y Q I L M B → W C F n ds (.seq x1 y) Q e H) :
    W C F n ds (.seq x1 y) Q e H := h (rest_of (B := B) hr)
theorem W_J2 (I : γ → Prop) (L : List (Nat × Value)) (M : γ → List (Nat × Value)) (B : γ → List Blk) (_ : Slots e L) (hr : ∀ g e, I g → W C F n ds y Q (sets e (L ++ M g)) (B g)) (h : Rest C F n ds y Q I L M B → W C F n ds (.seq x1 (.seq x2 y)) Q e H) :
    W C F n ds (.seq x1 (.seq x2 y)) Q e H := h (rest_of (B := B) hr)
end
end Go.Eng

/- append onto a full slice: a new row. No project text. -/
namespace Go.Eng
open Go.RowKit
section
variable {C : Ctx} {e : Env} {H : List Blk} {d : Option Tmp} {ty : TypeId} {pos : String} {af : Array Edge} {g : Option (Nat × Bool)}
end
end Go.Eng
namespace Go.Eng
end Go.Eng

/- Slices of arrays; the builtin copy into a block of the call's own. No project text. -/
namespace Go.Eng
open Go.RowKit
section
variable {C : Ctx} {F : Fence} {n : Nat} {ds : List Deferred} {all : Array Oper} {Q : Exit → Env → List Blk → Prop} {rest : List Oper} {e : Env} {H : List Blk}
variable {d : Option Tmp} {ty : TypeId} {pos : String} {af : Array Edge} {g : Option (Nat × Bool)}
theorem y_sliceA_lo {x lo : Operand} {T E : TypeId} {b o l m sz : Nat} {k : Int} {kk : IntKind} (hx : ev e x = .pointer (some ⟨b, o, none⟩)) (hlo : ev e lo = .int kk k) (hk : k = (l : Int)) (hl : l < m)
    (hT : ∀ w, (underlying T).run C.P w = .ok (.array m E) w) (hE : ∀ w, (sizeOf E).run C.P w = .ok sz w) :
    YD C ⟨d, .slice T x (some lo) none none, ty, pos, af, g⟩ e H (.slice (some ⟨b, o + l * sz, none⟩) (m - l) (m - l)) := yd_of fun w _ => by
  subst hk
  have h1 : ¬ m = l := by omega
  have h2 : l ≤ m := by omega
  simp [execOp, hx, hlo, Instr.sliceAt, Instr.slice, Instr.sliceBounds, Instr.sliceBound, Instr.sureAddr, asIntOf, hT, hE, h1, h2, addr_add]
theorem y_sliceA_lohi {x lo hi : Operand} {T E : TypeId} {b o l h m sz : Nat} {k k' : Int} {kk kk' : IntKind} (hx : ev e x = .pointer (some ⟨b, o, none⟩)) (hlo : ev e lo = .int kk k) (hhi : ev e hi = .int kk' k') (hk : k = (l : Int)) (hk' : k' = (h : Int)) (hl : l < m) (hlh : l ≤ h) (hh : h ≤ m)
    (hT : ∀ w, (underlying T).run C.P w = .ok (.array m E) w) (hE : ∀ w, (sizeOf E).run C.P w = .ok sz w) :
    YD C ⟨d, .slice T x (some lo) (some hi) none, ty, pos, af, g⟩ e H (.slice (some ⟨b, o + l * sz, none⟩) (h - l) (m - l)) := yd_of fun w _ => by
  subst hk hk'
  have h1 : ¬ m = l := by omega
  simp [execOp, hx, hlo, hhi, Instr.sliceAt, Instr.slice, Instr.sliceBounds, Instr.sliceBound, Instr.sureAddr, asIntOf, hT, hE, h1, hlh, hh, addr_add]
theorem y_indexV {x i : Operand} {T E : TypeId} {len sz k : Nat} {cs : Array Value} {c : Value} {n : Int} {kk : IntKind} (hx : ev e x = .agg cs) (hi : ev e i = .int kk n) (hn : n = (k : Int)) (hk : k < len)
    (hT : ∀ w, (underlying T).run C.P w = .ok (.array len E) w) (hE : ∀ w, (sizeOf E).run C.P w = .ok sz w) (hp : ∀ w, (part E cs (k * sz)).run C.P w = .ok c w) : YD C ⟨d, .index T x i, ty, pos, af, g⟩ e H c := yd_of fun w _ => by
  subst hn
  have h1 : (0 : Int) ≤ (k : Int) ∧ (k : Int) < (len : Int) := by omega
  have h2 : ((k : Int)).toNat = k := by omega
  simp [execOp, hx, hi, Instr.index, asIntOf, hT, hE, hp]
  omega
theorem run_copyS {P : Program} {w : World} {dT sT E : TypeId} {b o dn dcap m cap sz : Nat} {a : Option Addr} {vs us : List Value} {Tb : TypeId} (hT : ∀ w, (underlying dT).run P w = .ok (.slice E) w) (hE : ∀ w, (sizeOf E).run P w = .ok sz w)
    (hs : m = 0 ∧ us = [] ∨ ∃ b' o', a = some ⟨b', o', none⟩ ∧ At w b' o' us) (hl : us.length = m * sz) (hm : m ≤ dn) (hone : us.all Value.oneCell' = true) (hfit : o + us.length ≤ vs.length) (hb : w.heap[b]? = some (CB vs Tb)) :
    (Builtin.copy_ #[dT, sT] ty #[.slice (some ⟨b, o, none⟩) dn dcap, .slice a m cap]).run P w = .ok (.int .i64 m) (w.setRow b (splice vs o us).toArray) := by
  have h := run_storeCells_at (P := P) b o Tb us 0 vs.toArray w hb (by simpa using hfit) (fun v hv => List.all_eq_true.1 hone v hv)
  simp only [Nat.add_zero] at h
  have h' : (storeCells ⟨b, o, none⟩ us).run P w = .ok () (w.setRow b (splice vs o us).toArray) := h
  have h3 := run_firstCells (P := P) (cap := cap) hs hl
  have h4 : Nat.min m dn = m := Nat.min_eq_left hm
  simp [Builtin.copy_, hT, hE, Builtin.lenOf, h4, h3, h', goInt]
theorem WS_copyS (hF : Wide F) {x y : Operand} {dT sT E : TypeId} {b o dn dcap m cap sz i : Nat} {a : Option Addr} {vs us : List Value} {Tb : TypeId} (hc : chk n all e ⟨d, .call ⟨.builtin .copy, #[x, y], #[dT, sT]⟩, ty, pos, af, g⟩ = true)
    (hx : ev e x = .slice (some ⟨b, o, none⟩) dn dcap) (hy : ev e y = .slice a m cap) (hT : ∀ w, (underlying dT).run C.P w = .ok (.slice E) w) (hE : ∀ w, (sizeOf E).run C.P w = .ok sz w)
    (hs : Src C H a m us) (hl : us.length = m * sz) (hm : m ≤ dn) (hone : us.all Value.oneCell' = true) (hi : H[i]? = some (b, CB vs Tb)) (hfit : o + us.length ≤ vs.length)
    (hk : WS C F n ds all Q rest (updo e d (.int .i64 m)) (H.set i (b, CB (splice vs o us) Tb))) :
    WS C F n ds all Q (⟨d, .call ⟨.builtin .copy, #[x, y], #[dT, sT]⟩, ty, pos, af, g⟩ :: rest) e H := fun w hw act ha => by
  have hck := chk_spec hc
  have hwant := gd_wanted ha hck.2.1 (gOk_lt hck.2.2.1)
  unfold wpListIn
  rw [if_pos hwant]
  refine ⟨fun f _ => hF.fn f, ?_⟩
  rw [semAt_of hck.1, ha.eval]
  have hb := hw.get hi
  have hs' : m = 0 ∧ us = [] ∨ ∃ b' o', a = some ⟨b', o', none⟩ ∧ At w b' o' us := by
    rcases hs with h | ⟨b', o', h1, h2⟩
    · exact .inl h
    · exact .inr ⟨b', o', h1, h2 w hw⟩
  have hr := run_copyS (ty := ty) (sT := sT) (dcap := dcap) (cap := cap) hT hE hs' hl hm hone hfit hb
  have : (execOp (ev e) ⟨d, .call ⟨.builtin .copy, #[x, y], #[dT, sT]⟩, ty, pos, af, g⟩).run C.P w = .ok (.value (.int .i64 m)) (w.setRow b (splice vs o us).toArray) := by
    simp [execOp, resolve, invoke, builtin, hx, hy, hr]
  rw [this]
  exact hk _ (hw.set hi (swap_setRow hb)) _ (ha.put d hck.2.2.2)
end
end Go.Eng

/- Maps whose keys are arrays or structs; loops over maps. No project text. -/
namespace Go.Eng
open Go.RowKit
section
variable {K : Type} [DecidableEq K]
/-- A key, its value, and when it was born. -/
abbrev EntK (K : Type) := K × Value × Nat
def mK (enc : K → Value) (x : EntK K) : MapEntry := { key := enc x.1, val := x.2.1, born := x.2.2 }
def MK (enc : K → Value) (l : List (EntK K)) (clock : Nat) : Obj := .map (l.map (mK enc)).toArray clock
structure KeyOk (P : Program) (kT : TypeId) (enc : K → Value) : Prop where
  now : ∃ td, P.underlying kT = some td ∧ ∀ a b, Instr.sameNow td (enc a) (enc b) = none
  eq : ∀ x y w, (Op.equal kT (enc x) (enc y)).run P w = .ok (decide (x = y)) w
  chk : ∀ b x w, (Instr.checkKey b 10000 kT (enc x)).run P w = .ok () w
  bits : ∀ x, Instr.sameBits 10000 (enc x) (enc x) = true
def fndK (k : K) : List (EntK K) → Nat → Option (Nat × Value)
  | [], _ => none
  | x :: l, i => if x.1 = k then some (i, x.2.1) else fndK k l (i + 1)
def lookK (k : K) (l : List (EntK K)) : Option Value := (l.find? fun x => decide (x.1 = k)).map (·.2.1)
def setK (k : K) (v : Value) : List (EntK K) → List (EntK K)
  | [] => []
  | x :: l => if x.1 = k then (k, v, x.2.2) :: l else x :: setK k v l
def putL (k : K) (v : Value) (l : List (EntK K)) (c : Nat) : List (EntK K) := if (lookK k l).isSome then setK k v l else l ++ [(k, v, c)]
def putC (k : K) (l : List (EntK K)) (c : Nat) : Nat := if (lookK k l).isSome then c else c + 1
def delK (k : K) (l : List (EntK K)) : List (EntK K) := l.eraseP fun x => decide (x.1 = k)
structure GoodM (l : List (EntK K)) (c : Nat) : Prop where
  old : ∀ x ∈ l, x.2.2 < c
  born : (l.map (·.2.2)).Nodup
  keys : (l.map (·.1)).Nodup
variable {P : Program} {kT : TypeId} {enc : K → Value} {k : K}
section
variable {w : World} {T eT ty : TypeId} {b clock : Nat} {l : List (EntK K)} {v : Value}
end
end
section
variable {K : Type} [DecidableEq K]
variable {C : Ctx} {F : Fence} {n : Nat} {ds : List Deferred} {all : Array Oper} {Q : Exit → Env → List Blk → Prop} {rest : List Oper} {e : Env} {H : List Blk}
variable {d : Option Tmp} {ty : TypeId} {pos : String} {af : Array Edge} {g : Option (Nat × Bool)}
variable {kT T eT : TypeId} {enc : K → Value} {k : K} {b clock i : Nat} {l : List (EntK K)}
end
section
variable {K : Type}
variable {C : Ctx} {F : Fence} {n : Nat} {ds : List Deferred} {all : Array Oper} {Q : Exit → Env → List Blk → Prop} {rest : List Oper} {e : Env} {H : List Blk}
variable {d : Option Tmp} {ty : TypeId} {pos : String} {af : Array Edge} {g : Option (Nat × Bool)}
variable {kT T eT : TypeId} {enc : K → Value} {k : K} {b clock i : Nat} {l : List (EntK K)}
def NewMapK (enc : K → Value) (v : Value) (Hn : List Blk) : Prop := ∃ b, v = .map (some b) ∧ Hn = [(b, MK enc [] 0)]
end
end Go.Eng

/- What a map tells, by its entries. No project text. -/
namespace Go.Eng
open Go.RowKit
theorem GoodM.nil {K : Type} : GoodM ([] : List (EntK K)) 0 := ⟨fun _ h => (by cases h), List.nodup_nil, List.nodup_nil⟩
section
variable {K : Type} [DecidableEq K]
theorem lookK_nil (k : K) : lookK k ([] : List (EntK K)) = none := rfl
theorem lookK_cons (k : K) (x : EntK K) (l : List (EntK K)) : lookK k (x :: l) = if x.1 = k then some x.2.1 else lookK k l := by
  unfold lookK
  rw [List.find?_cons]
  split
  · rename_i h; simp only [decide_eq_true_eq] at h; rw [if_pos h]; rfl
  · rename_i h; simp only [decide_eq_false_iff_not] at h; rw [if_neg h]
theorem lookK_append (k : K) (l m : List (EntK K)) : lookK k (l ++ m) = (lookK k l).or (lookK k m) := by
  induction l with
  | nil => simp [lookK_nil]
  | cons x l ih =>
    rw [List.cons_append, lookK_cons, lookK_cons, ih]
    split <;> simp
theorem lookK_set (k k' : K) (v : Value) (l : List (EntK K)) : lookK k' (setK k v l) = if k' = k then (lookK k l).map fun _ => v else lookK k' l := by
  induction l with
  | nil => simp [setK, lookK_nil]
  | cons x l ih =>
    unfold setK
    by_cases hx : x.1 = k
    · rw [if_pos hx, lookK_cons, lookK_cons, lookK_cons, if_pos hx]
      by_cases hk : k' = k
      · subst hk; simp
      · rw [if_neg (Ne.symm hk), if_neg hk, if_neg (by rw [hx]; exact Ne.symm hk)]
    · rw [if_neg hx, lookK_cons, lookK_cons, lookK_cons, if_neg hx, ih]
      by_cases hk : k' = k
      · subst hk; simp [hx]
      · simp only [if_neg hk]
theorem lookK_put (k k' : K) (v : Value) (l : List (EntK K)) (c : Nat) : lookK k' (putL k v l c) = if k' = k then some v else lookK k' l := by
  unfold putL
  split
  · rename_i h
    rw [lookK_set]
    obtain ⟨u, hu⟩ := Option.isSome_iff_exists.1 h
    rw [hu]; rfl
  · rename_i h
    have h0 : lookK k l = none := by
      cases hl : lookK k l with
      | none => rfl
      | some u => rw [hl] at h; exact absurd rfl h
    rw [lookK_append, lookK_cons, lookK_nil]
    by_cases hk : k' = k
    · subst hk; simp [h0]
    · rw [if_neg hk, if_neg (Ne.symm hk)]; simp
theorem lookK_some {k : K} {l : List (EntK K)} {v : Value} (h : lookK k l = some v) : ∃ x ∈ l, x.1 = k ∧ x.2.1 = v := by
  unfold lookK at h
  simp only [Option.map_eq_some_iff] at h
  obtain ⟨x, h1, h2⟩ := h
  exact ⟨x, List.mem_of_find?_eq_some h1, by simpa using List.find?_some h1, h2⟩
theorem lookK_mem {l : List (EntK K)} {x : EntK K} (hn : (l.map (·.1)).Nodup) (hx : x ∈ l) : lookK x.1 l = some x.2.1 := by
  induction l with
  | nil => cases hx
  | cons y l ih =>
    rw [List.map_cons, List.nodup_cons] at hn
    rw [lookK_cons]
    rcases List.mem_cons.1 hx with rfl | hx
    · rw [if_pos rfl]
    · rw [if_neg fun he => hn.1 (by rw [he]; exact List.mem_map.2 ⟨x, hx, rfl⟩)]
      exact ih hn.2 hx
theorem lookK_none {k : K} {l : List (EntK K)} : lookK k l = none ↔ k ∉ l.map (·.1) := by
  induction l with
  | nil => simp [lookK_nil]
  | cons x l ih =>
    rw [lookK_cons, List.map_cons, List.mem_cons]
    by_cases hx : x.1 = k
    · simp [hx]
    · rw [if_neg hx, ih]; simp [Ne.symm hx]
theorem setK_born (k : K) (v : Value) (l : List (EntK K)) : (setK k v l).map (·.2.2) = l.map (·.2.2) := by
  induction l with
  | nil => rfl
  | cons x l ih => unfold setK; split <;> simp [ih]
theorem setK_keys (k : K) (v : Value) (l : List (EntK K)) : (setK k v l).map (·.1) = l.map (·.1) := by
  induction l with
  | nil => rfl
  | cons x l ih =>
    unfold setK
    split
    · rename_i h; simp [h]
    · simp [ih]
theorem GoodM.put {l : List (EntK K)} {c : Nat} (h : GoodM l c) (k : K) (v : Value) : GoodM (putL k v l c) (putC k l c) := by
  unfold putL putC
  split
  · refine ⟨fun x hx => ?_, by rw [setK_born]; exact h.born, by rw [setK_keys]; exact h.keys⟩
    have : x.2.2 ∈ (setK k v l).map (·.2.2) := List.mem_map.2 ⟨x, hx, rfl⟩
    rw [setK_born] at this
    obtain ⟨y, hy, he⟩ := List.mem_map.1 this
    have := h.old y hy
    omega
  · rename_i h0
    have h0 : lookK k l = none := by
      cases hl : lookK k l with
      | none => rfl
      | some u => rw [hl] at h0; exact absurd rfl h0
    rw [lookK_none] at h0
    refine ⟨fun x hx => ?_, ?_, ?_⟩
    · rcases List.mem_append.1 hx with hx | hx
      · have := h.old x hx; omega
      · simp only [List.mem_singleton] at hx; subst hx; exact Nat.lt_succ_self _
    · rw [List.map_append, List.nodup_append]
      refine ⟨h.born, by simp, fun a ha b hb => ?_⟩
      simp only [List.map_cons, List.map_nil, List.mem_singleton] at hb
      subst hb
      obtain ⟨y, hy, rfl⟩ := List.mem_map.1 ha
      exact Nat.ne_of_lt (h.old y hy)
    · rw [List.map_append, List.nodup_append]
      refine ⟨h.keys, by simp, fun a ha b hb => ?_⟩
      simp only [List.map_cons, List.map_nil, List.mem_singleton] at hb
      subst hb
      exact fun he => h0 (he ▸ ha)
theorem delK_sub (k : K) (l : List (EntK K)) : (delK k l).Sublist l := List.eraseP_sublist
theorem GoodM.del {l : List (EntK K)} {c : Nat} (h : GoodM l c) (k : K) : GoodM (delK k l) c :=
  ⟨fun x hx => h.old x ((delK_sub k l).subset hx), ((delK_sub k l).map _).nodup h.born, ((delK_sub k l).map _).nodup h.keys⟩
theorem mem_delK {k : K} {l : List (EntK K)} (hn : (l.map (·.1)).Nodup) {x : EntK K} : x ∈ delK k l ↔ x ∈ l ∧ x.1 ≠ k := by
  induction l with
  | nil => simp [delK]
  | cons y l ih =>
    rw [List.map_cons, List.nodup_cons] at hn
    unfold delK at ih ⊢
    rw [List.eraseP_cons]
    by_cases hy : y.1 = k
    · rw [decide_eq_true hy, cond_true]
      constructor
      · intro hx
        exact ⟨List.mem_cons_of_mem _ hx, fun he => hn.1 (by rw [hy, ← he]; exact List.mem_map.2 ⟨x, hx, rfl⟩)⟩
      · rintro ⟨hx, hk⟩
        rcases List.mem_cons.1 hx with rfl | hx
        · exact absurd hy hk
        · exact hx
    · rw [decide_eq_false hy, cond_false, List.mem_cons, ih hn.2, List.mem_cons]
      constructor
      · rintro (rfl | ⟨h1, h2⟩)
        · exact ⟨.inl rfl, hy⟩
        · exact ⟨.inr h1, h2⟩
      · rintro ⟨rfl | h1, h2⟩
        · exact .inl rfl
        · exact .inr ⟨h1, h2⟩
end
end Go.Eng

/- Slices of ints and of structs that read as lists: the words of all layers. -/
namespace Go.Proofs.YtjekjehgmljbgaaDoor.T
open Go.RowKit Go.Proofs Go.Eng
set_option maxRecDepth 100000
set_option maxHeartbeats 1000000
set_option linter.unusedVariables false

theorem Ct_eq {P : Program} {f : FuncId} {args : Array Value} {w : World} {c c' : Value} (hc : Ct P f args w fun v _ => v = c) (h : c = c') : Ct P f args w fun v _ => v = c' := h ▸ hc
def iv (xs : List Int) : List Value := xs.map (Value.int .i64)
theorem Ints.row {w : World} {b o n cap : Nat} {xs : List Int} (h : Ints w (some ⟨b, o, none⟩) n cap xs) : At w b o (iv xs) := At.of fun j v hv => by
  have hj : j < xs.length := by have := (List.getElem?_eq_some_iff.1 hv).1; simpa [iv] using this
  have h1 := h.at (k := j) (by rw [← h.len]; exact hj)
  have h2 : v = .int .i64 (xs.getD j 0) := by
    rw [iv, List.getElem?_map, List.getElem?_eq_getElem hj] at hv
    simp only [Option.map_some, Option.some.injEq] at hv
    rw [← hv]; simp [List.getD_eq_getElem?_getD, hj]
  rw [h2]
  have := h1.1
  rwa [show o + j * 1 = o + j by omega] at this
theorem Ints.src {C : Ctx} {H : List Blk} {a : Option Addr} {n cap : Nat} {xs : List Int} (h : Ints C.w0 a n cap xs) : Src C H a n (iv xs) := by
  by_cases hn : n = 0
  · refine .inl ⟨hn, ?_⟩
    have := h.len
    rw [hn] at this
    rw [List.length_eq_zero_iff.1 this]; rfl
  · obtain ⟨b, o, rfl⟩ := h.adr (by omega)
    exact .inr ⟨b, o, rfl, Mem.old h.row⟩
theorem NewRow.ints {C : Ctx} {H Hn : List Blk} {a : Option Addr} {n cap : Nat} {xs : List Int} {T : TypeId} (h : NewRow T 1 n (iv xs) (.slice a n cap) Hn) (hl : xs.length = n) (hs : Hn.Sublist H) (w : World) (hw : St C H w) : Ints w a n cap xs := by
  obtain ⟨a', cap', he, hle, hc⟩ := h
  cases he
  rcases hc with ⟨hn, b, junk, rfl, rfl, hlen⟩ | ⟨hn, rfl, rfl⟩
  · exact Ints.mem (rest := junk) 0 rfl hl hle w (hw.sub hs)
  · subst hn
    rw [List.length_eq_zero_iff.1 hl]
    exact Ints.nil _ _ _
theorem infInt : (Tryd.prog.info? 3).map (fun i => (i.zero, i.size, i.bytes)) = some (some (.int .i64 0), 1, 8) := by kernel_rfl
/-- A slice whose elements read as a list. -/
structure Rws {α : Type} (enc : α → List Value) (sz : Nat) (d : α) (w : World) (a : Option Addr) (n cap : Nat) (xs : List α) : Prop where
  len : xs.length = n
  le : n ≤ cap
  cell : ∀ k, k < n → ∃ b o, a = some ⟨b, o, none⟩ ∧ At w b (o + k * sz) (enc (xs.getD k d))
section
variable {α : Type} {enc : α → List Value} {sz : Nat} {d : α} {w w' : World} {a : Option Addr} {n cap : Nat} {xs : List α}
theorem Rws.below (h : Rws enc sz d w a n cap xs) (hb : Below w.heap.size w w') : Rws enc sz d w' a n cap xs :=
  ⟨h.len, h.le, fun k hk => by obtain ⟨b, o, h1, h2⟩ := h.cell k hk; exact ⟨b, o, h1, At.old hb h2⟩⟩
theorem Rws.st {C : Ctx} {H : List Blk} (h : Rws enc sz d C.w0 a n cap xs) (w : World) (hw : St C H w) : Rws enc sz d w a n cap xs := h.below hw.1
theorem Rws.at {b o : Nat} (h : Rws enc sz d w (some ⟨b, o, none⟩) n cap xs) {k : Nat} (hk : k < n) : At w b (o + k * sz) (enc (xs.getD k d)) := by
  obtain ⟨b', o', h1, h2⟩ := h.cell k hk
  simp only [Option.some.injEq, Addr.mk.injEq] at h1
  obtain ⟨rfl, rfl, _⟩ := h1
  exact h2
theorem Rws.adr (h : Rws enc sz d w a n cap xs) (hn : 0 < n) : ∃ b o, a = some ⟨b, o, none⟩ := by
  obtain ⟨b, o, h1, _⟩ := h.cell 0 hn
  exact ⟨b, o, h1⟩
theorem Rws.nil (w : World) (a : Option Addr) (cap : Nat) : Rws enc sz d w a 0 cap [] := ⟨rfl, Nat.zero_le _, fun k hk => by omega⟩
end
theorem At.app {w : World} {b : Nat} : ∀ {us vs : List Value} {o : Nat}, At w b o us → At w b (o + us.length) vs → At w b o (us ++ vs)
  | [], vs, o, _, h => by simpa using h
  | u :: us, vs, o, h, h' => ⟨h.1, At.app (us := us) h.2 (by rw [show o + 1 + us.length = o + (u :: us).length by simp; omega]; exact h')⟩
section
variable {α : Type} {enc : α → List Value} {sz : Nat} {d : α} {w : World} {a : Option Addr} {n cap : Nat} {xs : List α}
theorem Rws.row (hz : ∀ x, (enc x).length = sz) {b o : Nat} (h : Rws enc sz d w (some ⟨b, o, none⟩) n cap xs) : ∀ m, m ≤ n → At w b o (rowOf enc (fun k => xs.getD k d) m)
  | 0, _ => trivial
  | m + 1, hm => by
    rw [rowOf_succ]
    refine At.app (Rws.row hz h m (by omega)) ?_
    rw [rowOf_len hz]
    exact h.at (k := m) (by omega)
theorem Rws.src (hz : ∀ x, (enc x).length = sz) {C : Ctx} {H : List Blk} (h : Rws enc sz d C.w0 a n cap xs) : Src C H a n (rowOf enc (fun k => xs.getD k d) n) := by
  by_cases hn : n = 0
  · subst hn; exact .inl ⟨rfl, rfl⟩
  · obtain ⟨b, o, rfl⟩ := h.adr (by omega)
    exact .inr ⟨b, o, rfl, Mem.old (Rws.row hz h n (Nat.le_refl _))⟩
theorem NewRow.rws (hz : ∀ x, (enc x).length = sz) {C : Ctx} {H Hn : List Blk} {T : TypeId} (h : NewRow T sz n (rowOf enc (fun k => xs.getD k d) n) (.slice a n cap) Hn) (hl : xs.length = n) (hs : Hn.Sublist H) (w : World) (hw : St C H w) : Rws enc sz d w a n cap xs := by
  obtain ⟨a', cap', he, hle, hc⟩ := h
  cases he
  refine ⟨hl, hle, fun k hk => ?_⟩
  rcases hc with ⟨hn, b, junk, rfl, rfl, hlen⟩ | ⟨hn, rfl, rfl⟩
  · refine ⟨b, 0, rfl, ?_⟩
    exact Mem.rowJ (junk := junk) (k := k) (o := 0 + k * sz) hz 0 rfl hk rfl (Nat.zero_add _) w (hw.sub hs)
  · omega
end
/-- A row that is told, at the head of a block. -/
theorem NewRow.head {T : TypeId} {sz m cap : Nat} {us : List Value} {a : Option Addr} {Hn : List Blk} (h : NewRow T sz m us (.slice a m cap) Hn) (h0 : 0 < m) : ∃ b junk, a = some ⟨b, 0, none⟩ ∧ Hn = [(b, CB (us ++ junk) T)] ∧ (us ++ junk).length = cap * sz ∧ m ≤ cap := by
  obtain ⟨a', cap', hv, hle, ⟨_, b, junk, rfl, rfl, hlen⟩ | ⟨h1, _⟩⟩ := h
  · cases hv; exact ⟨b, junk, rfl, rfl, hlen, hle⟩
  · omega
theorem NewRow.mk {T : TypeId} {sz m cap : Nat} {us ws : List Value} {b : Nat} {junk : List Value} (hw : ws = us ++ junk) (hl : ws.length = cap * sz) (hle : m ≤ cap) (h0 : 0 < m) : NewRow T sz m us (.slice (some ⟨b, 0, none⟩) m cap) [(b, CB ws T)] :=
  ⟨_, _, rfl, hle, .inl ⟨h0, b, junk, rfl, by rw [hw], by rw [← hw]; exact hl⟩⟩
theorem Row.ints {C : Ctx} {H Hn : List Blk} {T : TypeId} {a : Option Addr} {n cap : Nat} {xs : List Int} (h : Row T 1 a n cap (iv xs) Hn) (hl : xs.length = n) (hs : Hn.Sublist H) (w : World) (hw : St C H w) : Ints w a n cap xs := by
  rcases h with ⟨rfl, rfl, rfl, _, rfl⟩ | ⟨b, junk, rfl, rfl, h1, h2, h3⟩
  · rw [List.length_eq_zero_iff.1 hl]; exact Ints.nil _ _ _
  · exact Ints.mem (rest := junk) 0 rfl hl h3 w (hw.sub hs)
theorem Row.rws {α : Type} {enc : α → List Value} {sz : Nat} {d : α} (hz : ∀ x, (enc x).length = sz) {C : Ctx} {H Hn : List Blk} {T : TypeId} {a : Option Addr} {n cap : Nat} {xs : List α} (h : Row T sz a n cap (rowOf enc (fun k => xs.getD k d) n) Hn) (hl : xs.length = n) (hs : Hn.Sublist H) (w : World) (hw : St C H w) : Rws enc sz d w a n cap xs := by
  rcases h with ⟨rfl, rfl, rfl, _, rfl⟩ | ⟨b, junk, rfl, rfl, h1, h2, h3⟩
  · rw [List.length_eq_zero_iff.1 hl]; exact Rws.nil _ _ _
  · refine ⟨hl, h3, fun k hk => ⟨b, 0, rfl, ?_⟩⟩
    exact Mem.rowJ (junk := junk) (k := k) (o := 0 + k * sz) hz 0 rfl hk rfl (Nat.zero_add _) w (hw.sub hs)
theorem Row.newRow {T : TypeId} {sz n cap : Nat} {us : List Value} {a : Option Addr} {Hn : List Blk} (h : Row T sz a n cap us Hn) (hn : 0 < n) : NewRow T sz n us (.slice a n cap) Hn := by
  obtain ⟨_, h, _⟩ | ⟨b, junk, rfl, rfl, h1, h2, h3⟩ := h
  · omega
  · exact ⟨_, _, rfl, h3, .inl ⟨hn, b, junk, rfl, rfl, h2⟩⟩
section
variable {C : Ctx} {e : Env} {H : List Blk} {d : Option Tmp} {ty : TypeId} {pos : String} {af : Array Edge} {g : Option (Nat × Bool)}
theorem y_eqlNil {x y : Operand} {T E T' : TypeId} {a : Option Addr} {n c : Nat} (hx : ev e x = .slice a n c) (hy : ev e y = .slice none 0 0) (hT : ∀ w, (underlying T).run C.P w = .ok (.slice E) w) : YD C ⟨d, .binOp .eql T x y T', ty, pos, af, g⟩ e H (.bool a.isNone) := yd_of fun w _ => by
  have h : (Op.equalIn Op.maxDepth T (.slice a n c) (.slice none 0 0)).run C.P w = .ok a.isNone w := by
    unfold Op.maxDepth Op.equalIn
    rw [Sem.run_bind, hT]
    cases a <;> simp
  simp [execOp, hx, hy, eqGuard, binOp, Op.equal, h]
end
end Go.Proofs.YtjekjehgmljbgaaDoor.T

/- Walks: GreatTank, TwinTank, SameInts. -/
namespace Go.Proofs.YtjekjehgmljbgaaDoor.T
open Go.RowKit Go.Proofs Go.Eng
set_option maxRecDepth 100000
set_option maxHeartbeats 1000000
set_option linter.unusedVariables false
set_option linter.unusedSimpArgs false

theorem bs22_0  : ∀ w, (Instr.buildSlice 22 0 #[]).run Tryd.prog w = .ok (.slice (some ⟨w.heap.size, 0, none⟩) 0 0) (w.alloc (CB [] 3)) := fun w => by kernel_rfl

/-- A tank in new memory. -/
def TwinV (t : Tk) (v : Value) (Hn : List Blk) : Prop := ∃ a cap, v = .agg #[.slice a t.n cap, .int .i64 t.leak, .int .i64 t.foot] ∧ NewRow 3 1 t.n (iv t.pints) (.slice a t.n cap) Hn
end Go.Proofs.YtjekjehgmljbgaaDoor.T

/- The walk of the law TankTables. -/
namespace Go.Proofs.YtjekjehgmljbgaaDoor.T
open Go.RowKit Go.Proofs Go.Eng
set_option maxRecDepth 100000
set_option maxHeartbeats 1000000
set_option linter.unusedVariables false
set_option linter.unusedSimpArgs false



end Go.Proofs.YtjekjehgmljbgaaDoor.T

/- Spans, entries, logs in memory; the forms of entries. -/
namespace Go.Proofs.YtjekjehgmljbgaaDoor.T
open Go.RowKit Go.Proofs Go.Eng
set_option maxRecDepth 100000
set_option maxHeartbeats 1000000
set_option linter.unusedVariables false
set_option linter.unusedSimpArgs false

structure Sn where
  lo : Int
  hi : Int
deriving DecidableEq
def Sn.cells (s : Sn) : List Value := [.int .i64 s.lo, .int .i64 s.hi]
def Sn.z : Sn := ⟨0, 0⟩
structure En where
  day : Int
  kind : Int
  size : Sn
deriving DecidableEq
def En.cells (x : En) : List Value := [.int .i64 x.day, .int .i64 x.kind, .int .i64 x.size.lo, .int .i64 x.size.hi]
def En.z : En := ⟨0, 0, Sn.z⟩
abbrev Ens := Rws En.cells 4 En.z
abbrev Sns := Rws Sn.cells 2 Sn.z
structure Lg where
  tk : Tk
  start : Sn
  es : List En
def Sn.met (a b : Sn) : Sn := ⟨max a.lo b.lo, min a.hi b.hi⟩
def Sn.inB (s : Sn) (m : Int) : Bool := T.inB 0 m [s.lo, s.hi] && decide (s.lo ≤ s.hi)
def Tk.dip (t : Tk) (s : Sn) : Sn := ⟨t.up s.lo, t.down s.hi⟩
def Tk.all (t : Tk) : Sn := ⟨0, t.full⟩
def Sn.add (a b : Sn) : Sn := ⟨a.lo + b.lo, a.hi + b.hi⟩
def Sn.sub (a b : Sn) : Sn := ⟨a.lo - b.hi, a.hi - b.lo⟩
/-- Small enough for sums. -/
def Sn.Sm (s : Sn) : Prop := -1000000000 ≤ s.lo ∧ s.lo ≤ 1000000000 ∧ -1000000000 ≤ s.hi ∧ s.hi ≤ 1000000000

def formsV : List Value := [.nilFunc, .nilFunc, .nilFunc, .func (.func 172) #[] #[], .func (.func 173) #[] #[], .func (.func 174) #[] #[],
  .func (.func 172) #[] #[], .func (.func 174) #[] #[], .func (.func 173) #[] #[], .func (.func 175) #[] #[], .func (.func 176) #[] #[], .func (.func 176) #[] #[]]

end Go.Proofs.YtjekjehgmljbgaaDoor.T

/- Logs that are valid; a book in memory; drip, before, after. -/
namespace Go.Proofs.YtjekjehgmljbgaaDoor.T
open Go.RowKit Go.Proofs Go.Eng
set_option maxRecDepth 100000
set_option maxHeartbeats 1000000
set_option linter.unusedVariables false
set_option linter.unusedSimpArgs false

def Lg.e (l : Lg) (k : Nat) : En := l.es.getD k En.z
def Tk.most (t : Tk) (kind : Int) : Int := if kind = 3 then t.height else t.full
def Tk.entB (t : Tk) (day : Int) (x : En) : Bool := inB day 3652 [x.day] && inB 1 3 [x.kind] && x.size.inB (t.most x.kind)
def Tk.entsB (t : Tk) : Int → List En → Bool
  | _, [] => true
  | day, x :: l => t.entB day x && t.entsB x.day l
def Lg.okB (l : Lg) : Bool := l.start.inB l.tk.full && decide (l.es.length ≤ 12) && l.tk.entsB 0 l.es
structure Lg.Ok (l : Lg) : Prop where
  tk : l.tk.Ok
  start : l.start.inB l.tk.full = true
  n12 : l.es.length ≤ 12
  day : ∀ k, k < l.es.length → 0 ≤ (l.e k).day ∧ (l.e k).day ≤ 3652
  mono : ∀ k, k + 1 < l.es.length → (l.e k).day ≤ (l.e (k + 1)).day
  kind : ∀ k, k < l.es.length → 1 ≤ (l.e k).kind ∧ (l.e k).kind ≤ 3
  size : ∀ k, k < l.es.length → (l.e k).size.inB (l.tk.most (l.e k).kind) = true
theorem Sn.inB_iff {s : Sn} {m : Int} : s.inB m = true ↔ 0 ≤ s.lo ∧ s.lo ≤ s.hi ∧ s.hi ≤ m := by
  unfold Sn.inB
  rw [Bool.and_eq_true, inB2, decide_eq_true_eq]; omega
theorem Lg.Ok.sm {l : Lg} (h : l.Ok) {k : Nat} (hk : k < l.es.length) : (l.e k).size.Sm := by
  have h1 := Sn.inB_iff.1 (h.size k hk)
  have h2 := h.tk.full_bd
  have h3 := h.tk.n21
  have h4 := h.tk.n2
  unfold Tk.most Tk.height at h1
  unfold Sn.Sm
  split at h1 <;> omega
def Lg.drip (l : Lg) (i : Nat) : Int := if i = 0 then 0 else l.tk.leak * ((l.e i).day - (l.e (i - 1)).day)
def Lg.before (l : Lg) (i : Nat) (s : Sn) : Sn := ⟨max 0 (s.lo - l.drip i), s.hi⟩
/-- Forth, by a kind. -/
def Tk.forth (t : Tk) (x : En) (s : Sn) : Sn := if x.kind = 1 then (s.add x.size).met t.all else if x.kind = 2 then (s.sub x.size).met t.all else s.met (t.dip x.size)
def Tk.back (t : Tk) (x : En) (s : Sn) : Sn := if x.kind = 1 then (s.sub x.size).met t.all else if x.kind = 2 then (s.add x.size).met t.all else s.met (t.dip x.size)
def Lg.after (l : Lg) (i : Nat) (s : Sn) : Sn := l.tk.forth (l.e i) (l.before i s)
def bookCells (g : Nat) (l : Lg) (a : Option Addr) (cap : Nat) (ae : Option Addr) (cape : Nat) : List Value :=
  [.pointer (some ⟨g, 0, none⟩), .slice a l.tk.n cap, .int .i64 l.tk.leak, .int .i64 l.tk.foot, .int .i64 l.start.lo, .int .i64 l.start.hi, .slice ae l.es.length cape] ++ formsV
/-- A book in memory. -/
structure Bk (w : World) (bk : Nat) (l : Lg) : Prop where
  ok : l.Ok
  ex : ∃ g a cap ae cape, At w bk 0 (bookCells g l a cap ae cape) ∧ Gg w g 0 l.tk ∧ Ens w ae l.es.length cape l.es
theorem Bk.below {w w' : World} {bk : Nat} {l : Lg} (h : Bk w bk l) (hb : Below w.heap.size w w') : Bk w' bk l := by
  obtain ⟨hok, g, a, cap, ae, cape, h1, h2, h3⟩ := h
  exact ⟨hok, g, a, cap, ae, cape, At.old hb h1, h2.below hb, h3.below hb⟩
theorem Bk.st {C : Ctx} {H : List Blk} {bk : Nat} {l : Lg} (h : Bk C.w0 bk l) (w : World) (hw : St C H w) : Bk w bk l := h.below hw.1

end Go.Proofs.YtjekjehgmljbgaaDoor.T

/- opened: a log at work. -/
namespace Go.Proofs.YtjekjehgmljbgaaDoor.T
open Go.RowKit Go.Proofs Go.Eng
set_option maxRecDepth 100000
set_option maxHeartbeats 1000000
set_option linter.unusedVariables false
set_option linter.unusedSimpArgs false

def gaugeCells (t : Tk) (a : Option Addr) (cap : Nat) : List Value := [.slice a t.n cap, .int .i64 t.leak, .int .i64 t.foot, .int .i64 t.full, .int .i64 t.height]
def Lg.err (l : Lg) : Int := if l.tk.okB then if l.okB then 0 else 31 else 30
/-- What comes of a log: a book in two new blocks, or none. -/
def BookV (l : Lg) (a : Option Addr) (cap : Nat) (ae : Option Addr) (cape : Nat) (v : Value) (Hn : List Blk) : Prop :=
  ∃ p, v = .tuple #[.pointer p, .int .i64 l.err] ∧ (l.err = 0 → ∃ g b, p = some ⟨b, 0, none⟩ ∧ Hn = [(b, CB (bookCells g l a cap ae cape) 189), (g, CB (gaugeCells l.tk a cap) 191)]) ∧ (l.err ≠ 0 → Hn = [])
def Lg.dayAt (l : Lg) (k : Nat) : Int := if k = 0 then 0 else (l.e (k - 1)).day
def rightF (kind : Int) : FuncId := if kind = 3 then 175 else 172
end Go.Proofs.YtjekjehgmljbgaaDoor.T

/- What a tank can hold at all times: the iterator. -/
namespace Go.Proofs.YtjekjehgmljbgaaDoor.T
open Go.RowKit Go.Proofs Go.Eng
set_option maxRecDepth 100000
set_option maxHeartbeats 1000000
set_option linter.unusedVariables false
set_option linter.unusedSimpArgs false



theorem Bk.own {C : Ctx} {H : List Blk} {bk g : Nat} {l : Lg} {a : Option Addr} {cap : Nat} {ae : Option Addr} {cape : Nat} (hb : (bk, CB (bookCells g l a cap ae cape) 189) ∈ H) (hg : (g, CB (gaugeCells l.tk a cap) 191) ∈ H) (hok : l.Ok) (hx : Ints C.w0 a l.tk.n cap l.tk.pints) (he : Ens C.w0 ae l.es.length cape l.es)
    (w : World) (hw : St C H w) : Bk w bk l := by
  obtain ⟨i, hi, hii⟩ := List.mem_iff_getElem.1 hb
  exact ⟨hok, g, a, cap, ae, cape, Mem.own (rest := []) i ((List.getElem?_eq_getElem hi).trans (congrArg some hii)) (by rw [List.append_nil]; rfl) w hw, Gg.own hg (Tk.ok_iff.2 hok.tk) hx w hw, he.st w hw⟩
end Go.Proofs.YtjekjehgmljbgaaDoor.T

/- What a tank can hold: pure. -/
namespace Go.Proofs.YtjekjehgmljbgaaDoor.T
open Go.RowKit Go.Proofs Go.Eng
set_option maxRecDepth 100000
set_option maxHeartbeats 1000000
set_option linter.unusedVariables false

def Lg.hold (l : Lg) : Nat → Sn
  | 0 => l.start
  | k + 1 => l.after k (l.hold k)
def Sn.empty (s : Sn) : Bool := decide (s.hi < s.lo)
/-- How many times are told, from one on: till there is nothing, or no entry more. -/
def Lg.steps (l : Lg) (k : Nat) : Nat → Nat
  | 0 => 1
  | m + 1 => if (l.hold k).empty then 1 else 1 + l.steps (k + 1) m
end Go.Proofs.YtjekjehgmljbgaaDoor.T

/- The iterator of what a tank can hold. -/
namespace Go.Proofs.YtjekjehgmljbgaaDoor.T
open Go.RowKit Go.Proofs Go.Eng
set_option maxRecDepth 100000
set_option maxHeartbeats 1000000
set_option linter.unusedVariables false
set_option linter.unusedSimpArgs false



def Lg.times (l : Lg) : Nat := l.steps 0 l.es.length
end Go.Proofs.YtjekjehgmljbgaaDoor.T

/- What may come before and after, by the entries behind: pure. -/
namespace Go.Proofs.YtjekjehgmljbgaaDoor.T
open Go.RowKit Go.Proofs Go.Eng
set_option maxRecDepth 100000
set_option maxHeartbeats 1000000
set_option linter.unusedVariables false

def Lg.aftR (l : Lg) : Nat → Sn
  | 0 => l.tk.all
  | m + 1 => ⟨(l.tk.back (l.e (l.es.length - (m + 1))) (l.aftR m)).lo, min l.tk.full ((l.tk.back (l.e (l.es.length - (m + 1))) (l.aftR m)).hi + l.drip (l.es.length - (m + 1)))⟩
def Lg.aft (l : Lg) (i : Nat) : Sn := l.aftR (l.es.length - i)
def Lg.ahd (l : Lg) (i : Nat) : Sn := l.tk.back (l.e i) (l.aft (i + 1))
def Sn.BB (s : Sn) (f k : Int) : Prop := 0 ≤ s.lo ∧ s.hi ≤ f ∧ s.lo ≤ 700000 * k ∧ -(700000 * k) ≤ s.hi
end Go.Proofs.YtjekjehgmljbgaaDoor.T

/- slices.Backward over entries, and what the tank can hold by what is behind: the walks. -/
namespace Go.Proofs.YtjekjehgmljbgaaDoor.T
open Go.RowKit Go.Proofs Go.Eng
set_option maxRecDepth 100000
set_option maxHeartbeats 1000000
set_option linter.unusedVariables false
set_option linter.unusedSimpArgs false



end Go.Proofs.YtjekjehgmljbgaaDoor.T

/- What the tank can hold by the entries behind: the walk. -/
namespace Go.Proofs.YtjekjehgmljbgaaDoor.T
open Go.RowKit Go.Proofs Go.Eng
set_option maxRecDepth 100000
set_option maxHeartbeats 1000000
set_option linter.unusedVariables false
set_option linter.unusedSimpArgs false

def Lg.af (l : Lg) (k j : Nat) : Sn := if l.es.length - k ≤ j then l.aft j else Sn.z
def Lg.bf (l : Lg) (k j : Nat) : Sn := if l.es.length - k ≤ j then l.ahd j else Sn.z
abbrev snRow (f : Nat → Sn) (n : Nat) : List Value := rowOf Sn.cells f n
def BackV (l : Lg) (v : Value) (Hn : List Blk) : Prop :=
  ∃ ab bb, v = .tuple #[.slice (some ⟨ab, 0, none⟩) (l.es.length + 1) (l.es.length + 1), .slice (some ⟨bb, 0, none⟩) l.es.length l.es.length] ∧ Hn = [(ab, CB (snRow l.aft (l.es.length + 1)) 63), (bb, CB (snRow l.ahd l.es.length) 63)]
def backF (kind : Int) : FuncId := if kind = 1 then 174 else if kind = 2 then 173 else 176
end Go.Proofs.YtjekjehgmljbgaaDoor.T

/- What is known of a log: the walk of asked. -/
namespace Go.Proofs.YtjekjehgmljbgaaDoor.T
open Go.RowKit Go.Proofs Go.Eng
set_option maxRecDepth 100000
set_option maxHeartbeats 1000000
set_option linter.unusedVariables false
set_option linter.unusedSimpArgs false

def Lg.holdsB (l : Lg) : Bool := (List.range (l.es.length + 1)).all fun k => !(l.hold k).empty
theorem Lg.holdsB_iff (l : Lg) : l.holdsB = true ↔ ∀ k, k ≤ l.es.length → (l.hold k).empty = false := by
  unfold Lg.holdsB
  simp only [List.all_eq_true, List.mem_range, Bool.not_eq_true']
  constructor
  · intro h k hk; exact h k (by omega)
  · intro h k hk; exact h k (by omega)
def Lg.aerr (l : Lg) : Int := if l.err = 0 then if l.holdsB then 0 else 8 else l.err
def knownCells (bk fb : Nat) (capf : Nat) (ab bb n : Nat) : List Value := [.pointer (some ⟨bk, 0, none⟩), .slice (some ⟨fb, 0, none⟩) (n + 1) capf, .slice (some ⟨ab, 0, none⟩) (n + 1) (n + 1), .slice (some ⟨bb, 0, none⟩) n n]
/-- The blocks of what is known. -/
def KB (l : Lg) (a : Option Addr) (cap : Nat) (ae : Option Addr) (cape : Nat) (kb : Nat) (Hn : List Blk) : Prop :=
  ∃ bk g fb capf junk ab bb, Hn = [(kb, CB (knownCells bk fb capf ab bb l.es.length) 181), (fb, CB (snRow l.hold (l.es.length + 1) ++ junk) 63), (ab, CB (snRow l.aft (l.es.length + 1)) 63), (bb, CB (snRow l.ahd l.es.length) 63), (bk, CB (bookCells g l a cap ae cape) 189), (g, CB (gaugeCells l.tk a cap) 191)]
def AskV (l : Lg) (a : Option Addr) (cap : Nat) (ae : Option Addr) (cape : Nat) (v : Value) (Hn : List Blk) : Prop :=
  ∃ p, v = .tuple #[.pointer p, .int .i64 l.aerr] ∧ (l.aerr = 0 → ∃ kb, p = some ⟨kb, 0, none⟩ ∧ KB l a cap ae cape kb Hn) ∧ (l.aerr ≠ 0 → Hn = [])
theorem Tk.entsB_get (t : Tk) : ∀ (es : List En) (day : Int), t.entsB day es = true → ∀ k, k < es.length → t.entB (if k = 0 then day else (es.getD (k - 1) En.z).day) (es.getD k En.z) = true
  | [], _, _, k, hk => by simp at hk
  | x :: es, day, h, k, hk => by
    unfold Tk.entsB at h
    rw [Bool.and_eq_true] at h
    cases k with
    | zero => simpa using h.1
    | succ k =>
      have := Tk.entsB_get t es x.day h.2 k (by simpa using hk)
      cases k with
      | zero => simpa using this
      | succ k => simpa using this
theorem Lg.ok_of (l : Lg) (h : l.err = 0) : l.Ok := by
  unfold Lg.err at h
  split at h
  · rename_i ht
    split at h
    · rename_i hl
      unfold Lg.okB at hl
      simp only [Bool.and_eq_true, decide_eq_true_eq] at hl
      obtain ⟨⟨h1, h2⟩, h3⟩ := hl
      have hg := l.tk.entsB_get l.es 0 h3
      have hd : ∀ k, k < l.es.length → inB (l.dayAt k) 3652 [(l.e k).day] = true ∧ inB 1 3 [(l.e k).kind] = true ∧ (l.e k).size.inB (l.tk.most (l.e k).kind) = true := fun k hk => by
        have := hg k hk
        unfold Tk.entB at this
        simp only [Bool.and_eq_true] at this
        exact ⟨this.1.1, this.1.2, this.2⟩
      have hday : ∀ k, k < l.es.length → 0 ≤ l.dayAt k ∧ l.dayAt k ≤ (l.e k).day ∧ (l.e k).day ≤ 3652 := by
        intro k
        induction k with
        | zero => intro hk; have := inB1.1 (hd 0 hk).1; exact ⟨Int.le_refl _, this⟩
        | succ k ih =>
          intro hk
          have h4 := inB1.1 (hd (k + 1) hk).1
          have h5 := ih (by omega)
          refine ⟨?_, h4⟩
          show 0 ≤ (l.e (k + 1 - 1)).day
          rw [Nat.add_sub_cancel]; omega
      refine ⟨Tk.ok_iff.1 ht, h1, h2, fun k hk => ?_, fun k hk => ?_, fun k hk => inB1.1 (hd k hk).2.1, fun k hk => (hd k hk).2.2⟩
      · have := hday k hk; omega
      · have := (hday (k + 1) hk).2.1
        exact this
    · cases h
  · cases h

end Go.Proofs.YtjekjehgmljbgaaDoor.T

/- What is known, in memory; at, last; whether it holds some pints, when, what may be drawn, the room. -/
namespace Go.Proofs.YtjekjehgmljbgaaDoor.T
open Go.RowKit Go.Proofs Go.Eng
set_option maxRecDepth 100000
set_option maxHeartbeats 1000000
set_option linter.unusedVariables false
set_option linter.unusedSimpArgs false

theorem Lg.aerr0 (l : Lg) (h : l.aerr = 0) : l.err = 0 ∧ ∀ k, k ≤ l.es.length → (l.hold k).empty = false := by
  unfold Lg.aerr at h
  split at h
  · split at h
    · rename_i h1 h2; exact ⟨h1, l.holdsB_iff.1 h2⟩
    · cases h
  · rename_i h1; exact absurd h h1
def Lg.at (l : Lg) (i : Nat) : Sn := (l.hold i).met (l.aft i)
def Lg.last (l : Lg) : Sn := l.at l.es.length
/-- What is known, in memory. -/
structure Kn (w : World) (kb : Nat) (l : Lg) : Prop where
  ok : l.Ok
  ne : ∀ k, k ≤ l.es.length → (l.hold k).empty = false
  ex : ∃ bk fb capf ab bb, At w kb 0 (knownCells bk fb capf ab bb l.es.length) ∧ At w fb 0 (snRow l.hold (l.es.length + 1)) ∧ At w ab 0 (snRow l.aft (l.es.length + 1)) ∧ At w bb 0 (snRow l.ahd l.es.length) ∧ Bk w bk l
theorem Kn.below {w w' : World} {kb : Nat} {l : Lg} (h : Kn w kb l) (hb : Below w.heap.size w w') : Kn w' kb l := by
  obtain ⟨hok, hne, bk, fb, capf, ab, bb, h1, h2, h3, h4, h5⟩ := h
  exact ⟨hok, hne, bk, fb, capf, ab, bb, At.old hb h1, At.old hb h2, At.old hb h3, At.old hb h4, h5.below hb⟩
theorem Kn.st {C : Ctx} {H : List Blk} {kb : Nat} {l : Lg} (h : Kn C.w0 kb l) (w : World) (hw : St C H w) : Kn w kb l := h.below hw.1
def knBlocks (l : Lg) (a : Option Addr) (cap : Nat) (ae : Option Addr) (cape kb bk g fb capf : Nat) (junk : List Value) (ab bb : Nat) : List Blk :=
  [(kb, CB (knownCells bk fb capf ab bb l.es.length) 181), (fb, CB (snRow l.hold (l.es.length + 1) ++ junk) 63), (ab, CB (snRow l.aft (l.es.length + 1)) 63), (bb, CB (snRow l.ahd l.es.length) 63), (bk, CB (bookCells g l a cap ae cape) 189), (g, CB (gaugeCells l.tk a cap) 191)]
theorem At.block {C : Ctx} {H : List Blk} {b : Nat} {vs rest : List Value} {T : TypeId} (hm : (b, CB (vs ++ rest) T) ∈ H) (w : World) (hw : St C H w) : At w b 0 vs := by
  obtain ⟨i, hi, hii⟩ := List.mem_iff_getElem.1 hm
  exact Mem.own (rest := rest) i ((List.getElem?_eq_getElem hi).trans (congrArg some hii)) (by rw [List.drop_zero]) w hw
theorem At.block0 {C : Ctx} {H : List Blk} {b : Nat} {vs : List Value} {T : TypeId} (hm : (b, CB vs T) ∈ H) (w : World) (hw : St C H w) : At w b 0 vs := by
  have : (b, CB (vs ++ []) T) ∈ H := by rwa [List.append_nil]
  exact At.block this w hw
theorem Kn.own {C : Ctx} {H : List Blk} {l : Lg} {a : Option Addr} {cap : Nat} {ae : Option Addr} {cape kb bk g fb capf : Nat} {junk : List Value} {ab bb : Nat} (hs : (knBlocks l a cap ae cape kb bk g fb capf junk ab bb).Sublist H)
    (h0 : l.aerr = 0) (hx : Ints C.w0 a l.tk.n cap l.tk.pints) (he : Ens C.w0 ae l.es.length cape l.es) (w : World) (hw : St C H w) : Kn w kb l := by
  obtain ⟨h1, h2⟩ := l.aerr0 h0
  have hm : ∀ x ∈ knBlocks l a cap ae cape kb bk g fb capf junk ab bb, x ∈ H := fun x hx => hs.subset hx
  unfold knBlocks at hm
  simp only [List.forall_mem_cons] at hm
  obtain ⟨m1, m2, m3, m4, m5, m6, _⟩ := hm
  exact ⟨l.ok_of h1, h2, bk, fb, capf, ab, bb, At.block0 m1 w hw, At.block m2 w hw, At.block0 m3 w hw, At.block0 m4 w hw, Bk.own m5 m6 (l.ok_of h1) hx he w hw⟩
theorem At.rowOf {w : World} {b : Nat} {α : Type} {enc : α → List Value} {sz : Nat} (hz : ∀ x, (enc x).length = sz) {f : Nat → α} {n k o : Nat} (h : At w b 0 (rowOf enc f n)) (hk : k < n) (ho : o = k * sz) : At w b o (enc (f k)) := by
  subst ho
  obtain ⟨t, ht⟩ := rowOf_drop hz f hk
  refine At.of fun j v hv => ?_
  have hg : (Eng.rowOf enc f n)[k * sz + j]? = some v := rowOf_get hz f hk hv
  have := h.get (k * sz + j) v hg
  rw [Nat.zero_add] at this
  exact this

end Go.Proofs.YtjekjehgmljbgaaDoor.T

/- Whether the tank holds some pints, when, what may be drawn, the room, and what it holds: the walks. -/
namespace Go.Proofs.YtjekjehgmljbgaaDoor.T
open Go.RowKit Go.Proofs Go.Eng
set_option maxRecDepth 100000
set_option maxHeartbeats 1000000
set_option linter.unusedVariables false
set_option linter.unusedSimpArgs false

def Lg.sureV (l : Lg) (p : Int) : Value :=
  if l.aerr = 0 then if inB 0 l.tk.full [p] then if p ≤ l.last.lo then .tuple #[.int .u8 2, .int .i64 0] else if l.last.hi < p then .tuple #[.int .u8 0, .int .i64 0] else .tuple #[.int .u8 1, .int .i64 0] else .tuple #[.int .u8 0, .int .i64 2] else .tuple #[.int .u8 0, .int .i64 l.aerr]
def firstN (f : Nat → Bool) (n : Nat) : Option Nat := (List.range n).find? f
def Lg.whenV (l : Lg) (p : Int) : Value :=
  if l.aerr = 0 then if inB 0 l.tk.full [p] then match firstN (fun i => decide (p ≤ (l.at i).lo)) (l.es.length + 1) with
    | some i => .tuple #[.int .i64 (i : Int), .int .i64 0]
    | none => .tuple #[.int .i64 0, .int .i64 6] else .tuple #[.int .i64 0, .int .i64 2] else .tuple #[.int .i64 0, .int .i64 l.aerr]
def Sn.fl (s : Sn) (f : Int) : Sn := ⟨max 0 (s.lo - f), max 0 (s.hi - f)⟩
def Lg.readyV (l : Lg) : Value :=
  if l.aerr = 0 then .tuple #[.agg (l.last.fl (l.tk.up l.tk.foot)).cells.toArray, .int .i64 0] else .tuple #[.agg Sn.z.cells.toArray, .int .i64 l.aerr]
def Lg.roomV (l : Lg) : Value :=
  if l.aerr = 0 then .tuple #[.agg (Sn.sub ⟨l.tk.full, l.tk.full⟩ l.last).cells.toArray, .int .i64 0] else .tuple #[.agg Sn.z.cells.toArray, .int .i64 l.aerr]
end Go.Proofs.YtjekjehgmljbgaaDoor.T

/- The dip that tells most: the walk. -/
namespace Go.Proofs.YtjekjehgmljbgaaDoor.T
open Go.RowKit Go.Proofs Go.Eng
set_option maxRecDepth 100000
set_option maxHeartbeats 1000000
set_option linter.unusedVariables false
set_option linter.unusedSimpArgs false



def cmpI (x y : Int) : Int := if x < y then -1 else if y < x then 1 else 0
def worstS (t : Tk) (s : Sn) (i : Int) : Int := max (min (max 0 (t.up i - s.lo)) (s.hi - s.lo + 1)) (s.hi - s.lo + 1 - min (max 0 (t.up i - s.lo)) (s.hi - s.lo + 1))
def Lg.worst (l : Lg) (i : Int) : Int := worstS l.tk l.last i
/-- The first index of the least value. -/
def bestN (f : Nat → Int) : Nat → Nat
  | 0 => 0
  | k + 1 => if f k < f (bestN f k) then k else bestN f k
end Go.Proofs.YtjekjehgmljbgaaDoor.T

/- The dip that tells most: first, and Ask. -/
namespace Go.Proofs.YtjekjehgmljbgaaDoor.T
open Go.RowKit Go.Proofs Go.Eng
set_option maxRecDepth 100000
set_option maxHeartbeats 1000000
set_option linter.unusedVariables false
set_option linter.unusedSimpArgs false



def Lg.wN (l : Lg) (k : Nat) : Int := l.worst (k : Int)
def Lg.hN (l : Lg) : Nat := 8 * (l.tk.n - 1) + 1
def Lg.askV (l : Lg) : Value :=
  if l.aerr = 0 then if l.last.hi = l.last.lo then .tuple #[.int .i64 0, .int .i64 0, .int .i64 6] else .tuple #[.int .i64 (bestN l.wN l.hN : Nat), .int .i64 (l.wN (bestN l.wN l.hN)), .int .i64 0] else .tuple #[.int .i64 0, .int .i64 0, .int .i64 l.aerr]
end Go.Proofs.YtjekjehgmljbgaaDoor.T

/- The reference's logs: the walks, first part. -/
namespace Go.Proofs.YtjekjehgmljbgaaDoor.T
open Go.RowKit Go.Proofs Go.Eng
set_option maxRecDepth 100000
set_option maxHeartbeats 1000000
set_option linter.unusedVariables false
set_option linter.unusedSimpArgs false



end Go.Proofs.YtjekjehgmljbgaaDoor.T

/- The reference's logs: the walks, second part. -/
namespace Go.Proofs.YtjekjehgmljbgaaDoor.T
open Go.RowKit Go.Proofs Go.Eng
set_option maxRecDepth 100000
set_option maxHeartbeats 1000000
set_option linter.unusedVariables false
set_option linter.unusedSimpArgs false



def ForthV (l : Lg) (v : Value) (Hn : List Blk) : Prop :=
  ∃ fb m cap junk f, v = .tuple #[.slice (some ⟨fb, 0, none⟩) m cap, .bool l.holdsB] ∧ Hn = [(fb, CB (snRow f m ++ junk) 63)] ∧ (l.holdsB = true → m = l.es.length + 1 ∧ f = l.hold)
def RBackV (l : Lg) (v : Value) (Hn : List Blk) : Prop := ∃ ab, v = .slice (some ⟨ab, 0, none⟩) (l.es.length + 1) (l.es.length + 1) ∧ Hn = [(ab, CB (snRow l.aft (l.es.length + 1)) 63)]
end Go.Proofs.YtjekjehgmljbgaaDoor.T

/- The reference's asks: the walks. -/
namespace Go.Proofs.YtjekjehgmljbgaaDoor.T
open Go.RowKit Go.Proofs Go.Eng
set_option maxRecDepth 100000
set_option maxHeartbeats 1000000
set_option linter.unusedVariables false
set_option linter.unusedSimpArgs false



end Go.Proofs.YtjekjehgmljbgaaDoor.T

/- The reference's dip that tells most: the walks. -/
namespace Go.Proofs.YtjekjehgmljbgaaDoor.T
open Go.RowKit Go.Proofs Go.Eng
set_option maxRecDepth 100000
set_option maxHeartbeats 1000000
set_option linter.unusedVariables false
set_option linter.unusedSimpArgs false



end Go.Proofs.YtjekjehgmljbgaaDoor.T

/- Great, Twin, Same of logs: the walks; the law of asks. -/
namespace Go.Proofs.YtjekjehgmljbgaaDoor.T
open Go.RowKit Go.Proofs Go.Eng
set_option maxRecDepth 100000
set_option maxHeartbeats 1000000
set_option linter.unusedVariables false
set_option linter.unusedSimpArgs false

/-- A log in new memory. -/
def TwinL (l : Lg) (v : Value) (Hn : List Blk) : Prop :=
  ∃ a cap ae cape H1 H2, v = .agg #[.slice a l.tk.n cap, .int .i64 l.tk.leak, .int .i64 l.tk.foot, .int .i64 l.start.lo, .int .i64 l.start.hi, .slice ae l.es.length cape] ∧ NewRow 3 1 l.tk.n (iv l.tk.pints) (.slice a l.tk.n cap) H1 ∧ NewRow 77 4 l.es.length (rowOf En.cells l.e l.es.length) (.slice ae l.es.length cape) H2 ∧ Hn = H1 ++ H2
end Go.Proofs.YtjekjehgmljbgaaDoor.T

/- The law of asks, walked. -/
namespace Go.Proofs.YtjekjehgmljbgaaDoor.T
open Go.RowKit Go.Proofs Go.Eng
set_option maxRecDepth 100000
set_option maxHeartbeats 1000000
set_option linter.unusedVariables false
set_option linter.unusedSimpArgs false



end Go.Proofs.YtjekjehgmljbgaaDoor.T

/- What the tank holds, the first truth, what was moved, what leaks behind a time: the walks. -/
namespace Go.Proofs.YtjekjehgmljbgaaDoor.T
open Go.RowKit Go.Proofs Go.Eng
set_option maxRecDepth 100000
set_option maxHeartbeats 1000000
set_option linter.unusedVariables false
set_option linter.unusedSimpArgs false



def Lg.holdsV (l : Lg) (i : Int) : Value :=
  if l.aerr = 0 then if inB 0 l.es.length [i] then .tuple #[.agg (l.at i.toNat).cells.toArray, .int .i64 0] else .tuple #[.agg Sn.z.cells.toArray, .int .i64 2] else .tuple #[.agg Sn.z.cells.toArray, .int .i64 l.aerr]
def Lg.moved (l : Lg) (k : Nat) : Sn := if (l.e k).kind = 2 then (l.e k).size.met ((l.before k (l.hold k)).sub (l.aft (k + 1))) else (l.e k).size.met ((l.aft (k + 1)).sub (l.before k (l.hold k)))
def Lg.movedV (l : Lg) (i : Int) : Value :=
  if l.aerr = 0 then if inB 1 l.es.length [i] && !decide ((l.e (i - 1).toNat).kind = 3) then .tuple #[.agg (l.moved (i - 1).toNat).cells.toArray, .int .i64 0] else .tuple #[.agg Sn.z.cells.toArray, .int .i64 2] else .tuple #[.agg Sn.z.cells.toArray, .int .i64 l.aerr]
def Lg.lostV (l : Lg) (i : Int) : Value :=
  if l.aerr = 0 then if inB 1 ((l.es.length : Int) - 1) [i] then .tuple #[.agg ((Sn.met ⟨0, l.drip i.toNat⟩ ((l.hold i.toNat).sub (l.ahd i.toNat)))).cells.toArray, .int .i64 0] else .tuple #[.agg Sn.z.cells.toArray, .int .i64 2] else .tuple #[.agg Sn.z.cells.toArray, .int .i64 l.aerr]
def Lg.tr (l : Lg) : Nat → Int
  | 0 => (l.at 0).lo
  | k + 1 => max (l.after k ⟨l.tr k, l.tr k⟩).lo (l.aft (k + 1)).lo
def iEnc (x : Int) : List Value := [.int .i64 x]
theorem ii_len (x : Int) : (iEnc x).length = 1 := rfl
abbrev iRow (f : Nat → Int) (n : Nat) : List Value := rowOf iEnc f n
def TruthV (l : Lg) (v : Value) (Hn : List Blk) : Prop :=
  (l.aerr ≠ 0 → v = .tuple #[.slice none 0 0, .int .i64 l.aerr] ∧ Hn = []) ∧ (l.aerr = 0 → ∃ tb cap junk, v = .tuple #[.slice (some ⟨tb, 0, none⟩) (l.es.length + 1) cap, .int .i64 0] ∧ l.es.length + 1 ≤ cap ∧ Hn = [(tb, CB (iRow l.tr (l.es.length + 1) ++ junk) 3)])
end Go.Proofs.YtjekjehgmljbgaaDoor.T

/- bits.Mul of one and a number, slices.Repeat of one number, slices.Max: the walks. -/
namespace Go.Proofs.YtjekjehgmljbgaaDoor.T
open Go.RowKit Go.Proofs Go.Eng
set_option maxRecDepth 100000
set_option maxHeartbeats 1000000
set_option linter.unusedVariables false
set_option linter.unusedSimpArgs false



def maxN (f : Nat → Int) : Nat → Int
  | 0 => f 0
  | k + 1 => max (maxN f k) (f k)
theorem At.iRow {w : World} {b : Nat} {f : Nat → Int} {n k o : Nat} (h : At w b 0 (iRow f n)) (hk : k < n) (ho : o = k * 1) : At w b o [.int .i64 (f k)] := At.rowOf (enc := iEnc) ii_len h hk ho
def fillF (v0 : Int) (f i : Nat) : Int := if i < f then v0 else 0
section
variable {C : Ctx} {e : Env} {H : List Blk} {d : Option Tmp} {ty : TypeId} {pos : String} {af : Array Edge} {g : Option (Nat × Bool)}
end
end Go.Proofs.YtjekjehgmljbgaaDoor.T

/- What leaks altogether: the closure that moves all sums. -/
namespace Go.Proofs.YtjekjehgmljbgaaDoor.T
open Go.RowKit Go.Proofs Go.Eng
set_option maxRecDepth 100000
set_option maxHeartbeats 1000000
set_option linter.unusedVariables false
set_option linter.unusedSimpArgs false



def never : Int := -1099511627776
def mxF (g : Nat → Int) (a : Nat) : Nat → Int
  | 0 => never
  | n + 1 => max (mxF g a n) (g (a + n))
def mvA (hi : Int) (t : Nat) : Nat := (max 0 ((t : Int) - hi)).toNat
def mvN (F : Nat) (lo hi : Int) (t : Nat) : Nat := (min (F : Int) ((t : Int) - lo) - max 0 ((t : Int) - hi) + 1).toNat
def mvG (wo : Int) (best : Nat → Int) (t : Nat) (v : Nat) : Int := best v + wo * ((v : Int) - (t : Int))
def mv (F : Nat) (lo hi wo : Int) (best : Nat → Int) (t : Nat) : Int := mxF (mvG wo best t) (mvA hi t) (mvN F lo hi t)
def nxF (F : Nat) (lo hi wo : Int) (best : Nat → Int) (t c j : Nat) : Int := if j < t then mv F lo hi wo best j else if j = t then mxF (mvG wo best t) (mvA hi t) c else never
end Go.Proofs.YtjekjehgmljbgaaDoor.T

/- What leaks altogether: the walks. -/
namespace Go.Proofs.YtjekjehgmljbgaaDoor.T
open Go.RowKit Go.Proofs Go.Eng
set_option maxRecDepth 100000
set_option maxHeartbeats 1000000
set_option linter.unusedVariables false
set_option linter.unusedSimpArgs false



theorem WS_sub {C : Ctx} {F : Fence} {n : Nat} {ds : List Deferred} {all : Array Oper} {Q : Exit → Env → List Blk → Prop} {rest : List Oper} {e : Env} {H H' : List Blk} (hs : HSub H H') (k : WS C F n ds all Q rest e H') : WS C F n ds all Q rest e H :=
  fun w hw a ha => k w ⟨hw.1, hs _ _ hw.2, hw.3⟩ a ha
def dipF (d : Sn) (best : Nat → Int) (v : Nat) : Int := if inB d.lo d.hi [(v : Int)] then best v else never
def Lg.best0 (l : Lg) (v : Nat) : Int := if l.start.lo ≤ (v : Int) ∧ (v : Int) ≤ l.start.hi then 0 else never
def Lg.bstep (l : Lg) (F : Nat) (sign : Int) (k : Nat) (best : Nat → Int) : Nat → Int :=
  if (l.e k).kind = 1 then mv F (l.e k).size.lo (l.e k).size.hi 0 (mv F (-l.drip k) 0 sign best)
  else if (l.e k).kind = 2 then mv F (-(l.e k).size.hi) (-(l.e k).size.lo) 0 (mv F (-l.drip k) 0 sign best)
  else dipF (l.tk.dip (l.e k).size) (mv F (-l.drip k) 0 sign best)
def Lg.bestK (l : Lg) (F : Nat) (sign : Int) : Nat → Nat → Int
  | 0 => l.best0
  | k + 1 => l.bstep F sign k (l.bestK F sign k)
def Lg.lostI (l : Lg) (sign : Int) : Int := maxN (l.bestK l.tk.full.toNat sign l.es.length) (l.tk.full.toNat + 1)
def stF (lo : Int) (c v : Nat) : Int := if lo ≤ (v : Int) ∧ (v : Int) < lo + (c : Int) then 0 else never
def dpF (d : Sn) (best : Nat → Int) (j v : Nat) : Int := if v < j then dipF d best v else best v

def Lg.leakedV (l : Lg) : Value := if l.aerr = 0 then .tuple #[.agg (Sn.cells ⟨-l.lostI (-1), l.lostI 1⟩).toArray, .int .i64 0] else .tuple #[.agg Sn.z.cells.toArray, .int .i64 l.aerr]
end Go.Proofs.YtjekjehgmljbgaaDoor.T

/- The reference: what the tank holds, the first truth, what was moved, what leaks behind a time: the walks. -/
namespace Go.Proofs.YtjekjehgmljbgaaDoor.T
open Go.RowKit Go.Proofs Go.Eng
set_option maxRecDepth 100000
set_option maxHeartbeats 1000000
set_option linter.unusedVariables false
set_option linter.unusedSimpArgs false



end Go.Proofs.YtjekjehgmljbgaaDoor.T

/- The reference: sums that leak, arrays of 601 spans: the walks of nothing, with and passed. -/
namespace Go.Proofs.YtjekjehgmljbgaaDoor.T
open Go.RowKit Go.Proofs Go.Eng
set_option maxRecDepth 100000
set_option maxHeartbeats 1000000
set_option linter.unusedVariables false
set_option linter.unusedSimpArgs false



def Sn.no : Sn := ⟨1, 0⟩
def noF (c j : Nat) : Sn := if j < c then Sn.no else Sn.z
def Sn.wth (s way : Sn) : Sn := if s.hi < s.lo then way else ⟨min s.lo way.lo, max s.hi way.hi⟩
def cw (cb : Bool) (x : Int) : Int := if cb = true then x else 0
def psN (S : Nat → Sn) (lo hi : Int) (v : Nat) : Nat := if (S v).hi < (S v).lo then 0 else (hi - lo + 1).toNat
def psI (S : Nat → Sn) (F : Nat) (cb : Bool) (lo : Int) (v c : Nat) (out : Nat → Sn) (t : Nat) : Sn :=
  if lo ≤ (t : Int) - (v : Int) ∧ (t : Int) - (v : Int) < lo + (c : Int) ∧ t ≤ F then (out t).wth ⟨(S v).lo - cw cb ((t : Int) - (v : Int)), (S v).hi - cw cb ((t : Int) - (v : Int))⟩ else out t
def psO (S : Nat → Sn) (F : Nat) (cb : Bool) (lo hi : Int) : Nat → Nat → Sn
  | 0 => fun _ => Sn.no
  | v + 1 => psI S F cb lo v (psN S lo hi v) (psO S F cb lo hi v)
end Go.Proofs.YtjekjehgmljbgaaDoor.T

/- The reference: sums that leak: what the arrays say of the least and the greatest sums; plain facts. -/
namespace Go.Proofs.YtjekjehgmljbgaaDoor.T
open Go.RowKit Go.Proofs Go.Eng
set_option maxRecDepth 100000
set_option maxHeartbeats 1000000
set_option linter.unusedVariables false
set_option linter.unusedSimpArgs false

theorem never_eq : never = -1099511627776 := rfl
/-- A span of sums, the greatest sum, and the least one turned round. -/
def Rep (M : Int) (s : Sn) (p m : Int) : Prop := (s = Sn.no ∧ p ≤ never + M ∧ m ≤ never + M) ∨ (0 ≤ s.lo ∧ s.lo ≤ s.hi ∧ s.hi ≤ M ∧ p = s.hi ∧ m = -s.lo)
theorem Rep.wth {M : Int} {a b : Sn} {p m q r : Int} (hM : M ≤ 1000000) (h : Rep M a p m) (h0 : 0 ≤ b.lo) (h1 : b.lo ≤ b.hi) (h2 : b.hi ≤ M) (hq : q = b.hi) (hr : r = -b.lo) : Rep M (a.wth b) (max p q) (max m r) := by
  have hn := never_eq
  subst hq hr
  refine .inr ?_
  unfold Sn.wth
  obtain ⟨rfl, hp, hm⟩ | ⟨g0, g1, g2, rfl, rfl⟩ := h
  · rw [if_pos (by decide)]; omega
  · rw [if_neg (by omega)]; refine ⟨?_, ?_, ?_, ?_, ?_⟩ <;> simp only <;> omega
theorem Rep.skip {M : Int} {a : Sn} {p m q r : Int} (hM : M ≤ 1000000) (h : Rep M a p m) (hq : q ≤ never + M) (hr : r ≤ never + M) : Rep M a (max p q) (max m r) := by
  have hn := never_eq
  obtain ⟨rfl, hp, hm⟩ | ⟨g0, g1, g2, rfl, rfl⟩ := h
  · exact .inl ⟨rfl, by omega, by omega⟩
  · exact .inr ⟨g0, g1, g2, by omega, by omega⟩
theorem Rep.mono {M N : Int} {a : Sn} {p m : Int} (h : Rep M a p m) (hMN : M ≤ N) : Rep N a p m := by
  obtain ⟨rfl, hp, hm⟩ | ⟨g0, g1, g2, g3, g4⟩ := h
  · exact .inl ⟨rfl, by omega, by omega⟩
  · exact .inr ⟨g0, g1, by omega, g3, g4⟩
theorem Rep.bd {M : Int} {a : Sn} {p m : Int} (h : Rep M a p m) (hM : 0 ≤ M ∧ M ≤ 1000000) : 0 ≤ a.lo ∧ a.lo ≤ 1000000 ∧ 0 ≤ a.hi ∧ a.hi ≤ 1000000 := by
  obtain ⟨rfl, hp, hm⟩ | ⟨g0, g1, g2, g3, g4⟩ := h
  · decide
  · omega
def wmx (g : Nat → Int) (a n : Nat) : Nat → Int
  | 0 => never
  | V + 1 => if a ≤ V ∧ V < a + n then max (wmx g a n V) (g V) else wmx g a n V
/-! ### The sums of a log, time by time -/
def stS (lo : Int) (c t : Nat) : Sn := if lo ≤ (t : Int) ∧ (t : Int) < lo + (c : Int) then Sn.z else Sn.no
def Lg.sum0 (l : Lg) (t : Nat) : Sn := if l.start.lo ≤ (t : Int) ∧ (t : Int) ≤ l.start.hi then Sn.z else Sn.no
def Lg.sum1 (l : Lg) (F k : Nat) (S : Nat → Sn) : Nat → Sn := if 0 < k then psO S F true (-(min (F : Int) (l.drip k))) 0 (F + 1) else S
def dpS (d : Sn) (S : Nat → Sn) (j t : Nat) : Sn := if t < j ∧ inB d.lo d.hi [(t : Int)] = false then Sn.no else S t
def Lg.sum2 (l : Lg) (F k : Nat) (S : Nat → Sn) : Nat → Sn :=
  if (l.e k).kind = 1 then psO S F false (l.e k).size.lo (l.e k).size.hi (F + 1)
  else if (l.e k).kind = 2 then psO S F false (-(l.e k).size.hi) (-(l.e k).size.lo) (F + 1)
  else dpS (l.tk.dip (l.e k).size) S (F + 1)
def Lg.sumK (l : Lg) (F : Nat) : Nat → Nat → Sn
  | 0 => l.sum0
  | k + 1 => l.sum2 F k (l.sum1 F k (l.sumK F k))
def outS (S : Nat → Sn) : Nat → Sn
  | 0 => Sn.no
  | V + 1 => if (S V).hi < (S V).lo then outS S V else (outS S V).wth (S V)
end Go.Proofs.YtjekjehgmljbgaaDoor.T

/- The reference: sums that leak: the walk. -/
namespace Go.Proofs.YtjekjehgmljbgaaDoor.T
open Go.RowKit Go.Proofs Go.Eng
set_option maxRecDepth 100000
set_option maxHeartbeats 800000
set_option linter.unusedVariables false
set_option linter.unusedSimpArgs false



end Go.Proofs.YtjekjehgmljbgaaDoor.T

/- A log without entries: the walk of without, and holds. -/
namespace Go.Proofs.YtjekjehgmljbgaaDoor.T
open Go.RowKit Go.Proofs Go.Eng
set_option maxRecDepth 100000
set_option maxHeartbeats 1000000
set_option linter.unusedVariables false
set_option linter.unusedSimpArgs false

def kpB (D : List Int) (i : Nat) : Bool := !(D.contains ((i : Int) + 1))
def kpK (D : List Int) (i : Nat) : List Nat := (List.range i).filter (kpB D)
/-- The log without the entries at some times. -/
def Lg.woK (l : Lg) (D : List Int) (i : Nat) : Lg := ⟨l.tk, l.start, (kpK D i).map l.e⟩
def Lg.wo (l : Lg) (D : List Int) : Lg := l.woK D l.es.length
def Lg.ent (l : Lg) (i : Nat) : Ent := ((i : Int) + 1, .agg (l.e i).cells.toArray, i)
theorem kpK_succ (D : List Int) (i : Nat) : kpK D (i + 1) = if kpB D i then kpK D i ++ [i] else kpK D i := by
  unfold kpK
  rw [List.range_succ, List.filter_append]
  by_cases h : kpB D i = true
  · rw [if_pos h]; simp [h]
  · rw [if_neg h]; simp [h]
theorem Lg.woK_len (l : Lg) (D : List Int) (i : Nat) : (l.woK D i).es.length = (kpK D i).length := List.length_map _
theorem kpK_le (D : List Int) (i : Nat) : (kpK D i).length ≤ i := by
  have := List.length_filter_le (kpB D) (List.range i)
  rw [List.length_range] at this
  exact this
def WoV (l : Lg) (D : List Int) (g : Nat) (a : Option Addr) (cap : Nat) (v : Value) (Hn : List Blk) : Prop :=
  ∃ cb ae cape H2, v = .pointer (some ⟨cb, 0, none⟩) ∧ Hn = (cb, CB (bookCells g (l.wo D) a cap ae cape) 189) :: H2 ∧ Row 77 4 ae (l.wo D).es.length cape (rowOf En.cells (l.wo D).e (l.wo D).es.length) H2

end Go.Proofs.YtjekjehgmljbgaaDoor.T

/- Whether a log has a truth: the walk of holds. -/
namespace Go.Proofs.YtjekjehgmljbgaaDoor.T
open Go.RowKit Go.Proofs Go.Eng
set_option maxRecDepth 100000
set_option maxHeartbeats 1000000
set_option linter.unusedVariables false
set_option linter.unusedSimpArgs false



theorem kp_sorted {l : Lg} (h : l.Ok) (D : List Int) : ∀ i, i ≤ l.es.length → (∀ j, j < (l.woK D i).es.length → ∃ m, m < i ∧ (l.woK D i).e j = l.e m) ∧ ∀ j, j + 1 < (l.woK D i).es.length → ((l.woK D i).e j).day ≤ ((l.woK D i).e (j + 1)).day
  | 0, _ => ⟨fun j hj => by simp [Lg.woK, kpK] at hj, fun j hj => by simp [Lg.woK, kpK] at hj⟩
  | i + 1, hi => by
    obtain ⟨h1, h2⟩ := kp_sorted h D i (by omega)
    have hdm : ∀ a b, a ≤ b → b < l.es.length → (l.e a).day ≤ (l.e b).day := by
      intro a b hab
      induction b with
      | zero => intro _; obtain rfl : a = 0 := (by omega); exact Int.le_refl _
      | succ b ih =>
        intro hb
        by_cases hx : a = b + 1
        · subst hx; exact Int.le_refl _
        · exact Int.le_trans (ih (by omega) (by omega)) (h.mono b hb)
    by_cases hk : kpB D i = true
    · have hlen : (l.woK D (i + 1)).es.length = (l.woK D i).es.length + 1 := by rw [l.woK_len, l.woK_len, kpK_succ, if_pos hk, List.length_append]; rfl
      have he : ∀ j, j < (l.woK D i).es.length → (l.woK D (i + 1)).e j = (l.woK D i).e j := fun j hj => by
        rw [l.woK_len] at hj
        unfold Lg.woK Lg.e
        simp only
        rw [kpK_succ, if_pos hk, List.map_append]
        simp [List.getD_eq_getElem?_getD, List.getElem?_append_left, hj]
      have hl : (l.woK D (i + 1)).e (l.woK D i).es.length = l.e i := by
        rw [l.woK_len]
        unfold Lg.woK Lg.e
        simp only
        rw [kpK_succ, if_pos hk, List.map_append]
        simp [List.getD_eq_getElem?_getD]
      refine ⟨fun j hj => ?_, fun j hj => ?_⟩
      · by_cases hjl : j < (l.woK D i).es.length
        · obtain ⟨m, hm, hme⟩ := h1 j hjl
          exact ⟨m, by omega, (he j hjl).trans hme⟩
        · obtain rfl : j = (l.woK D i).es.length := by omega
          exact ⟨i, by omega, hl⟩
      · by_cases hjl : j + 1 < (l.woK D i).es.length
        · rw [he j (by omega), he (j + 1) hjl]; exact h2 j hjl
        · have hje : j + 1 = (l.woK D i).es.length := by omega
          obtain ⟨m, hm, hme⟩ := h1 j (by omega)
          rw [he j (by omega), hje, hl, hme]
          exact hdm m i (by omega) (by omega)
    · have hw : l.woK D (i + 1) = l.woK D i := by unfold Lg.woK; rw [kpK_succ, if_neg hk]
      rw [hw]
      exact ⟨fun j hj => by obtain ⟨m, hm, hme⟩ := h1 j hj; exact ⟨m, by omega, hme⟩, h2⟩
theorem Lg.Ok.wo {l : Lg} (h : l.Ok) (D : List Int) : (l.wo D).Ok := by
  obtain ⟨h1, h2⟩ := kp_sorted h D l.es.length (Nat.le_refl _)
  have hl := kpK_le D l.es.length
  have hn := h.n12
  refine ⟨h.tk, h.start, by show (l.woK D _).es.length ≤ 12; rw [l.woK_len]; omega, fun k hk => ?_, fun k hk => h2 k hk, fun k hk => ?_, fun k hk => ?_⟩
  · obtain ⟨m, hm, he⟩ := h1 k hk
    show 0 ≤ ((l.woK D _).e k).day ∧ _ ≤ _
    rw [show (l.wo D).e k = l.e m from he, he]; exact h.day m hm
  · obtain ⟨m, hm, he⟩ := h1 k hk
    rw [show (l.wo D).e k = l.e m from he]; exact h.kind m hm
  · obtain ⟨m, hm, he⟩ := h1 k hk
    rw [show (l.wo D).e k = l.e m from he]; exact h.size m hm
end Go.Proofs.YtjekjehgmljbgaaDoor.T

/- Dips that must be false: the walks of the closures. -/
namespace Go.Proofs.YtjekjehgmljbgaaDoor.T
open Go.RowKit Go.Proofs Go.Eng
set_option maxRecDepth 100000
set_option maxHeartbeats 1000000
set_option linter.unusedVariables false
set_option linter.unusedSimpArgs false



end Go.Proofs.YtjekjehgmljbgaaDoor.T

/- Dips that must be false: the walk of strike. -/
namespace Go.Proofs.YtjekjehgmljbgaaDoor.T
open Go.RowKit Go.Proofs Go.Eng
set_option maxRecDepth 100000
set_option maxHeartbeats 1000000
set_option linter.unusedVariables false
set_option linter.unusedSimpArgs false



theorem Row.mem {C : Ctx} {H Hn : List Blk} {T : TypeId} {b o n cap k : Nat} {xs : List Int} (h : Row T 1 (some ⟨b, o, none⟩) n cap (iv xs) Hn) (hl : xs.length = n) (hs : Hn.Sublist H) (hk : k < n) : Mem C H b (o + k * 1) [.int .i64 (xs.getD k 0)] :=
  fun w hw => (Row.ints h hl hs w hw).at hk
def firstSome {β : Type} (f : Nat → Option β) (a : Nat) : Nat → Option β
  | 0 => none
  | n + 1 => match f a with
    | some r => some r
    | none => firstSome f (a + 1) n
def frD (D : List Int) : Nat := (D.getD (D.length - 1) 0).toNat
/-- The first list of so many dips more without which there is a truth. -/
def Lg.stk (l : Lg) : Nat → List Int → Option (List Int)
  | 0, D => if (l.wo D).holdsB then some D else none
  | m + 1, D => firstSome (fun i => if (l.e i).kind = 3 then l.stk m (D ++ [(i : Int) + 1]) else none) (frD D) (l.es.length - frD D)
def Lg.stkF (l : Lg) (m : Nat) (D : List Int) (i : Nat) : Option (List Int) := if (l.e i).kind = 3 then l.stk m (D ++ [(i : Int) + 1]) else none
def StkV (base : Value → List Blk → List Blk) (r : Option (List Int)) (L : List Blk) (v : Value) (H' : List Blk) : Prop :=
  ∃ bb s L', v = .bool bb ∧ H' = base s L' ∧ (bb = true → r = none ∧ L' = L) ∧ (bb = false → ∃ R fa fn fcap Hf, r = some R ∧ s = .slice fa fn fcap ∧ Row 3 1 fa fn fcap (iv R) Hf ∧ R.length = fn ∧ Hf.Sublist L')
end Go.Proofs.YtjekjehgmljbgaaDoor.T

/- Dips that must be false; whether a log is valid: the walks. -/
namespace Go.Proofs.YtjekjehgmljbgaaDoor.T
open Go.RowKit Go.Proofs Go.Eng
set_option maxRecDepth 100000
set_option maxHeartbeats 1000000
set_option linter.unusedVariables false
set_option linter.unusedSimpArgs false



def Lg.wr (l : Lg) : Option (List Int) := firstSome (fun n => l.stk n []) 0 (l.es.length + 1)
def WrongV (l : Lg) (v : Value) (Hn : List Blk) : Prop :=
  (l.err ≠ 0 → v = .tuple #[.slice none 0 0, .int .i64 l.err] ∧ Hn = []) ∧
  (l.err = 0 → (∀ R, l.wr = some R → ∃ fa fn fcap, v = .tuple #[.slice fa fn fcap, .int .i64 0] ∧ Row 3 1 fa fn fcap (iv R) Hn ∧ R.length = fn) ∧ (l.wr = none → v = .tuple #[.slice none 0 0, .int .i64 6] ∧ Hn = []))
end Go.Proofs.YtjekjehgmljbgaaDoor.T

/- The law of what a tank holds, walked. -/
namespace Go.Proofs.YtjekjehgmljbgaaDoor.T
open Go.RowKit Go.Proofs Go.Eng
set_option maxRecDepth 100000
set_option maxHeartbeats 800000
set_option linter.unusedVariables false
set_option linter.unusedSimpArgs false



def Lg.trs (l : Lg) : List Int := if l.aerr = 0 then (List.range (l.es.length + 1)).map l.tr else []
end Go.Proofs.YtjekjehgmljbgaaDoor.T

/- Changes: copies of logs: the walks of Clone, copied and Add. -/
namespace Go.Eng
open Go.RowKit
section
variable {C : Ctx} {F : Fence} {n : Nat} {ds : List Deferred} {all : Array Oper} {Q : Exit → Env → List Blk → Prop} {rest : List Oper} {e : Env} {H : List Blk} {d : Option Tmp} {ty : TypeId} {pos : String} {af : Array Edge} {g : Option (Nat × Bool)}
theorem WS_appendN (hF : Wide F) {x y : Operand} {T E : TypeId} {a a' : Option Addr} {n' m cap cap' sz by_ : Nat} {us news : List Value} {z : Value} {H1 Hn : List Blk} (hc : chk n all e ⟨d, .call ⟨.builtin .append, #[x, y], #[T, T]⟩, ty, pos, af, g⟩ = true)
    (hx : ev e x = .slice a n' cap) (hy : ev e y = .slice a' m cap') (hT : C.P.underlying T = some (.slice E)) (hinf : (C.P.info? E).map (fun i => (i.zero, i.size, i.bytes)) = some (some z, sz, by_))
    (hzs : z.cells.size = sz) (hH : H = H1 ++ Hn) (hrow : NewRow E sz n' us (.slice a n' cap) Hn) (hul : us.length = n' * sz) (hs : Src C H a' m news) (hl : news.length = m * sz) (hone : news.all Value.oneCell' = true) (hb : (n' + m) * by_ ≤ 140737488355328) (hm : n' + m ≤ 140737488355328) (h0 : 0 < m)
    (hk : ∀ a' cap' Hn', NewRow E sz (n' + m) (us ++ news) (.slice a' (n' + m) cap') Hn' → WS C F n ds all Q rest (updo e d (.slice a' (n' + m) cap')) (H1 ++ Hn')) :
    WS C F n ds all Q (⟨d, .call ⟨.builtin .append, #[x, y], #[T, T]⟩, ty, pos, af, g⟩ :: rest) e H := by
  by_cases hn : n' = 0
  · subst hn
    have hu : us = [] := by simpa using hul
    subst hu
    obtain ⟨a1, cap1, he, hle, ⟨h, _⟩ | ⟨_, rfl, rfl⟩⟩ := hrow
    · omega
    cases he
    rw [Nat.zero_add] at hb hm hk
    refine WS_gen hF hc (y_append0 hx hy hT hinf hzs hs hl hb hm) fun v Hv hv => ?_
    have hv2 := hv
    obtain ⟨a2, cap2, rfl, _⟩ := hv
    subst hH
    intro w hw act ha
    exact hk a2 cap2 Hv (by rw [List.nil_append]; exact hv2) w ⟨hw.1, hw.2.perm (by rw [List.append_nil]; exact List.perm_append_comm), hw.3⟩ act ha
  · obtain ⟨a1, cap1, he, hr⟩ := hrow.row hul (by omega)
    cases he
    refine WS_appendE hF hc hx hy hT hinf hzs hH hr hs hl hone hb hm fun a2 cap2 Hn' hr2 => hk a2 cap2 Hn' ?_
    obtain ⟨_, h, _⟩ | ⟨b, junk, rfl, rfl, h1, h2, h3⟩ := hr2
    · omega
    · exact ⟨_, _, rfl, h3, .inl ⟨by omega, b, junk, rfl, rfl, h2⟩⟩
end
end Go.Eng
namespace Go.Proofs.YtjekjehgmljbgaaDoor.T
open Go.RowKit Go.Proofs Go.Eng
set_option maxRecDepth 100000
set_option maxHeartbeats 1000000
set_option linter.unusedVariables false
set_option linter.unusedSimpArgs false



/-- A log with an entry more. -/
def Lg.put (l : Lg) (x : En) : Lg := ⟨l.tk, l.start, l.es ++ [x]⟩
theorem Lg.put_row (l : Lg) (x : En) : rowOf En.cells (l.put x).e (l.es.length + 1) = rowOf En.cells l.e l.es.length ++ x.cells := by
  rw [rowOf_succ]
  congr 1
  · refine rowOf_congr _ fun k hk => ?_
    unfold Lg.e Lg.put
    simp only [List.getD_eq_getElem?_getD, List.getElem?_append_left hk]
  · unfold Lg.e Lg.put
    simp
/-- Add's error. -/
def Lg.addE (l : Lg) (x : En) : Int := if l.err = 0 then if l.es.length = 12 then 9 else if (l.put x).err = 0 then 0 else 32 else l.err
def zeroLg : Value := .agg #[.slice none 0 0, .int .i64 0, .int .i64 0, .int .i64 0, .int .i64 0, .slice none 0 0]
def AddV (l : Lg) (x : En) (v : Value) (Hn : List Blk) : Prop :=
  ∃ v0, v = .tuple #[v0, .int .i64 (l.addE x)] ∧ (l.addE x ≠ 0 → v0 = zeroLg ∧ Hn = []) ∧ (l.addE x = 0 → TwinL (l.put x) v0 Hn)
end Go.Proofs.YtjekjehgmljbgaaDoor.T

/- Changes: logs with an entry more, and without some: the walks of Add and Strike. -/
namespace Go.Proofs.YtjekjehgmljbgaaDoor.T
open Go.RowKit Go.Proofs Go.Eng
set_option maxRecDepth 100000
set_option maxHeartbeats 1000000
set_option linter.unusedVariables false
set_option linter.unusedSimpArgs false

def prevD (D : List Int) : Nat → Int
  | 0 => 0
  | j + 1 => D.getD j 0
def okT (n : Int) (D : List Int) (j : Nat) : Bool := inB (prevD D j + 1) n [D.getD j 0]
def Lg.strE (l : Lg) (D : List Int) : Int := if l.err = 0 then if (List.range D.length).all (okT l.es.length D) = true then 0 else 32 else l.err
def StrikeV (l : Lg) (D : List Int) (v : Value) (Hn : List Blk) : Prop :=
  ∃ v0, v = .tuple #[v0, .int .i64 (l.strE D)] ∧ (l.strE D ≠ 0 → v0 = zeroLg ∧ Hn = []) ∧ (l.strE D = 0 → TwinL (l.wo D) v0 Hn)
end Go.Proofs.YtjekjehgmljbgaaDoor.T

/- The reference's changes: the walks of Add, without, Strike and Before. -/
namespace Go.Proofs.YtjekjehgmljbgaaDoor.T
open Go.RowKit Go.Proofs Go.Eng
set_option maxRecDepth 100000
set_option maxHeartbeats 1000000
set_option linter.unusedVariables false
set_option linter.unusedSimpArgs false



end Go.Proofs.YtjekjehgmljbgaaDoor.T

/- The reference's changes: the walks of Strike and Before. -/
namespace Go.Proofs.YtjekjehgmljbgaaDoor.T
open Go.RowKit Go.Proofs Go.Eng
set_option maxRecDepth 100000
set_option maxHeartbeats 1000000
set_option linter.unusedVariables false
set_option linter.unusedSimpArgs false



def lexB : List Int → List Int → Bool
  | x :: xs, y :: ys => if x = y then lexB xs ys else decide (x < y)
  | _, _ => false
/-- Shorter ones first, then the first number that differs. -/
def befB (xs ys : List Int) : Bool := if xs.length = ys.length then lexB xs ys else decide (xs.length < ys.length)
end Go.Proofs.YtjekjehgmljbgaaDoor.T

/- The reference's dips that must be false: the walk of Wrong. -/
namespace Go.Eng
section
variable {C : Ctx} {e : Env} {H : List Blk} {d : Option Tmp} {ty : TypeId} {pos : String} {af : Array Edge} {g : Option (Nat × Bool)} {x y : Operand} {t t' : TypeId} {m i : Nat}
end
end Go.Eng
namespace Go.Proofs.YtjekjehgmljbgaaDoor.T
open Go.RowKit Go.Proofs Go.Eng
set_option maxRecDepth 100000
set_option maxHeartbeats 1000000
set_option linter.unusedVariables false
set_option linter.unusedSimpArgs false



def setL (s n : Nat) : List Int := ((List.range n).filter fun i => s.testBit i).map fun i : Nat => (i : Int) + 1
theorem setL_succ (s n : Nat) : setL s (n + 1) = if s.testBit n then setL s n ++ [(n : Int) + 1] else setL s n := by
  unfold setL
  rw [List.range_succ, List.filter_append]
  cases h : s.testBit n <;> simp [h]
def Lg.dipsB (l : Lg) (s n : Nat) : Bool := (List.range n).all fun i => !s.testBit i || decide ((l.e i).kind = 3)
def betB (T : List Int) : Option (List Int) → Bool
  | none => true
  | some R => befB T R
def Lg.bestW (l : Lg) : Nat → Option (List Int)
  | 0 => none
  | s + 1 => if l.dipsB s l.es.length && betB (setL s l.es.length) (l.bestW s) && (l.wo (setL s l.es.length)).holdsB then some (setL s l.es.length) else l.bestW s
def RWrongV (l : Lg) (v : Value) (Hn : List Blk) : Prop :=
  (l.err ≠ 0 → v = .tuple #[.slice none 0 0, .int .i64 l.err] ∧ Hn = []) ∧
  (l.err = 0 → (∀ R, l.bestW (2 ^ l.es.length) = some R → ∃ fa fn fcap, v = .tuple #[.slice fa fn fcap, .int .i64 0] ∧ Row 3 1 fa fn fcap (iv R) Hn ∧ R.length = fn) ∧ (l.bestW (2 ^ l.es.length) = none → v = .tuple #[.slice none 0 0, .int .i64 6] ∧ Hn = []))
end Go.Proofs.YtjekjehgmljbgaaDoor.T

/- The first of the fewest dips that must be false: both ways of looking for it find the same; plain facts. -/
namespace Go.Proofs.YtjekjehgmljbgaaDoor.T
open Go.RowKit Go.Proofs Go.Eng
set_option maxRecDepth 100000
set_option maxHeartbeats 1000000
set_option linter.unusedVariables false
set_option linter.unusedSimpArgs false

def Lg.Fits (l : Lg) (lo : Int) (E : List Int) : Prop := E.Pairwise (· < ·) ∧ ∀ x ∈ E, lo < x ∧ x ≤ (l.es.length : Int) ∧ (l.e (x - 1).toNat).kind = 3
def Lg.Val (l : Lg) (T : List Int) : Prop := l.Fits 0 T ∧ (l.wo T).holdsB = true
theorem Lg.Fits.tail {l : Lg} {lo x : Int} {E : List Int} (h : l.Fits lo (x :: E)) : l.Fits x E :=
  ⟨(List.pairwise_cons.1 h.1).2, fun y hy => ⟨(List.pairwise_cons.1 h.1).1 y hy, (h.2 y (List.mem_cons_of_mem _ hy)).2⟩⟩
/-! ### Sets as numbers -/
theorem setL_of (n : Nat) : ∀ T : List Int, T.Pairwise (· < ·) → (∀ x ∈ T, 0 < x ∧ x ≤ (n : Int)) → ∃ s, s < 2 ^ n ∧ setL s n = T := by
  induction n with
  | zero =>
    intro T _ h
    refine ⟨0, by decide, ?_⟩
    cases T with
    | nil => rfl
    | cons x T => have := h x List.mem_cons_self; omega
  | succ n ih =>
    intro T hp h
    have small : (∀ x ∈ T, x ≤ (n : Int)) → ∃ s, s < 2 ^ (n + 1) ∧ setL s (n + 1) = T := fun hs => by
      obtain ⟨s, h1, h2⟩ := ih T hp fun x hx => ⟨(h x hx).1, hs x hx⟩
      refine ⟨s, by rw [Nat.pow_succ]; omega, ?_⟩
      rw [setL_succ, Nat.testBit_lt_two_pow h1]
      exact h2
    rcases List.eq_nil_or_concat T with rfl | ⟨L, x, rfl⟩
    · exact small fun x hx => by cases hx
    · rw [List.concat_eq_append] at hp h small ⊢
      have hlt : ∀ y ∈ L, y < x := fun y hy => (List.pairwise_append.1 hp).2.2 y hy x List.mem_cons_self
      have hx := h x (List.mem_append_right _ List.mem_cons_self)
      by_cases hxn : x = (n : Int) + 1
      · obtain ⟨s, h1, h2⟩ := ih L (List.pairwise_append.1 hp).1 fun y hy => ⟨(h y (List.mem_append_left _ hy)).1, by have := hlt y hy; omega⟩
        refine ⟨2 ^ n + s, by rw [Nat.pow_succ]; omega, ?_⟩
        rw [setL_succ, Nat.testBit_two_pow_add_eq, Nat.testBit_lt_two_pow h1]
        have : setL (2 ^ n + s) n = setL s n := by
          unfold setL
          congr 1
          exact List.filter_congr fun i hi => Nat.testBit_two_pow_add_gt (List.mem_range.1 hi) s
        rw [this, h2, hxn]; rfl
      · refine small fun y hy => ?_
        rcases List.mem_append.1 hy with hy | hy
        · have := hlt y hy; omega
        · rw [List.mem_singleton.1 hy]; omega
theorem Lg.Val.set {l : Lg} {T : List Int} (h : l.Val T) : ∃ s, s < 2 ^ l.es.length ∧ setL s l.es.length = T :=
  setL_of _ T h.1.1 fun x hx => ⟨(h.1.2 x hx).1, (h.1.2 x hx).2.1⟩
/-! ### The order of lists -/
end Go.Proofs.YtjekjehgmljbgaaDoor.T

/- The law of changes, walked. -/
namespace Go.Proofs.YtjekjehgmljbgaaDoor.T
open Go.RowKit Go.Proofs Go.Eng
set_option maxRecDepth 100000
set_option maxHeartbeats 1000000
set_option linter.unusedVariables false
set_option linter.unusedSimpArgs false



def Lg.wrL (l : Lg) : List Int := if l.err = 0 then l.wr.getD [] else []
def Lg.wrE (l : Lg) : Int := if l.err = 0 then (if l.wr.isSome then 0 else 6) else l.err
def WrI (l : Lg) (v : Value) (Hn : List Blk) : Prop :=
  ∃ fa fcap, v = .tuple #[.slice fa l.wrL.length fcap, .int .i64 l.wrE] ∧ ∀ (C : Ctx) (H : List Blk) (w : World), Hn.Sublist H → St C H w → Ints w fa l.wrL.length fcap l.wrL
theorem WrongV.ints {l : Lg} {v : Value} {Hn : List Blk} (h : WrongV l v Hn) : WrI l v Hn := by
  unfold WrI Lg.wrL Lg.wrE
  by_cases h0 : l.err = 0
  · rw [if_pos h0, if_pos h0]
    cases hw : l.wr with
    | none =>
      obtain ⟨rfl, rfl⟩ := (h.2 h0).2 hw
      exact ⟨none, 0, rfl, fun C H w _ _ => Ints.nil _ _ _⟩
    | some R =>
      obtain ⟨fa, fn, fcap, rfl, hr, rfl⟩ := (h.2 h0).1 R hw
      exact ⟨fa, fcap, rfl, fun C H w hs hw => Row.ints hr rfl hs w hw⟩
  · rw [if_neg h0, if_neg h0]
    obtain ⟨rfl, rfl⟩ := h.1 h0
    exact ⟨none, 0, rfl, fun C H w _ _ => Ints.nil _ _ _⟩
def Lg.zero : Lg := ⟨⟨[], 0, 0⟩, ⟨0, 0⟩, []⟩
def Lg.addL (l : Lg) (x : En) : Lg := if l.addE x = 0 then l.put x else Lg.zero
def Lg.strL (l : Lg) (D : List Int) : Lg := if l.strE D = 0 then l.wo D else Lg.zero
theorem twin_zero : TwinL Lg.zero zeroLg [] := ⟨none, 0, none, 0, [], [], rfl, ⟨none, 0, rfl, Nat.le_refl _, .inr ⟨rfl, rfl, rfl⟩⟩, ⟨none, 0, rfl, Nat.le_refl _, .inr ⟨rfl, rfl, rfl⟩⟩, rfl⟩
end Go.Proofs.YtjekjehgmljbgaaDoor.T

/- What cans are asked, walked: in, the checks, Check. -/
namespace Go.Proofs.YtjekjehgmljbgaaDoor.T
open Go.RowKit Go.Proofs Go.Eng
set_option maxRecDepth 100000
set_option maxHeartbeats 1000000
set_option linter.unusedVariables false
set_option linter.unusedSimpArgs false

theorem fa106_0 : ∀ b o w, (Instr.fieldAt 106 (.pointer (some ⟨b, o, none⟩)) 0).run Tryd.prog w = .ok (.pointer (some ⟨b, o + 0, none⟩)) w := fun b o w => by kernel_rfl
theorem fa24_0 : ∀ b o w, (Instr.fieldAt 24 (.pointer (some ⟨b, o, none⟩)) 0).run Tryd.prog w = .ok (.pointer (some ⟨b, o + 0, none⟩)) w := fun b o w => by kernel_rfl
theorem fa24_1 : ∀ b o w, (Instr.fieldAt 24 (.pointer (some ⟨b, o, none⟩)) 1).run Tryd.prog w = .ok (.pointer (some ⟨b, o + 1, none⟩)) w := fun b o w => by kernel_rfl
theorem fa24_2 : ∀ b o w, (Instr.fieldAt 24 (.pointer (some ⟨b, o, none⟩)) 2).run Tryd.prog w = .ok (.pointer (some ⟨b, o + 2, none⟩)) w := fun b o w => by kernel_rfl

def firstP (p : Int → Bool) : List Int → Nat → Int
  | [], _ => -1
  | x :: l, k => if p x then (k : Int) else firstP p l (k + 1)
theorem firstP_step {p : Int → Bool} {xs : List Int} {k : Nat} (h : k < xs.length) :
    firstP p (xs.drop k) k = if p (xs.getD k 0) then (k : Int) else firstP p (xs.drop (k + 1)) (k + 1) := by
  rw [List.drop_eq_getElem_cons h]; simp [firstP, h, List.getD_eq_getElem?_getD]
theorem firstP_lt {p : Int → Bool} : ∀ {xs : List Int} {k : Nat}, decide (0 ≤ firstP p xs k) = xs.any p
  | [], _ => by simp [firstP]
  | x :: l, k => by
    have ih := firstP_lt (p := p) (xs := l) (k := k + 1)
    unfold firstP
    cases hx : p x
    · simp only [Bool.false_eq_true, if_false, List.any_cons, hx, Bool.false_or, ih]
    · simp [hx]
/-- A function that tells something of an int. -/
structure Tells (P : Program) (w : World) (fid : FuncId) (caps : List Value) (p : Int → Bool) : Prop where
  enter : ∀ args w, (callFunc fid args).run P w = .ok (.enter fid args) w
  call : ∀ x w', Below w.heap.size w w' → Ct P fid (Value.int .i64 x :: caps).toArray w' fun v _ => v = .bool (p x)
theorem Tells.st {C : Ctx} {H : List Blk} {fid : FuncId} {caps : List Value} {p : Int → Bool} (h : Tells C.P C.w0 fid caps p) (w : World) (hw : St C H w) : Tells C.P w fid caps p :=
  ⟨h.enter, fun x w' hb => h.call x w' (hw.1.trans (hb.mono hw.1.size))⟩

theorem ixP_any (fid : FuncId) (caps : List Value) (p : Int → Bool) (a : Option Addr) (n cap : Nat) (xs : List Int) (w : World) (hn : (n : Int) ≤ 9223372036854775806) (hx : Ints w a n cap xs) (hp : Tells Tryd.prog w fid caps p) :
    Ct Tryd.prog 128 #[.slice a n cap, .func (.func fid) #[] caps.toArray] w fun v _ => v = .int .i64 (firstP p xs 0) := by
  have hl := hx.len
  have hF := wide_wide
  refine Ct_start (args := [_, _]) Tryd.func128 (by rfl) Tryd.ntmps128 (by rfl) ?_
  refine W_seq ?_
  refine W_region_lit (fun ds => ?_)
  refine WS_det hF (by rfl) (y_assign (c := .int .i64 _) (by rfl)) ?_
  refine WS_nil ?_
  refine Then_normal ?_
  refine W_seq ?_
  refine W_seq ?_
  refine W_region_lit (fun ds => ?_)
  refine WS_det hF (by rfl) (y_move (c := .slice _ _ _) (by rfl)) ?_
  refine WS_det hF (by rfl) (y_len (by rfl) Tryd.runUnderlying22) ?_
  refine WS_det hF (by rfl) (y_move (c := .int .i64 _) (by rfl)) ?_
  refine WS_nil ?_
  refine Then_normal ?_
  refine W_block ?_
  refine W_loop (γ := Nat) (fun k => k ≤ n ∧ firstP p (xs.drop k) k = firstP p xs 0) (fun k => [(8, .int .i64 (k : Int)), (7, .int .i64 (n : Int)), (0, .slice a n cap), (1, .func (.func fid) #[] caps.toArray)]) (fun _ => _) (fun k => n - k) (0) ⟨Nat.zero_le _, by simp⟩ (by repeat (first | exact trivial | refine ⟨by rfl, ?_⟩)) (List.Sublist.refl _) ?_
  intro k e hk
  refine W_seq ?_
  refine W_region_lit (fun ds => ?_)
  refine WS_det hF (by rfl) (y_lss (by rfl) (by rfl)) ?_
  refine WS_nil ?_
  refine Then_normal ?_
  refine W_seq ?_
  refine W_cond (by rfl) (fun c2 => ?_) (fun c2 => ?_)
  ·
    try simp only [Bool.not_eq_true', Bool.not_eq_false', decide_eq_true_eq, decide_eq_false_iff_not, ne_eq, Classical.not_not, Int.not_lt, Int.not_le] at c2
    obtain ⟨b, o, rfl, hc⟩ := hx.cell k (by omega)
    refine W_skip ?_
    refine Then_normal ?_
    refine W_seq ?_
    refine W_block ?_
    refine W_seq ?_
    refine W_region_lit (fun ds => ?_)
    refine WS_det hF (by rfl) (y_move (c := .int .i64 _) (by rfl)) ?_
    refine WS_det hF (by rfl) (y_assign (c := .int .i64 _) (by rfl)) ?_
    refine WS_nil ?_
    refine Then_normal ?_
    refine W_seq ?_
    refine W_region_lit (fun ds => ?_)
    refine WS_det hF (by rfl) (y_move (c := _) (by rfl)) ?_
    refine WS_det hF (by rfl) (y_move (c := .slice _ _ _) (by rfl)) ?_
    refine WS_det hF (by rfl) (y_move (c := .int .i64 _) (by rfl)) ?_
    refine WS_det hF (by rfl) (y_index (k := k) (by rfl) (by rfl) (by first | rfl | omega) (by first | decide | omega) Tryd.runUnderlying22 Tryd.sizeOf3) ?_
    refine WS_det hF (by rfl) (y_load1 (by rfl) Tryd.isAgg3 (by first | exact Mem.old1 (by assumption) | exact Mem.oldAt1 (by assumption) (by rfl) | exact Mem.old (by assumption) | exact Mem.oldAtL1 (by assumption) (by rfl) (by rfl))) ?_
    refine WS_det hF (by rfl) (y_callL (first := []) (captured := caps) (by rfl) (by rfl) hp.enter (fun w hw => hp.call _ w hw.1)) ?_
    refine WS_nil ?_
    refine Then_normal ?_
    refine W_cond (by rfl) (fun c4 => ?_) (fun c4 => ?_)
    ·
      try simp only [Bool.not_eq_true', Bool.not_eq_false', decide_eq_true_eq, decide_eq_false_iff_not, ne_eq, Classical.not_not, Int.not_lt, Int.not_le] at c4
      refine W_seq ?_
      refine W_region_lit (fun ds => ?_)
      refine WS_det hF (by rfl) (y_move (c := .int .i64 _) (by rfl)) ?_
      refine WS_det hF (by rfl) (y_assign (c := .int .i64 _) (by rfl)) ?_
      refine WS_nil ?_
      refine Then_normal ?_
      refine W_ret ?_
      refine InB_ret ?_
      refine Then_ret ?_
      refine Loop_ret ?_
      refine InB_ret ?_
      refine Then_ret ?_
      refine Fin_ret [.int .i64 _] [] Tryd.results128 ⟨by rfl, trivial⟩ HSub.nil ?_
      show _ = _
      rw [firstP_step (by omega), c4] at hk
      simp [tupOf, ← hk.2]
    ·
      try simp only [Bool.not_eq_true', Bool.not_eq_false', decide_eq_true_eq, decide_eq_false_iff_not, ne_eq, Classical.not_not, Int.not_lt, Int.not_le] at c4
      refine W_skip ?_
      refine InB_normal ?_
      refine Then_normal ?_
      refine W_region_lit (fun ds => ?_)
      refine WS_det hF (by rfl) (y_add (by rfl) (by rfl) (by unfold I64; omega)) ?_
      refine WS_det hF (by rfl) (y_move (c := .int .i64 _) (by rfl)) ?_
      refine WS_nil ?_
      exact Loop_next (k + 1) ⟨by omega, by rw [firstP_step (by omega), c4] at hk; exact hk.2⟩ (by repeat (first | exact trivial | refine ⟨by rfl, ?_⟩)) (by repeat (first | exact List.Sublist.refl _ | exact List.nil_sublist _ | apply List.Sublist.cons_cons | apply List.Sublist.cons)) (by omega)
  ·
    try simp only [Bool.not_eq_true', Bool.not_eq_false', decide_eq_true_eq, decide_eq_false_iff_not, ne_eq, Classical.not_not, Int.not_lt, Int.not_le] at c2
    refine W_exit ?_
    refine Then_exit ?_
    refine Loop_exit ?_
    refine InB_same ?_
    refine Then_normal ?_
    refine W_seq ?_
    refine W_region_lit (fun ds => ?_)
    refine WS_det hF (by rfl) (y_assign (c := .int .i64 _) (by rfl)) ?_
    refine WS_nil ?_
    refine Then_normal ?_
    refine W_ret ?_
    refine Fin_ret [.int .i64 _] [] Tryd.results128 ⟨by rfl, trivial⟩ HSub.nil ?_
    show _ = _
    obtain rfl : k = n := by omega
    rw [← hk.2, ← hl]; simp [tupOf, firstP]
theorem ctP_any (fid : FuncId) (caps : List Value) (p : Int → Bool) (a : Option Addr) (n cap : Nat) (xs : List Int) (w : World) (hn : (n : Int) ≤ 9223372036854775806) (hx : Ints w a n cap xs) (hp : Tells Tryd.prog w fid caps p) :
    Ct Tryd.prog 94 #[.slice a n cap, .func (.func fid) #[] caps.toArray] w fun v _ => v = .bool (xs.any p) := by
  have hF := wide_wide
  refine Ct_start (args := [_, _]) Tryd.func94 (by rfl) Tryd.ntmps94 (by rfl) ?_
  refine W_seq ?_
  refine W_region_lit (fun ds => ?_)
  refine WS_det hF (by rfl) (y_assign (c := .bool _) (by rfl)) ?_
  refine WS_nil ?_
  refine Then_normal ?_
  refine W_seq ?_
  refine W_region_lit (fun ds => ?_)
  refine WS_det hF (by rfl) (y_move (c := .slice _ _ _) (by rfl)) ?_
  refine WS_det hF (by rfl) (y_move (c := _) (by rfl)) ?_
  refine WS_det hF (by rfl) (y_callL (by rfl) (by rfl) Tryd.call128 (fun w hw => ixP_any fid caps p a n cap xs w hn (hx.st w hw) (hp.st w hw))) ?_
  refine WS_det hF (by rfl) (y_geq (by rfl) (by rfl)) ?_
  refine WS_det hF (by rfl) (y_assign (c := .bool _) (by rfl)) ?_
  refine WS_nil ?_
  refine Then_normal ?_
  refine W_ret ?_
  refine Fin_ret [.bool _] [] Tryd.results94 ⟨by rfl, trivial⟩ HSub.nil ?_
  show Value.bool _ = _
  rw [firstP_lt]
theorem cin1_any (n lo hi : Int) (p q o1 o2 : Nat) (w : World) (h1 : At w p o1 [.int .i64 lo]) (h2 : At w q o2 [.int .i64 hi]) :
    Ct Tryd.prog 95 #[.int .i64 n, .pointer (some ⟨p, o1, none⟩), .pointer (some ⟨q, o2, none⟩)] w fun v _ => v = .bool (outB lo hi n) := by
  have hF := wide_wide
  refine Ct_start (args := [_, _, _]) Tryd.func95 (by rfl) Tryd.ntmps95 (by rfl) ?_
  refine W_seq ?_
  refine W_region_lit (fun ds => ?_)
  refine WS_det hF (by rfl) (y_assign (c := .bool _) (by rfl)) ?_
  refine WS_nil ?_
  refine Then_normal ?_
  refine W_seq ?_
  refine W_region_lit (fun ds => ?_)
  refine WS_det hF (by rfl) (y_move (c := .int .i64 _) (by rfl)) ?_
  refine WS_det hF (by rfl) (y_load1 (by rfl) Tryd.isAgg3 (by first | exact Mem.old1 (by assumption) | exact Mem.oldAt1 (by assumption) (by rfl) | exact Mem.old (by assumption) | exact Mem.oldAtL1 (by assumption) (by rfl) (by rfl))) ?_
  refine WS_det hF (by rfl) (y_lss (by rfl) (by rfl)) ?_
  refine WS_det hF (by rfl) (y_move (c := .bool _) (by rfl)) ?_
  refine WS_split 8 (by rfl) (fun g1_3 => ?_) (fun g1_3 => ?_)
  ·
    try simp only [Bool.not_eq_true', Bool.not_eq_false', decide_eq_true_eq, decide_eq_false_iff_not, ne_eq, Classical.not_not, Int.not_lt, Int.not_le] at g1_3
    refine WS_no hF (by rfl) ?_
    refine WS_no hF (by rfl) ?_
    refine WS_no hF (by rfl) ?_
    refine WS_det hF (by rfl) (by first | exact y_pick_t (c := .bool _) (by rfl) (by rfl) | exact y_pick_f (c := .bool _) (by rfl) (by rfl)) ?_
    refine WS_det hF (by rfl) (y_assign (c := .bool _) (by rfl)) ?_
    refine WS_nil ?_
    refine Then_normal ?_
    refine W_ret ?_
    refine Fin_ret [.bool _] [] Tryd.results95 ⟨by rfl, trivial⟩ HSub.nil ?_
    show _ = _
    simp [tupOf, outB, *] <;> omega
  ·
    try simp only [Bool.not_eq_true', Bool.not_eq_false', decide_eq_true_eq, decide_eq_false_iff_not, ne_eq, Classical.not_not, Int.not_lt, Int.not_le] at g1_3
    refine WS_det hF (by rfl) (y_move (c := .int .i64 _) (by rfl)) ?_
    refine WS_det hF (by rfl) (y_load1 (by rfl) Tryd.isAgg3 (by first | exact Mem.old1 (by assumption) | exact Mem.oldAt1 (by assumption) (by rfl) | exact Mem.old (by assumption) | exact Mem.oldAtL1 (by assumption) (by rfl) (by rfl))) ?_
    refine WS_det hF (by rfl) (y_gtr (by rfl) (by rfl)) ?_
    refine WS_det hF (by rfl) (by first | exact y_pick_t (c := .bool _) (by rfl) (by rfl) | exact y_pick_f (c := .bool _) (by rfl) (by rfl)) ?_
    refine WS_det hF (by rfl) (y_assign (c := .bool _) (by rfl)) ?_
    refine WS_nil ?_
    refine Then_normal ?_
    refine W_ret ?_
    refine Fin_ret [.bool _] [] Tryd.results95 ⟨by rfl, trivial⟩ HSub.nil ?_
    show _ = _
    simp [tupOf, outB, *] <;> omega
theorem cin_any (a : Option Addr) (n cap : Nat) (xs : List Int) (lo hi : Int) (w : World) (hn : (n : Int) ≤ 9223372036854775806) (hx : Ints w a n cap xs) :
    Ct Tryd.prog 56 #[.int .i64 lo, .int .i64 hi, .slice a n cap] w fun v _ => v = .bool (inB lo hi xs) := by
  have hF := wide_wide
  refine Ct_start (args := [_, _, _]) Tryd.func56 (by rfl) Tryd.ntmps56 (by rfl) ?_
  refine W_seq ?_
  refine W_region_lit (fun ds => ?_)
  refine WS_new hF (by rfl) (y_box (by rfl)) (fun b1 => ?_)
  refine WS_new hF (by rfl) (y_box (by rfl)) (fun b2 => ?_)
  refine WS_det hF (by rfl) (y_assign (c := .bool _) (by rfl)) ?_
  refine WS_nil ?_
  refine Then_normal ?_
  refine W_seq ?_
  refine W_region_lit (fun ds => ?_)
  refine WS_det hF (by rfl) (y_move (c := .slice _ _ _) (by rfl)) ?_
  refine WS_det hF (by rfl) (y_makeFuncL (by rfl) (by rfl)) ?_
  refine WS_det hF (by rfl) (y_callL (by rfl) (by rfl) Tryd.call94 (fun w hw => ctP_any 95 [_, _] (outB lo hi) a n cap xs w hn (hx.st w hw) ⟨Tryd.call95, fun x w' hb => cin1_any x lo hi _ _ 0 0 w' (At.old hb (Mem.own1 1 rfl rfl w hw)) (At.old hb (Mem.own1 0 rfl rfl w hw))⟩)) ?_
  refine WS_det hF (by rfl) (y_not (by rfl)) ?_
  refine WS_det hF (by rfl) (y_assign (c := .bool _) (by rfl)) ?_
  refine WS_nil ?_
  refine Then_normal ?_
  refine W_ret ?_
  refine Fin_ret [.bool _] [] Tryd.results56 ⟨by rfl, trivial⟩ HSub.nil ?_
  show Value.bool _ = _
  rw [inB_any]

def Cn.chkB (c : Cn) : Nat → Bool
  | 0 => inB 1 3 [(c.n : Int)] && decide (c.inn.length = c.n)
  | 1 => inB 1 20 c.sz && inB 0 600 [c.st]
  | _ => c.fitB c.n
theorem chk1_any (c : Cn) (a1 : Option Addr) (p1 : Nat) (a2 : Option Addr) (p2 : Nat) (w : World) (hn : c.n ≤ 1000000) (hm : c.inn.length ≤ 1000000) (h1 : Ints w a1 c.n p1 c.sz) (h2 : Ints w a2 c.inn.length p2 c.inn) : Ct Tryd.prog 225 #[.agg #[.slice a1 c.n p1, .slice a2 c.inn.length p2, .int .i64 c.st]] w fun v _ => v = .bool (c.chkB 0) := by
  have hF := wide_wide
  refine Ct_start (args := [_]) Tryd.func225 (by rfl) Tryd.ntmps225 (by rfl) ?_
  refine W_seq ?_
  refine W_region_lit (fun ds => ?_)
  refine WS_new hF (by rfl) (y_box (by rfl)) (fun b1 => ?_)
  refine WS_det hF (by rfl) (y_assign (c := .bool _) (by rfl)) ?_
  refine WS_nil ?_
  refine Then_normal ?_
  refine W_seq ?_
  refine W_region_lit (fun ds => ?_)
  refine WS_det hF (by rfl) (y_fieldAddr (by rfl) fa24_0) ?_
  refine WS_det hF (by rfl) (y_load1 (by rfl) Tryd.isAgg22 (Mem.own1 0 (by rfl) (by rfl))) ?_
  refine WS_det hF (by rfl) (y_len (by rfl) Tryd.runUnderlying22) ?_
  refine WS_newS hF (by rfl) (y_buildSliceL bs22_1_0 (by rfl)) (fun b2 => ?_)
  refine WS_det hF (by rfl) (y_callL (by rfl) (by rfl) Tryd.call56 (fun w hw => cin_any _ _ _ _ _ _ w (by decide) (by first | exact Ints.one 0 rfl w hw | exact Ints.two 0 rfl w hw))) ?_
  refine WS_det hF (by rfl) (y_move (c := .bool _) (by rfl)) ?_
  refine WS_split 8 (by rfl) (fun g1_5 => ?_) (fun g1_5 => ?_)
  ·
    try simp only [Bool.not_eq_true', Bool.not_eq_false', decide_eq_true_eq, decide_eq_false_iff_not, ne_eq, Classical.not_not, Int.not_lt, Int.not_le] at g1_5
    refine WS_det hF (by rfl) (y_fieldAddr (by rfl) fa24_1) ?_
    refine WS_det hF (by rfl) (y_load1 (by rfl) Tryd.isAgg22 (Mem.own1 1 (by rfl) (by rfl))) ?_
    refine WS_det hF (by rfl) (y_len (by rfl) Tryd.runUnderlying22) ?_
    refine WS_det hF (by rfl) (y_fieldAddr (by rfl) fa24_0) ?_
    refine WS_det hF (by rfl) (y_load1 (by rfl) Tryd.isAgg22 (Mem.own1 1 (by rfl) (by rfl))) ?_
    refine WS_det hF (by rfl) (y_len (by rfl) Tryd.runUnderlying22) ?_
    refine WS_det hF (by rfl) (y_eql (by rfl) (by rfl)) ?_
    refine WS_det hF (by rfl) (by first | exact y_pick_t (c := .bool _) (by rfl) (by rfl) | exact y_pick_f (c := .bool _) (by rfl) (by rfl)) ?_
    refine WS_det hF (by rfl) (y_assign (c := .bool _) (by rfl)) ?_
    refine WS_nil ?_
    refine Then_normal ?_
    refine W_ret ?_
    refine Fin_ret [.bool _] [] Tryd.results225 ⟨by rfl, trivial⟩ HSub.nil ?_
    show Value.bool _ = _
    unfold Cn.chkB
    simp [*] <;> omega
  ·
    try simp only [Bool.not_eq_true', Bool.not_eq_false', decide_eq_true_eq, decide_eq_false_iff_not, ne_eq, Classical.not_not, Int.not_lt, Int.not_le] at g1_5
    refine WS_no hF (by rfl) ?_
    refine WS_no hF (by rfl) ?_
    refine WS_no hF (by rfl) ?_
    refine WS_no hF (by rfl) ?_
    refine WS_no hF (by rfl) ?_
    refine WS_no hF (by rfl) ?_
    refine WS_no hF (by rfl) ?_
    refine WS_det hF (by rfl) (by first | exact y_pick_t (c := .bool _) (by rfl) (by rfl) | exact y_pick_f (c := .bool _) (by rfl) (by rfl)) ?_
    refine WS_det hF (by rfl) (y_assign (c := .bool _) (by rfl)) ?_
    refine WS_nil ?_
    refine Then_normal ?_
    refine W_ret ?_
    refine Fin_ret [.bool _] [] Tryd.results225 ⟨by rfl, trivial⟩ HSub.nil ?_
    show Value.bool _ = _
    unfold Cn.chkB
    simp [*] <;> omega
theorem chk2_any (c : Cn) (a1 : Option Addr) (p1 : Nat) (a2 : Option Addr) (p2 : Nat) (w : World) (hn : c.n ≤ 1000000) (hm : c.inn.length ≤ 1000000) (h1 : Ints w a1 c.n p1 c.sz) (h2 : Ints w a2 c.inn.length p2 c.inn) : Ct Tryd.prog 226 #[.agg #[.slice a1 c.n p1, .slice a2 c.inn.length p2, .int .i64 c.st]] w fun v _ => v = .bool (c.chkB 1) := by
  have hF := wide_wide
  refine Ct_start (args := [_]) Tryd.func226 (by rfl) Tryd.ntmps226 (by rfl) ?_
  refine W_seq ?_
  refine W_region_lit (fun ds => ?_)
  refine WS_new hF (by rfl) (y_box (by rfl)) (fun b1 => ?_)
  refine WS_det hF (by rfl) (y_assign (c := .bool _) (by rfl)) ?_
  refine WS_nil ?_
  refine Then_normal ?_
  refine W_seq ?_
  refine W_region_lit (fun ds => ?_)
  refine WS_det hF (by rfl) (y_fieldAddr (by rfl) fa24_0) ?_
  refine WS_det hF (by rfl) (y_load1 (by rfl) Tryd.isAgg22 (Mem.own1 0 (by rfl) (by rfl))) ?_
  refine WS_det hF (by rfl) (y_callL (by rfl) (by rfl) Tryd.call56 (fun w hw => cin_any _ _ _ _ _ _ w (by omega) (h1.st w hw))) ?_
  refine WS_det hF (by rfl) (y_move (c := .bool _) (by rfl)) ?_
  refine WS_split 6 (by rfl) (fun g1_3 => ?_) (fun g1_3 => ?_)
  ·
    try simp only [Bool.not_eq_true', Bool.not_eq_false', decide_eq_true_eq, decide_eq_false_iff_not, ne_eq, Classical.not_not, Int.not_lt, Int.not_le] at g1_3
    refine WS_det hF (by rfl) (y_fieldAddr (by rfl) fa24_2) ?_
    refine WS_det hF (by rfl) (y_load1 (by rfl) Tryd.isAgg3 (Mem.own1 0 (by rfl) (by rfl))) ?_
    refine WS_newS hF (by rfl) (y_buildSliceL bs22_1_0 (by rfl)) (fun b2 => ?_)
    refine WS_det hF (by rfl) (y_callL (by rfl) (by rfl) Tryd.call56 (fun w hw => cin_any _ _ _ _ _ _ w (by decide) (by first | exact Ints.one 0 rfl w hw | exact Ints.two 0 rfl w hw))) ?_
    refine WS_det hF (by rfl) (by first | exact y_pick_t (c := .bool _) (by rfl) (by rfl) | exact y_pick_f (c := .bool _) (by rfl) (by rfl)) ?_
    refine WS_det hF (by rfl) (y_assign (c := .bool _) (by rfl)) ?_
    refine WS_nil ?_
    refine Then_normal ?_
    refine W_ret ?_
    refine Fin_ret [.bool _] [] Tryd.results226 ⟨by rfl, trivial⟩ HSub.nil ?_
    show Value.bool _ = _
    unfold Cn.chkB
    simp [*]
  ·
    try simp only [Bool.not_eq_true', Bool.not_eq_false', decide_eq_true_eq, decide_eq_false_iff_not, ne_eq, Classical.not_not, Int.not_lt, Int.not_le] at g1_3
    refine WS_no hF (by rfl) ?_
    refine WS_no hF (by rfl) ?_
    refine WS_no hF (by rfl) ?_
    refine WS_no hF (by rfl) ?_
    refine WS_det hF (by rfl) (by first | exact y_pick_t (c := .bool _) (by rfl) (by rfl) | exact y_pick_f (c := .bool _) (by rfl) (by rfl)) ?_
    refine WS_det hF (by rfl) (y_assign (c := .bool _) (by rfl)) ?_
    refine WS_nil ?_
    refine Then_normal ?_
    refine W_ret ?_
    refine Fin_ret [.bool _] [] Tryd.results226 ⟨by rfl, trivial⟩ HSub.nil ?_
    show Value.bool _ = _
    unfold Cn.chkB
    simp [*]
theorem chk3_any (c : Cn) (a1 : Option Addr) (p1 : Nat) (a2 : Option Addr) (p2 : Nat) (w : World) (hl : c.inn.length = c.n) (hn : c.n ≤ 1000000) (hm : c.inn.length ≤ 1000000) (h1 : Ints w a1 c.n p1 c.sz) (h2 : Ints w a2 c.inn.length p2 c.inn) : Ct Tryd.prog 227 #[.agg #[.slice a1 c.n p1, .slice a2 c.inn.length p2, .int .i64 c.st]] w fun v _ => v = .bool (c.chkB 2) := by
  have hF := wide_wide
  refine Ct_start (args := [_]) Tryd.func227 (by rfl) Tryd.ntmps227 (by rfl) ?_
  refine W_seq ?_
  refine W_region_lit (fun ds => ?_)
  refine WS_new hF (by rfl) (y_box (by rfl)) (fun b1 => ?_)
  refine WS_det hF (by rfl) (y_assign (c := .bool _) (by rfl)) ?_
  refine WS_nil ?_
  refine Then_normal ?_
  refine W_seq ?_
  refine W_seq ?_
  refine W_region_lit (fun ds => ?_)
  refine WS_det hF (by rfl) (y_fieldAddr (by rfl) fa24_0) ?_
  refine WS_det hF (by rfl) (y_load1 (by rfl) Tryd.isAgg22 (Mem.own1 0 (by rfl) (by rfl))) ?_
  refine WS_det hF (by rfl) (y_len (by rfl) Tryd.runUnderlying22) ?_
  refine WS_det hF (by rfl) (y_move (c := .int .i64 _) (by rfl)) ?_
  refine WS_nil ?_
  refine Then_normal ?_
  refine W_block ?_
  refine W_loop (γ := Nat) (fun k => k ≤ c.n ∧ c.fitB k = true) (fun k => [(1, .pointer (some ⟨b1, 0, none⟩)), (6, .slice a1 c.n p1), (7, .int .i64 (c.n : Int)), (8, .int .i64 (k : Int))]) (fun _ => _) (fun k => c.n - k) (0) ⟨Nat.zero_le _, rfl⟩ (by repeat (first | exact trivial | refine ⟨by rfl, ?_⟩)) (List.Sublist.refl _) ?_
  rintro k e ⟨hk, hfit⟩
  refine W_seq ?_
  refine W_region_lit (fun ds => ?_)
  refine WS_det hF (by rfl) (y_lss (by rfl) (by rfl)) ?_
  refine WS_nil ?_
  refine Then_normal ?_
  refine W_seq ?_
  refine W_cond (by rfl) (fun c2 => ?_) (fun c2 => ?_)
  ·
    try simp only [Bool.not_eq_true', Bool.not_eq_false', decide_eq_true_eq, decide_eq_false_iff_not, ne_eq, Classical.not_not, Int.not_lt, Int.not_le] at c2
    obtain ⟨b, o, rfl, hc⟩ := h1.cell k (by omega)
    obtain ⟨b', o', rfl, hc'⟩ := h2.cell k (by omega)
    change At w b _ [.int .i64 (c.s k)] at hc
    change At w b' _ [.int .i64 (c.i k)] at hc'
    refine W_skip ?_
    refine Then_normal ?_
    refine W_seq ?_
    refine W_block ?_
    refine W_seq ?_
    refine W_region_lit (fun ds => ?_)
    refine WS_det hF (by rfl) (y_move (c := .int .i64 _) (by rfl)) ?_
    refine WS_det hF (by rfl) (y_index (k := k) (by rfl) (by rfl) (by first | rfl | omega) (by first | decide | omega) Tryd.runUnderlying22 Tryd.sizeOf3) ?_
    refine WS_det hF (by rfl) (y_load1 (by rfl) Tryd.isAgg3 (by first | exact Mem.old1 (by assumption) | exact Mem.oldAt1 (by assumption) (by rfl) | exact Mem.old (by assumption) | exact Mem.oldAtL1 (by assumption) (by rfl) (by rfl))) ?_
    refine WS_det hF (by rfl) (y_assign (c := .int .i64 _) (by rfl)) ?_
    refine WS_det hF (by rfl) (y_assign (c := .int .i64 _) (by rfl)) ?_
    refine WS_nil ?_
    refine Then_normal ?_
    refine W_seq ?_
    refine W_region_lit (fun ds => ?_)
    refine WS_det hF (by rfl) (y_move (c := .int .i64 _) (by rfl)) ?_
    refine WS_det hF (by rfl) (y_fieldAddr (by rfl) fa24_1) ?_
    refine WS_det hF (by rfl) (y_load1 (by rfl) Tryd.isAgg22 (Mem.own1 0 (by rfl) (by rfl))) ?_
    refine WS_det hF (by rfl) (y_move (c := .int .i64 _) (by rfl)) ?_
    refine WS_det hF (by rfl) (y_index (k := k) (by rfl) (by rfl) (by first | rfl | omega) (by first | decide | omega) Tryd.runUnderlying22 Tryd.sizeOf3) ?_
    refine WS_det hF (by rfl) (y_load1 (by rfl) Tryd.isAgg3 (by first | exact Mem.old1 (by assumption) | exact Mem.oldAt1 (by assumption) (by rfl) | exact Mem.old (by assumption) | exact Mem.oldAtL1 (by assumption) (by rfl) (by rfl))) ?_
    refine WS_newS hF (by rfl) (y_buildSliceL bs22_1_0 (by rfl)) (fun b2 => ?_)
    refine WS_det hF (by rfl) (y_callL (by rfl) (by rfl) Tryd.call56 (fun w hw => cin_any _ _ _ _ _ _ w (by decide) (by first | exact Ints.one 0 rfl w hw | exact Ints.two 0 rfl w hw))) ?_
    refine WS_det hF (by rfl) (y_not (by rfl)) ?_
    refine WS_nil ?_
    refine Then_normal ?_
    refine W_cond (by rfl) (fun c4 => ?_) (fun c4 => ?_)
    ·
      try simp only [Bool.not_eq_true', Bool.not_eq_false', decide_eq_true_eq, decide_eq_false_iff_not, ne_eq, Classical.not_not, Int.not_lt, Int.not_le] at c4
      refine W_seq ?_
      refine W_region_lit (fun ds => ?_)
      refine WS_det hF (by rfl) (y_assign (c := .bool _) (by rfl)) ?_
      refine WS_nil ?_
      refine Then_normal ?_
      refine W_ret ?_
      refine InB_ret ?_
      refine Then_ret ?_
      refine Loop_ret ?_
      refine InB_ret ?_
      refine Then_ret ?_
      refine Fin_ret [.bool _] [] Tryd.results227 ⟨by rfl, trivial⟩ HSub.nil ?_
      show Value.bool _ = _
      exact congrArg Value.bool (Cn.fitB_false (k := k) (by omega) c4).symm
    ·
      try simp only [Bool.not_eq_true', Bool.not_eq_false', decide_eq_true_eq, decide_eq_false_iff_not, ne_eq, Classical.not_not, Int.not_lt, Int.not_le] at c4
      refine W_skip ?_
      refine InB_normal ?_
      refine Then_normal ?_
      refine W_region_lit (fun ds => ?_)
      refine WS_det hF (by rfl) (y_add (by rfl) (by rfl) (by unfold I64; omega)) ?_
      refine WS_det hF (by rfl) (y_move (c := .int .i64 _) (by rfl)) ?_
      refine WS_nil ?_
      exact Loop_next (k + 1) ⟨by omega, by rw [c.fitB_succ, hfit, c4]; rfl⟩ (by repeat (first | exact trivial | refine ⟨by rfl, ?_⟩)) (by repeat (first | exact List.Sublist.refl _ | exact List.nil_sublist _ | apply List.Sublist.cons_cons | apply List.Sublist.cons)) (by omega)
  ·
    try simp only [Bool.not_eq_true', Bool.not_eq_false', decide_eq_true_eq, decide_eq_false_iff_not, ne_eq, Classical.not_not, Int.not_lt, Int.not_le] at c2
    refine W_exit ?_
    refine Then_exit ?_
    refine Loop_exit ?_
    refine InB_same ?_
    refine Then_normal ?_
    refine W_seq ?_
    refine W_region_lit (fun ds => ?_)
    refine WS_det hF (by rfl) (y_assign (c := .bool _) (by rfl)) ?_
    refine WS_nil ?_
    refine Then_normal ?_
    refine W_ret ?_
    refine Fin_ret [.bool _] [] Tryd.results227 ⟨by rfl, trivial⟩ HSub.nil ?_
    show Value.bool _ = _
    obtain rfl : k = c.n := by omega
    exact congrArg Value.bool hfit.symm
def chkF : Nat → FuncId
  | 0 => 225
  | 1 => 226
  | _ => 227
def chkV : List Value := [.func (.func 225) #[] #[], .func (.func 226) #[] #[], .func (.func 227) #[] #[]]
/-- The table of checks, where it was laid. -/
def Gv (w : World) : Prop := At w 0 0 chkV
theorem Gv.st {C : Ctx} {H : List Blk} (h : Gv C.w0) (w : World) (hw : St C H w) : Gv w := At.old hw.1 h
theorem chk_enter (k : Nat) : ∀ args w, (callFunc (chkF k) args).run Tryd.prog w = .ok (.enter (chkF k) args) w := by
  match k with
  | 0 => exact Tryd.call225
  | 1 => exact Tryd.call226
  | _ + 2 => exact Tryd.call227
theorem chk_part (k : Nat) (hk : k < 3) : ∀ w, (part 106 chkV.toArray (k * 1)).run Tryd.prog w = .ok (.agg #[.func (.func (chkF k)) #[] #[]]) w := by
  obtain rfl | rfl | rfl : k = 0 ∨ k = 1 ∨ k = 2 := by omega
  all_goals exact fun w => by kernel_rfl
theorem chk_any (k : Nat) (hk : k < 3) (c : Cn) (a1 : Option Addr) (p1 : Nat) (a2 : Option Addr) (p2 : Nat) (w : World) (hj : ∀ j, j < k → c.chkB j = true) (hn : c.n ≤ 1000000) (hm : c.inn.length ≤ 1000000) (h1 : Ints w a1 c.n p1 c.sz) (h2 : Ints w a2 c.inn.length p2 c.inn) : Ct Tryd.prog (chkF k) #[.agg #[.slice a1 c.n p1, .slice a2 c.inn.length p2, .int .i64 c.st]] w fun v _ => v = .bool (c.chkB k) := by
  obtain rfl | rfl | rfl : k = 0 ∨ k = 1 ∨ k = 2 := by omega
  · exact chk1_any c a1 p1 a2 p2 w hn hm h1 h2
  · exact chk2_any c a1 p1 a2 p2 w hn hm h1 h2
  · refine chk3_any c a1 p1 a2 p2 w ?_ hn hm h1 h2
    have := hj 0 (by decide)
    unfold Cn.chkB at this
    simp only [Bool.and_eq_true, decide_eq_true_eq] at this
    exact this.2
theorem Cn.okB_no {c : Cn} (h : ¬ c.Ok) : Value.bool false = Value.bool c.okB := by
  cases hb : c.okB with
  | false => rfl
  | true => exact absurd (Cn.ok_iff.1 hb) h
theorem Cn.okB_yes {c : Cn} (h : c.Ok) : Value.bool true = Value.bool c.okB := by rw [Cn.ok_iff.2 h]
theorem Cn.okB_chk (c : Cn) : c.okB = (c.chkB 0 && c.chkB 1 && c.chkB 2) := rfl
theorem Cn.err_bad {c : Cn} {k : Nat} (hk : k < 3) (h : c.chkB k = false) : c.err = 80 := by
  unfold Cn.err
  rw [c.okB_chk]
  obtain rfl | rfl | rfl : k = 0 ∨ k = 1 ∨ k = 2 := by omega
  all_goals simp [h]
theorem Cn.err_ok {c : Cn} (h : ∀ j, j < 3 → c.chkB j = true) : c.err = 0 := by
  unfold Cn.err
  rw [c.okB_chk, h 0 (by decide), h 1 (by decide), h 2 (by decide)]
  rfl
theorem ccheck_any (c : Cn) (a1 : Option Addr) (p1 : Nat) (a2 : Option Addr) (p2 : Nat) (w : World) (hG : Gv w) (hn : c.n ≤ 1000000) (hm : c.inn.length ≤ 1000000) (h1 : Ints w a1 c.n p1 c.sz) (h2 : Ints w a2 c.inn.length p2 c.inn) : Ct Tryd.prog 16 #[.agg #[.slice a1 c.n p1, .slice a2 c.inn.length p2, .int .i64 c.st]] w fun v _ => v = .int .i64 c.err := by
  have hG0 : At w 0 0 chkV := hG
  have hF := wide_wide
  refine Ct_start (args := [_]) Tryd.func16 (by rfl) Tryd.ntmps16 (by rfl) ?_
  refine W_seq ?_
  refine W_region_lit (fun ds => ?_)
  refine WS_new hF (by rfl) (y_box (by rfl)) (fun b1 => ?_)
  refine WS_det hF (by rfl) (y_assign (c := .int .i64 _) (by rfl)) ?_
  refine WS_nil ?_
  refine Then_normal ?_
  refine W_seq ?_
  refine W_seq ?_
  refine W_region_lit (fun ds => ?_)
  refine WS_det hF (by rfl) (y_loadN (by rfl) Tryd.isAgg107 Tryd.sizeOf107 (by first | exact Mem.old (by assumption) | exact Mem.oldAt (us := [_, _, _]) (by assumption) (by rfl) | exact Mem.oldAtL (us := [_, _, _]) (by assumption) (by rfl) (by rfl)) (by rfl)) ?_
  refine WS_det hF (by rfl) (y_move (c := .int .i64 _) (by rfl)) ?_
  refine WS_nil ?_
  refine Then_normal ?_
  refine W_block ?_
  refine W_loop (γ := Nat) (fun k => k ≤ 3 ∧ ∀ j, j < k → c.chkB j = true) (fun k => [(1, .pointer (some ⟨b1, 0, none⟩)), (5, .agg chkV.toArray), (6, .int .i64 (k : Int))]) (fun _ => _) (fun k => 3 - k) (0) ⟨Nat.zero_le _, fun j h => absurd h (Nat.not_lt_zero _)⟩ (by repeat (first | exact trivial | refine ⟨by rfl, ?_⟩)) (List.Sublist.refl _) ?_
  rintro k e ⟨hk, hj⟩
  refine W_seq ?_
  refine W_region_lit (fun ds => ?_)
  refine WS_det hF (by rfl) (y_lss (by rfl) (by rfl)) ?_
  refine WS_nil ?_
  refine Then_normal ?_
  refine W_seq ?_
  refine W_cond (by rfl) (fun c2 => ?_) (fun c2 => ?_)
  ·
    try simp only [Bool.not_eq_true', Bool.not_eq_false', decide_eq_true_eq, decide_eq_false_iff_not, ne_eq, Classical.not_not, Int.not_lt, Int.not_le] at c2
    refine W_skip ?_
    refine Then_normal ?_
    refine W_seq ?_
    refine W_block ?_
    refine W_seq ?_
    refine W_region_lit (fun ds => ?_)
    refine WS_det hF (by rfl) (y_indexV (k := k) (by rfl) (by rfl) (by rfl) (by omega) Tryd.runUnderlying107 Tryd.sizeOf106 (chk_part k (by omega))) ?_
    refine WS_new hF (by rfl) (y_alloc Tryd.zeroValue106 (by rfl)) (fun b2 => ?_)
    refine WS_store hF (i := 0) (by rfl) (by rfl) Tryd.sizeOf106 (by rfl) (by rfl) (by rfl) (by first | decide | exact Nat.le_of_ble_eq_true rfl | simp) ?_
    refine WS_nil ?_
    refine Then_normal ?_
    refine W_seq ?_
    refine W_region_lit (fun ds => ?_)
    refine WS_det hF (by rfl) (y_fieldAddr (by rfl) fa106_0) ?_
    refine WS_det hF (by rfl) (y_load1 (by rfl) Tryd.isAgg28 (Mem.own1 0 (by rfl) (by rfl))) ?_
    refine WS_det hF (by rfl) (y_loadN (by rfl) Tryd.isAgg24 Tryd.sizeOf24 (Mem.own (us := [.slice _ _ _, .slice _ _ _, .int .i64 _]) 1 (by rfl) (by rfl)) (by rfl)) ?_
    refine WS_det hF (by rfl) (y_callL (first := []) (captured := []) (by rfl) (by rfl) (chk_enter k) (fun w hw => chk_any k (by omega) c a1 p1 a2 p2 w hj hn hm (h1.st w hw) (h2.st w hw))) ?_
    refine WS_det hF (by rfl) (y_not (by rfl)) ?_
    refine WS_nil ?_
    refine Then_normal ?_
    refine W_cond (by rfl) (fun c4 => ?_) (fun c4 => ?_)
    ·
      try simp only [Bool.not_eq_true', Bool.not_eq_false', decide_eq_true_eq, decide_eq_false_iff_not, ne_eq, Classical.not_not, Int.not_lt, Int.not_le] at c4
      refine W_seq ?_
      refine W_region_lit (fun ds => ?_)
      refine WS_det hF (by rfl) (y_assign (c := .int .i64 _) (by rfl)) ?_
      refine WS_nil ?_
      refine Then_normal ?_
      refine W_ret ?_
      refine InB_ret ?_
      refine Then_ret ?_
      refine Loop_ret ?_
      refine InB_ret ?_
      refine Then_ret ?_
      refine Fin_ret [.int .i64 _] [] Tryd.results16 ⟨by rfl, trivial⟩ HSub.nil ?_
      show Value.int _ _ = _
      rw [Cn.err_bad (by omega) c4]
    ·
      try simp only [Bool.not_eq_true', Bool.not_eq_false', decide_eq_true_eq, decide_eq_false_iff_not, ne_eq, Classical.not_not, Int.not_lt, Int.not_le] at c4
      refine W_skip ?_
      refine InB_normal ?_
      refine Then_normal ?_
      refine W_region_lit (fun ds => ?_)
      refine WS_det hF (by rfl) (y_add (by rfl) (by rfl) (by unfold I64; omega)) ?_
      refine WS_det hF (by rfl) (y_move (c := .int .i64 _) (by rfl)) ?_
      refine WS_nil ?_
      exact Loop_next (k + 1) ⟨by omega, fun j hj2 => by by_cases h : j = k; (subst h; exact c4); exact hj j (by omega)⟩ (by repeat (first | exact trivial | refine ⟨by rfl, ?_⟩)) (by repeat (first | exact List.Sublist.refl _ | exact List.nil_sublist _ | apply List.Sublist.cons_cons | apply List.Sublist.cons)) (by omega)
  ·
    try simp only [Bool.not_eq_true', Bool.not_eq_false', decide_eq_true_eq, decide_eq_false_iff_not, ne_eq, Classical.not_not, Int.not_lt, Int.not_le] at c2
    refine W_exit ?_
    refine Then_exit ?_
    refine Loop_exit ?_
    refine InB_same ?_
    refine Then_normal ?_
    refine W_seq ?_
    refine W_region_lit (fun ds => ?_)
    refine WS_det hF (by rfl) (y_assign (c := .int .i64 _) (by rfl)) ?_
    refine WS_nil ?_
    refine Then_normal ?_
    refine W_ret ?_
    refine Fin_ret [.int .i64 _] [] Tryd.results16 ⟨by rfl, trivial⟩ HSub.nil ?_
    show Value.int _ _ = _
    rw [Cn.err_ok fun j h => hj j (by omega)]
end Go.Proofs.YtjekjehgmljbgaaDoor.T

/- The reference's cans, walked: whether they are valid, comparisons, copies. -/
namespace Go.Proofs.YtjekjehgmljbgaaDoor.T
open Go.RowKit Go.Proofs Go.Eng
set_option maxRecDepth 100000
set_option maxHeartbeats 1000000
set_option linter.unusedVariables false
set_option linter.unusedSimpArgs false

theorem bd24_0_1_2 {x0a : Option Addr} {x0l x0c : Nat} {x1a : Option Addr} {x1l x1c : Nat} {x2 : Int} : ∀ w, (Instr.build 24 #[(0, .slice x0a x0l x0c), (1, .slice x1a x1l x1c), (2, .int .i64 x2)]).run Tryd.prog w = .ok (.agg #[.slice x0a x0l x0c, .slice x1a x1l x1c, .int .i64 x2]) w := fun w => by kernel_rfl
theorem fa26_0 : ∀ b o w, (Instr.fieldAt 26 (.pointer (some ⟨b, o, none⟩)) 0).run Tryd.prog w = .ok (.pointer (some ⟨b, o + 0, none⟩)) w := fun b o w => by kernel_rfl
theorem fa26_1 : ∀ b o w, (Instr.fieldAt 26 (.pointer (some ⟨b, o, none⟩)) 1).run Tryd.prog w = .ok (.pointer (some ⟨b, o + 1, none⟩)) w := fun b o w => by kernel_rfl

theorem sameInts2_any (a a' : Option Addr) (n n' cap cap' : Nat) (xs ys : List Int) (w : World) (hn : n ≤ 1000000) (hx : Ints w a n cap xs) (hy : Ints w a' n' cap' ys) :
    Ct Tryd.prog 29 #[.slice a n cap, .slice a' n' cap'] w fun v _ => v = .bool (decide (xs = ys)) := by
  have hF := wide_wide
  refine Ct_start (args := [_, _]) Tryd.func29 (by rfl) Tryd.ntmps29 (by rfl) ?_
  refine W_seq ?_
  refine W_region_lit (fun ds => ?_)
  refine WS_det hF (by rfl) (y_assign (c := .bool _) (by rfl)) ?_
  refine WS_nil ?_
  refine Then_normal ?_
  refine W_seq ?_
  refine W_seq ?_
  refine W_region_lit (fun ds => ?_)
  refine WS_det hF (by rfl) (y_move (c := .slice _ _ _) (by rfl)) ?_
  refine WS_det hF (by rfl) (y_len (by rfl) Tryd.runUnderlying22) ?_
  refine WS_det hF (by rfl) (y_move (c := .slice _ _ _) (by rfl)) ?_
  refine WS_det hF (by rfl) (y_len (by rfl) Tryd.runUnderlying22) ?_
  refine WS_det hF (by rfl) (y_neq (by rfl) (by rfl)) ?_
  refine WS_nil ?_
  refine Then_normal ?_
  refine W_cond (by rfl) (fun c1 => ?_) (fun c1 => ?_)
  ·
    try simp only [Bool.not_eq_true', Bool.not_eq_false', decide_eq_true_eq, decide_eq_false_iff_not, ne_eq, Classical.not_not, Int.not_lt, Int.not_le] at c1
    refine W_seq ?_
    refine W_region_lit (fun ds => ?_)
    refine WS_det hF (by rfl) (y_assign (c := .bool _) (by rfl)) ?_
    refine WS_nil ?_
    refine Then_normal ?_
    refine W_ret ?_
    refine Then_ret ?_
    refine Fin_ret [.bool _] [] Tryd.results29 ⟨by rfl, trivial⟩ HSub.nil ?_
    show Value.bool _ = _
    rw [decide_eq_false]
    intro h
    have h1 := hx.len
    have h2 := hy.len
    rw [h] at h1
    omega
  ·
    try simp only [Bool.not_eq_true', Bool.not_eq_false', decide_eq_true_eq, decide_eq_false_iff_not, ne_eq, Classical.not_not, Int.not_lt, Int.not_le] at c1
    obtain rfl : n = n' := by omega
    refine W_skip ?_
    refine Then_normal ?_
    refine W_seq ?_
    refine W_seq ?_
    refine W_region_lit (fun ds => ?_)
    refine WS_det hF (by rfl) (y_assign (c := .int .i64 _) (by rfl)) ?_
    refine WS_nil ?_
    refine Then_normal ?_
    refine W_block ?_
    refine W_loop (γ := Nat) (fun k => k ≤ n ∧ ∀ j, j < k → xs.getD j 0 = ys.getD j 0) (fun k => [(5, .int .i64 (k : Int)), (0, .slice a n cap), (1, .slice a' n cap')]) (fun _ => _) (fun k => n - k) (0) ⟨Nat.zero_le _, fun j h => absurd h (Nat.not_lt_zero _)⟩ (by repeat (first | exact trivial | refine ⟨by rfl, ?_⟩)) (List.Sublist.refl _) ?_
    rintro k e ⟨hk, hj⟩
    refine W_seq ?_
    refine W_seq ?_
    refine W_region_lit (fun ds => ?_)
    refine WS_det hF (by rfl) (y_move (c := .int .i64 _) (by rfl)) ?_
    refine WS_det hF (by rfl) (y_move (c := .slice _ _ _) (by rfl)) ?_
    refine WS_det hF (by rfl) (y_len (by rfl) Tryd.runUnderlying22) ?_
    refine WS_det hF (by rfl) (y_lss (by rfl) (by rfl)) ?_
    refine WS_nil ?_
    refine Then_normal ?_
    refine W_cond (by rfl) (fun c4 => ?_) (fun c4 => ?_)
    ·
      try simp only [Bool.not_eq_true', Bool.not_eq_false', decide_eq_true_eq, decide_eq_false_iff_not, ne_eq, Classical.not_not, Int.not_lt, Int.not_le] at c4
      obtain ⟨b, o, rfl, h1⟩ := hx.cell k (by omega)
      obtain ⟨b', o', rfl, h2⟩ := hy.cell k (by omega)
      refine W_skip ?_
      refine Then_normal ?_
      refine W_seq ?_
      refine W_block ?_
      refine W_seq ?_
      refine W_draw0 hF Trydmixed [] (by decide +kernel) (fun ds => ?_)
      refine P_det (by rfl) (Over_nil (y_move (c := .slice _ _ _) (by rfl))) ?_
      refine P_det (by rfl) (Over_nil (y_move (c := .int .i64 _) (by rfl))) ?_
      refine P_det (by rfl) (Over_nil (y_index (k := k) (by rfl) (by rfl) (by first | rfl | omega) (by first | decide | omega) Tryd.runUnderlying22 Tryd.sizeOf3)) ?_
      refine P_det (by rfl) (Over_nil (y_load1 (by rfl) Tryd.isAgg3 (by first | exact Mem.old1 (by assumption) | exact Mem.oldAt1 (by assumption) (by rfl) | exact Mem.old (by assumption) | exact Mem.oldAtL1 (by assumption) (by rfl) (by rfl)))) ?_
      refine P_det (by rfl) (Over_nil (y_move (c := .slice _ _ _) (by rfl))) ?_
      refine P_det (by rfl) (Over_nil (y_move (c := .int .i64 _) (by rfl))) ?_
      refine P_det (by rfl) (Over_nil (y_index (k := k) (by rfl) (by rfl) (by first | rfl | omega) (by first | decide | omega) Tryd.runUnderlying22 Tryd.sizeOf3)) ?_
      refine P_det (by rfl) (Over_nil (y_load1 (by rfl) Tryd.isAgg3 (by first | exact Mem.old1 (by assumption) | exact Mem.oldAt1 (by assumption) (by rfl) | exact Mem.old (by assumption) | exact Mem.oldAtL1 (by assumption) (by rfl) (by rfl)))) ?_
      refine P_det (by rfl) (Over_nil (y_neq (by rfl) (by rfl))) ?_
      refine PW_end (by rfl) ?_
      refine OverAll_nil ?_
      rintro -
      refine Then_normal ?_
      refine W_cond (by rfl) (fun c6 => ?_) (fun c6 => ?_)
      ·
        try simp only [Bool.not_eq_true', Bool.not_eq_false', decide_eq_true_eq, decide_eq_false_iff_not, ne_eq, Classical.not_not, Int.not_lt, Int.not_le] at c6
        refine W_seq ?_
        refine W_region_lit (fun ds => ?_)
        refine WS_det hF (by rfl) (y_assign (c := .bool _) (by rfl)) ?_
        refine WS_nil ?_
        refine Then_normal ?_
        refine W_ret ?_
        refine InB_ret ?_
        refine Then_ret ?_
        refine Loop_ret ?_
        refine InB_ret ?_
        refine Then_ret ?_
        refine Fin_ret [.bool _] [] Tryd.results29 ⟨by rfl, trivial⟩ HSub.nil ?_
        show Value.bool _ = _
        rw [decide_eq_false]
        intro h
        exact c6 (by rw [h])
      ·
        try simp only [Bool.not_eq_true', Bool.not_eq_false', decide_eq_true_eq, decide_eq_false_iff_not, ne_eq, Classical.not_not, Int.not_lt, Int.not_le] at c6
        refine W_skip ?_
        refine InB_normal ?_
        refine Then_normal ?_
        refine W_region_lit (fun ds => ?_)
        refine WS_det hF (by rfl) (y_move (c := .int .i64 _) (by rfl)) ?_
        refine WS_det hF (by rfl) (y_add (by rfl) (by rfl) (by unfold I64; omega)) ?_
        refine WS_det hF (by rfl) (y_assign (c := .int .i64 _) (by rfl)) ?_
        refine WS_nil ?_
        exact Loop_next (k + 1) ⟨by omega, fun j h => by by_cases hjk : j = k; (subst hjk; exact c6); exact hj j (by omega)⟩ (by repeat (first | exact trivial | refine ⟨by rfl, ?_⟩)) (by repeat (first | exact List.Sublist.refl _ | exact List.nil_sublist _ | apply List.Sublist.cons_cons | apply List.Sublist.cons)) (by omega)
    ·
      try simp only [Bool.not_eq_true', Bool.not_eq_false', decide_eq_true_eq, decide_eq_false_iff_not, ne_eq, Classical.not_not, Int.not_lt, Int.not_le] at c4
      refine W_exit ?_
      refine Then_exit ?_
      refine Loop_exit ?_
      refine InB_same ?_
      refine Then_normal ?_
      refine W_seq ?_
      refine W_region_lit (fun ds => ?_)
      refine WS_det hF (by rfl) (y_assign (c := .bool _) (by rfl)) ?_
      refine WS_nil ?_
      refine Then_normal ?_
      refine W_ret ?_
      refine Fin_ret [.bool _] [] Tryd.results29 ⟨by rfl, trivial⟩ HSub.nil ?_
      show Value.bool _ = _
      rw [decide_eq_true]
      have hkn : k = n := by omega
      subst hkn
      refine List.ext_getElem (hx.len.trans hy.len.symm) fun j h1 h2 => ?_
      have := hj j (by rw [← hx.len]; exact h1)
      simpa [List.getD_eq_getElem?_getD, h1, h2] using this
theorem rwi_any (n lo hi : Int) (w : World) : Ct Tryd.prog 65 #[.int .i64 n, .int .i64 lo, .int .i64 hi] w fun v _ => v = .bool (inB lo hi [n]) := by
  have hF := wide_wide
  refine Ct_start (args := [_, _, _]) Tryd.func65 (by rfl) Tryd.ntmps65 (by rfl) ?_
  refine W_seq ?_
  refine W_region_lit (fun ds => ?_)
  refine WS_det hF (by rfl) (y_assign (c := .bool _) (by rfl)) ?_
  refine WS_nil ?_
  refine Then_normal ?_
  refine W_seq ?_
  refine W_region_lit (fun ds => ?_)
  refine WS_det hF (by rfl) (y_move (c := .int .i64 _) (by rfl)) ?_
  refine WS_det hF (by rfl) (y_move (c := .int .i64 _) (by rfl)) ?_
  refine WS_det hF (by rfl) (y_geq (by rfl) (by rfl)) ?_
  refine WS_det hF (by rfl) (y_move (c := .bool _) (by rfl)) ?_
  refine WS_split 10 (by rfl) (fun g1_3 => ?_) (fun g1_3 => ?_)
  ·
    try simp only [Bool.not_eq_true', Bool.not_eq_false', decide_eq_true_eq, decide_eq_false_iff_not, ne_eq, Classical.not_not, Int.not_lt, Int.not_le] at g1_3
    refine WS_det hF (by rfl) (y_move (c := .int .i64 _) (by rfl)) ?_
    refine WS_det hF (by rfl) (y_move (c := .int .i64 _) (by rfl)) ?_
    refine WS_det hF (by rfl) (y_leq (by rfl) (by rfl)) ?_
    refine WS_det hF (by rfl) (by first | exact y_pick_t (c := .bool _) (by rfl) (by rfl) | exact y_pick_f (c := .bool _) (by rfl) (by rfl)) ?_
    refine WS_det hF (by rfl) (y_assign (c := .bool _) (by rfl)) ?_
    refine WS_nil ?_
    refine Then_normal ?_
    refine W_ret ?_
    refine Fin_ret [.bool _] [] Tryd.results65 ⟨by rfl, trivial⟩ HSub.nil ?_
    show Value.bool _ = .bool (inB lo hi [n])
    congr 1
    rw [Bool.eq_iff_iff, inB1]
    try simp only [decide_eq_true_eq, Bool.false_eq_true, false_iff]
    omega
  ·
    try simp only [Bool.not_eq_true', Bool.not_eq_false', decide_eq_true_eq, decide_eq_false_iff_not, ne_eq, Classical.not_not, Int.not_lt, Int.not_le] at g1_3
    refine WS_no hF (by rfl) ?_
    refine WS_no hF (by rfl) ?_
    refine WS_no hF (by rfl) ?_
    refine WS_det hF (by rfl) (by first | exact y_pick_t (c := .bool _) (by rfl) (by rfl) | exact y_pick_f (c := .bool _) (by rfl) (by rfl)) ?_
    refine WS_det hF (by rfl) (y_assign (c := .bool _) (by rfl)) ?_
    refine WS_nil ?_
    refine Then_normal ?_
    refine W_ret ?_
    refine Fin_ret [.bool _] [] Tryd.results65 ⟨by rfl, trivial⟩ HSub.nil ?_
    show Value.bool _ = .bool (inB lo hi [n])
    congr 1
    rw [Bool.eq_iff_iff, inB1]
    try simp only [decide_eq_true_eq, Bool.false_eq_true, false_iff]
    omega
theorem rcgreat_any (c : Cn) (a1 : Option Addr) (p1 : Nat) (a2 : Option Addr) (p2 : Nat) (w : World) : Ct Tryd.prog 9 #[.agg #[.slice a1 c.n p1, .slice a2 c.inn.length p2, .int .i64 c.st]] w fun v _ => v = .bool (decide ((c.n : Int) > 10) || decide ((c.inn.length : Int) > 10)) := by
  have hF := wide_wide
  refine Ct_start (args := [_]) Tryd.func9 (by rfl) Tryd.ntmps9 (by rfl) ?_
  refine W_seq ?_
  refine W_region_lit (fun ds => ?_)
  refine WS_new hF (by rfl) (y_box (by rfl)) (fun b1 => ?_)
  refine WS_det hF (by rfl) (y_assign (c := .bool _) (by rfl)) ?_
  refine WS_nil ?_
  refine Then_normal ?_
  refine W_seq ?_
  refine W_region_lit (fun ds => ?_)
  refine WS_det hF (by rfl) (y_fieldAddr (by rfl) fa24_0) ?_
  refine WS_det hF (by rfl) (y_load1 (by rfl) Tryd.isAgg22 (Mem.own1 0 (by rfl) (by rfl))) ?_
  refine WS_det hF (by rfl) (y_len (by rfl) Tryd.runUnderlying22) ?_
  refine WS_det hF (by rfl) (y_gtr (by rfl) (by rfl)) ?_
  refine WS_det hF (by rfl) (y_move (c := .bool _) (by rfl)) ?_
  refine WS_split 7 (by rfl) (fun g1_4 => ?_) (fun g1_4 => ?_)
  ·
    try simp only [Bool.not_eq_true', Bool.not_eq_false', decide_eq_true_eq, decide_eq_false_iff_not, ne_eq, Classical.not_not, Int.not_lt, Int.not_le] at g1_4
    refine WS_no hF (by rfl) ?_
    refine WS_no hF (by rfl) ?_
    refine WS_no hF (by rfl) ?_
    refine WS_no hF (by rfl) ?_
    refine WS_det hF (by rfl) (by first | exact y_pick_t (c := .bool _) (by rfl) (by rfl) | exact y_pick_f (c := .bool _) (by rfl) (by rfl)) ?_
    refine WS_det hF (by rfl) (y_assign (c := .bool _) (by rfl)) ?_
    refine WS_nil ?_
    refine Then_normal ?_
    refine W_ret ?_
    refine Fin_ret [.bool _] [] Tryd.results9 ⟨by rfl, trivial⟩ HSub.nil ?_
    show Value.bool _ = _
    simp [*] <;> omega
  ·
    try simp only [Bool.not_eq_true', Bool.not_eq_false', decide_eq_true_eq, decide_eq_false_iff_not, ne_eq, Classical.not_not, Int.not_lt, Int.not_le] at g1_4
    refine WS_det hF (by rfl) (y_fieldAddr (by rfl) fa24_1) ?_
    refine WS_det hF (by rfl) (y_load1 (by rfl) Tryd.isAgg22 (Mem.own1 0 (by rfl) (by rfl))) ?_
    refine WS_det hF (by rfl) (y_len (by rfl) Tryd.runUnderlying22) ?_
    refine WS_det hF (by rfl) (y_gtr (by rfl) (by rfl)) ?_
    refine WS_det hF (by rfl) (by first | exact y_pick_t (c := .bool _) (by rfl) (by rfl) | exact y_pick_f (c := .bool _) (by rfl) (by rfl)) ?_
    refine WS_det hF (by rfl) (y_assign (c := .bool _) (by rfl)) ?_
    refine WS_nil ?_
    refine Then_normal ?_
    refine W_ret ?_
    refine Fin_ret [.bool _] [] Tryd.results9 ⟨by rfl, trivial⟩ HSub.nil ?_
    show Value.bool _ = _
    simp [*] <;> omega
theorem rcans_any (c : Cn) (a1 : Option Addr) (p1 : Nat) (a2 : Option Addr) (p2 : Nat) (w : World) (hn : c.n ≤ 1000000) (hm : c.inn.length ≤ 1000000) (h1 : Ints w a1 c.n p1 c.sz) (h2 : Ints w a2 c.inn.length p2 c.inn) : Ct Tryd.prog 52 #[.agg #[.slice a1 c.n p1, .slice a2 c.inn.length p2, .int .i64 c.st]] w fun v _ => v = .bool c.okB := by
  have hF := wide_wide
  refine Ct_start (args := [_]) Tryd.func52 (by rfl) Tryd.ntmps52 (by rfl) ?_
  refine W_seq ?_
  refine W_region_lit (fun ds => ?_)
  refine WS_new hF (by rfl) (y_box (by rfl)) (fun b1 => ?_)
  refine WS_det hF (by rfl) (y_assign (c := .bool _) (by rfl)) ?_
  refine WS_nil ?_
  refine Then_normal ?_
  refine W_seq ?_
  refine W_seq ?_
  refine W_region_lit (fun ds => ?_)
  refine WS_det hF (by rfl) (y_fieldAddr (by rfl) fa24_0) ?_
  refine WS_det hF (by rfl) (y_load1 (by rfl) Tryd.isAgg22 (Mem.own1 0 (by rfl) (by rfl))) ?_
  refine WS_det hF (by rfl) (y_len (by rfl) Tryd.runUnderlying22) ?_
  refine WS_det hF (by rfl) (y_callL (by rfl) (by rfl) Tryd.call65 (fun w hw => rwi_any _ _ _ w)) ?_
  refine WS_det hF (by rfl) (y_not (by rfl)) ?_
  refine WS_det hF (by rfl) (y_move (c := .bool _) (by rfl)) ?_
  refine WS_split 9 (by rfl) (fun g1_5 => ?_) (fun g1_5 => ?_)
  ·
    try simp only [Bool.not_eq_true', Bool.not_eq_false', decide_eq_true_eq, decide_eq_false_iff_not, ne_eq, Classical.not_not, Int.not_lt, Int.not_le] at g1_5
    refine WS_no hF (by rfl) ?_
    refine WS_no hF (by rfl) ?_
    refine WS_no hF (by rfl) ?_
    refine WS_no hF (by rfl) ?_
    refine WS_no hF (by rfl) ?_
    refine WS_no hF (by rfl) ?_
    refine WS_no hF (by rfl) ?_
    refine WS_det hF (by rfl) (by first | exact y_pick_t (c := .bool _) (by rfl) (by rfl) | exact y_pick_f (c := .bool _) (by rfl) (by rfl)) ?_
    refine WS_det hF (by rfl) (y_move (c := .bool _) (by rfl)) ?_
    refine WS_no hF (by rfl) ?_
    refine WS_no hF (by rfl) ?_
    refine WS_no hF (by rfl) ?_
    refine WS_no hF (by rfl) ?_
    refine WS_det hF (by rfl) (by first | exact y_pick_t (c := .bool _) (by rfl) (by rfl) | exact y_pick_f (c := .bool _) (by rfl) (by rfl)) ?_
    refine WS_nil ?_
    refine Then_normal ?_
    refine W_cond (by rfl) (fun c1 => ?_) (fun c1 => ?_)
    ·
      try simp only [Bool.not_eq_true', Bool.not_eq_false', decide_eq_true_eq, decide_eq_false_iff_not, ne_eq, Classical.not_not, Int.not_lt, Int.not_le] at c1
      refine W_seq ?_
      refine W_region_lit (fun ds => ?_)
      refine WS_det hF (by rfl) (y_assign (c := .bool _) (by rfl)) ?_
      refine WS_nil ?_
      refine Then_normal ?_
      refine W_ret ?_
      refine Then_ret ?_
      refine Fin_ret [.bool _] [] Tryd.results52 ⟨by rfl, trivial⟩ HSub.nil ?_
      refine Cn.okB_no fun h => ?_
      have := h.n1
      have := h.n3
      have := h.len
      first
        | exact absurd ⟨by omega, by omega⟩ (inB1f.1 g1_5)
        | exact absurd h.len (by omega)
        | exact absurd ⟨h.st0, h.st1⟩ (inB1f.1 c1)
        | exact absurd (h.s k (by omega)) (inB1f.1 g6_7)
        | exact absurd (h.i k (by omega)) (inB1f.1 c6)
    · cases c1
  ·
    try simp only [Bool.not_eq_true', Bool.not_eq_false', decide_eq_true_eq, decide_eq_false_iff_not, ne_eq, Classical.not_not, Int.not_lt, Int.not_le] at g1_5
    refine WS_det hF (by rfl) (y_fieldAddr (by rfl) fa24_1) ?_
    refine WS_det hF (by rfl) (y_load1 (by rfl) Tryd.isAgg22 (Mem.own1 0 (by rfl) (by rfl))) ?_
    refine WS_det hF (by rfl) (y_len (by rfl) Tryd.runUnderlying22) ?_
    refine WS_det hF (by rfl) (y_fieldAddr (by rfl) fa24_0) ?_
    refine WS_det hF (by rfl) (y_load1 (by rfl) Tryd.isAgg22 (Mem.own1 0 (by rfl) (by rfl))) ?_
    refine WS_det hF (by rfl) (y_len (by rfl) Tryd.runUnderlying22) ?_
    refine WS_det hF (by rfl) (y_neq (by rfl) (by rfl)) ?_
    refine WS_det hF (by rfl) (by first | exact y_pick_t (c := .bool _) (by rfl) (by rfl) | exact y_pick_f (c := .bool _) (by rfl) (by rfl)) ?_
    refine WS_det hF (by rfl) (y_move (c := .bool _) (by rfl)) ?_
    refine WS_split 18 (by rfl) (fun g1_14 => ?_) (fun g1_14 => ?_)
    ·
      try simp only [Bool.not_eq_true', Bool.not_eq_false', decide_eq_true_eq, decide_eq_false_iff_not, ne_eq, Classical.not_not, Int.not_lt, Int.not_le] at g1_14
      refine WS_no hF (by rfl) ?_
      refine WS_no hF (by rfl) ?_
      refine WS_no hF (by rfl) ?_
      refine WS_no hF (by rfl) ?_
      refine WS_det hF (by rfl) (by first | exact y_pick_t (c := .bool _) (by rfl) (by rfl) | exact y_pick_f (c := .bool _) (by rfl) (by rfl)) ?_
      refine WS_nil ?_
      refine Then_normal ?_
      refine W_cond (by rfl) (fun c1 => ?_) (fun c1 => ?_)
      ·
        try simp only [Bool.not_eq_true', Bool.not_eq_false', decide_eq_true_eq, decide_eq_false_iff_not, ne_eq, Classical.not_not, Int.not_lt, Int.not_le] at c1
        refine W_seq ?_
        refine W_region_lit (fun ds => ?_)
        refine WS_det hF (by rfl) (y_assign (c := .bool _) (by rfl)) ?_
        refine WS_nil ?_
        refine Then_normal ?_
        refine W_ret ?_
        refine Then_ret ?_
        refine Fin_ret [.bool _] [] Tryd.results52 ⟨by rfl, trivial⟩ HSub.nil ?_
        refine Cn.okB_no fun h => ?_
        have := h.n1
        have := h.n3
        have := h.len
        first
          | exact absurd ⟨by omega, by omega⟩ (inB1f.1 g1_5)
          | exact absurd h.len (by omega)
          | exact absurd ⟨h.st0, h.st1⟩ (inB1f.1 c1)
          | exact absurd (h.s k (by omega)) (inB1f.1 g6_7)
          | exact absurd (h.i k (by omega)) (inB1f.1 c6)
      · cases c1
    ·
      try simp only [Bool.not_eq_true', Bool.not_eq_false', decide_eq_true_eq, decide_eq_false_iff_not, ne_eq, Classical.not_not, Int.not_lt, Int.not_le] at g1_14
      refine WS_det hF (by rfl) (y_fieldAddr (by rfl) fa24_2) ?_
      refine WS_det hF (by rfl) (y_load1 (by rfl) Tryd.isAgg3 (Mem.own1 0 (by rfl) (by rfl))) ?_
      refine WS_det hF (by rfl) (y_callL (by rfl) (by rfl) Tryd.call65 (fun w hw => rwi_any _ _ _ w)) ?_
      refine WS_det hF (by rfl) (y_not (by rfl)) ?_
      refine WS_det hF (by rfl) (by first | exact y_pick_t (c := .bool _) (by rfl) (by rfl) | exact y_pick_f (c := .bool _) (by rfl) (by rfl)) ?_
      refine WS_nil ?_
      refine Then_normal ?_
      refine W_cond (by rfl) (fun c1 => ?_) (fun c1 => ?_)
      ·
        try simp only [Bool.not_eq_true', Bool.not_eq_false', decide_eq_true_eq, decide_eq_false_iff_not, ne_eq, Classical.not_not, Int.not_lt, Int.not_le] at c1
        refine W_seq ?_
        refine W_region_lit (fun ds => ?_)
        refine WS_det hF (by rfl) (y_assign (c := .bool _) (by rfl)) ?_
        refine WS_nil ?_
        refine Then_normal ?_
        refine W_ret ?_
        refine Then_ret ?_
        refine Fin_ret [.bool _] [] Tryd.results52 ⟨by rfl, trivial⟩ HSub.nil ?_
        refine Cn.okB_no fun h => ?_
        have := h.n1
        have := h.n3
        have := h.len
        first
          | exact absurd ⟨by omega, by omega⟩ (inB1f.1 g1_5)
          | exact absurd h.len (by omega)
          | exact absurd ⟨h.st0, h.st1⟩ (inB1f.1 c1)
          | exact absurd (h.s k (by omega)) (inB1f.1 g6_7)
          | exact absurd (h.i k (by omega)) (inB1f.1 c6)
      ·
        try simp only [Bool.not_eq_true', Bool.not_eq_false', decide_eq_true_eq, decide_eq_false_iff_not, ne_eq, Classical.not_not, Int.not_lt, Int.not_le] at c1
        have hlen : c.inn.length = c.n := by omega
        refine W_skip ?_
        refine Then_normal ?_
        refine W_seq ?_
        refine W_seq ?_
        refine W_region_lit (fun ds => ?_)
        refine WS_det hF (by rfl) (y_assign (c := .int .i64 _) (by rfl)) ?_
        refine WS_nil ?_
        refine Then_normal ?_
        refine W_block ?_
        refine W_loop (γ := Nat) (fun k => k ≤ c.n ∧ ∀ j, j < k → (1 ≤ c.s j ∧ c.s j ≤ 20) ∧ 0 ≤ c.i j ∧ c.i j ≤ c.s j) (fun k => [(1, .pointer (some ⟨b1, 0, none⟩)), (3, .int .i64 (k : Int))]) (fun _ => _) (fun k => c.n - k) (0) ⟨Nat.zero_le _, fun j h => absurd h (Nat.not_lt_zero _)⟩ (by repeat (first | exact trivial | refine ⟨by rfl, ?_⟩)) (List.Sublist.refl _) ?_
        rintro k e ⟨hk, hj⟩
        refine W_seq ?_
        refine W_seq ?_
        refine W_region_lit (fun ds => ?_)
        refine WS_det hF (by rfl) (y_move (c := .int .i64 _) (by rfl)) ?_
        refine WS_det hF (by rfl) (y_fieldAddr (by rfl) fa24_0) ?_
        refine WS_det hF (by rfl) (y_load1 (by rfl) Tryd.isAgg22 (Mem.own1 0 (by rfl) (by rfl))) ?_
        refine WS_det hF (by rfl) (y_len (by rfl) Tryd.runUnderlying22) ?_
        refine WS_det hF (by rfl) (y_lss (by rfl) (by rfl)) ?_
        refine WS_nil ?_
        refine Then_normal ?_
        refine W_cond (by rfl) (fun c4 => ?_) (fun c4 => ?_)
        ·
          try simp only [Bool.not_eq_true', Bool.not_eq_false', decide_eq_true_eq, decide_eq_false_iff_not, ne_eq, Classical.not_not, Int.not_lt, Int.not_le] at c4
          obtain ⟨b, o, rfl, hc⟩ := h1.cell k (by omega)
          obtain ⟨b', o', rfl, hc'⟩ := h2.cell k (by omega)
          change At w b _ [.int .i64 (c.s k)] at hc
          change At w b' _ [.int .i64 (c.i k)] at hc'
          refine W_skip ?_
          refine Then_normal ?_
          refine W_seq ?_
          refine W_block ?_
          refine W_seq ?_
          refine W_draw0 hF Trydmixed [] (by decide +kernel) (fun ds => ?_)
          refine P_det (by rfl) (Over_nil (y_fieldAddr (by rfl) fa24_0)) ?_
          refine P_det (by rfl) (Over_nil (y_load1 (by rfl) Tryd.isAgg22 (Mem.own1 0 (by rfl) (by rfl)))) ?_
          refine P_det (by rfl) (Over_nil (y_move (c := .int .i64 _) (by rfl))) ?_
          refine P_det (by rfl) (Over_nil (y_index (k := k) (by rfl) (by rfl) (by first | rfl | omega) (by first | decide | omega) Tryd.runUnderlying22 Tryd.sizeOf3)) ?_
          refine P_det (by rfl) (Over_nil (y_load1 (by rfl) Tryd.isAgg3 (by first | exact Mem.old1 (by assumption) | exact Mem.oldAt1 (by assumption) (by rfl) | exact Mem.old (by assumption) | exact Mem.oldAtL1 (by assumption) (by rfl) (by rfl)))) ?_
          refine P_det (by rfl) (Over_nil (y_callL (by rfl) (by rfl) Tryd.call65 (fun w hw => rwi_any _ _ _ w))) ?_
          refine P_det (by rfl) (Over_nil (y_not (by rfl))) ?_
          refine P_det (by rfl) (Over_nil (y_move (c := .bool _) (by rfl))) ?_
          refine P_split 38 (by rfl) (fun g6_7 => ?_) (fun g6_7 => ?_)
          ·
            try simp only [Bool.not_eq_true', Bool.not_eq_false', decide_eq_true_eq, decide_eq_false_iff_not, ne_eq, Classical.not_not, Int.not_lt, Int.not_le] at g6_7
            refine P_no (by rfl) ?_
            refine P_no (by rfl) ?_
            refine P_no (by rfl) ?_
            refine P_no (by rfl) ?_
            refine P_no (by rfl) ?_
            refine P_no (by rfl) ?_
            refine P_no (by rfl) ?_
            refine P_no (by rfl) ?_
            refine P_no (by rfl) ?_
            refine P_no (by rfl) ?_
            refine P_no (by rfl) ?_
            refine P_no (by rfl) ?_
            refine P_det (by rfl) (Over_nil (by first | exact y_pick_t (c := .bool _) (by rfl) (by rfl) | exact y_pick_f (c := .bool _) (by rfl) (by rfl))) ?_
            refine PW_end (by rfl) ?_
            refine OverAll_nil ?_
            rintro -
            refine Then_normal ?_
            refine W_cond (by rfl) (fun c6 => ?_) (fun c6 => ?_)
            ·
              try simp only [Bool.not_eq_true', Bool.not_eq_false', decide_eq_true_eq, decide_eq_false_iff_not, ne_eq, Classical.not_not, Int.not_lt, Int.not_le] at c6
              refine W_seq ?_
              refine W_region_lit (fun ds => ?_)
              refine WS_det hF (by rfl) (y_assign (c := .bool _) (by rfl)) ?_
              refine WS_nil ?_
              refine Then_normal ?_
              refine W_ret ?_
              refine InB_ret ?_
              refine Then_ret ?_
              refine Loop_ret ?_
              refine InB_ret ?_
              refine Then_ret ?_
              refine Fin_ret [.bool _] [] Tryd.results52 ⟨by rfl, trivial⟩ HSub.nil ?_
              refine Cn.okB_no fun h => ?_
              have := h.n1
              have := h.n3
              have := h.len
              first
                | exact absurd ⟨by omega, by omega⟩ (inB1f.1 g1_5)
                | exact absurd h.len (by omega)
                | exact absurd ⟨h.st0, h.st1⟩ (inB1f.1 c1)
                | exact absurd (h.s k (by omega)) (inB1f.1 g6_7)
                | exact absurd (h.i k (by omega)) (inB1f.1 c6)
            · cases c6
          ·
            try simp only [Bool.not_eq_true', Bool.not_eq_false', decide_eq_true_eq, decide_eq_false_iff_not, ne_eq, Classical.not_not, Int.not_lt, Int.not_le] at g6_7
            refine P_det (by rfl) (Over_nil (y_fieldAddr (by rfl) fa24_1)) ?_
            refine P_det (by rfl) (Over_nil (y_load1 (by rfl) Tryd.isAgg22 (Mem.own1 0 (by rfl) (by rfl)))) ?_
            refine P_det (by rfl) (Over_nil (y_move (c := .int .i64 _) (by rfl))) ?_
            refine P_det (by rfl) (Over_nil (y_index (k := k) (by rfl) (by rfl) (by first | rfl | omega) (by first | decide | omega) Tryd.runUnderlying22 Tryd.sizeOf3)) ?_
            refine P_det (by rfl) (Over_nil (y_load1 (by rfl) Tryd.isAgg3 (by first | exact Mem.old1 (by assumption) | exact Mem.oldAt1 (by assumption) (by rfl) | exact Mem.old (by assumption) | exact Mem.oldAtL1 (by assumption) (by rfl) (by rfl)))) ?_
            refine P_det (by rfl) (Over_nil (y_fieldAddr (by rfl) fa24_0)) ?_
            refine P_det (by rfl) (Over_nil (y_load1 (by rfl) Tryd.isAgg22 (Mem.own1 0 (by rfl) (by rfl)))) ?_
            refine P_det (by rfl) (Over_nil (y_move (c := .int .i64 _) (by rfl))) ?_
            refine P_det (by rfl) (Over_nil (y_index (k := k) (by rfl) (by rfl) (by first | rfl | omega) (by first | decide | omega) Tryd.runUnderlying22 Tryd.sizeOf3)) ?_
            refine P_det (by rfl) (Over_nil (y_load1 (by rfl) Tryd.isAgg3 (by first | exact Mem.old1 (by assumption) | exact Mem.oldAt1 (by assumption) (by rfl) | exact Mem.old (by assumption) | exact Mem.oldAtL1 (by assumption) (by rfl) (by rfl)))) ?_
            refine P_det (by rfl) (Over_nil (y_callL (by rfl) (by rfl) Tryd.call65 (fun w hw => rwi_any _ _ _ w))) ?_
            refine P_det (by rfl) (Over_nil (y_not (by rfl))) ?_
            refine P_det (by rfl) (Over_nil (by first | exact y_pick_t (c := .bool _) (by rfl) (by rfl) | exact y_pick_f (c := .bool _) (by rfl) (by rfl))) ?_
            refine PW_end (by rfl) ?_
            refine OverAll_nil ?_
            rintro -
            refine Then_normal ?_
            refine W_cond (by rfl) (fun c6 => ?_) (fun c6 => ?_)
            ·
              try simp only [Bool.not_eq_true', Bool.not_eq_false', decide_eq_true_eq, decide_eq_false_iff_not, ne_eq, Classical.not_not, Int.not_lt, Int.not_le] at c6
              refine W_seq ?_
              refine W_region_lit (fun ds => ?_)
              refine WS_det hF (by rfl) (y_assign (c := .bool _) (by rfl)) ?_
              refine WS_nil ?_
              refine Then_normal ?_
              refine W_ret ?_
              refine InB_ret ?_
              refine Then_ret ?_
              refine Loop_ret ?_
              refine InB_ret ?_
              refine Then_ret ?_
              refine Fin_ret [.bool _] [] Tryd.results52 ⟨by rfl, trivial⟩ HSub.nil ?_
              refine Cn.okB_no fun h => ?_
              have := h.n1
              have := h.n3
              have := h.len
              first
                | exact absurd ⟨by omega, by omega⟩ (inB1f.1 g1_5)
                | exact absurd h.len (by omega)
                | exact absurd ⟨h.st0, h.st1⟩ (inB1f.1 c1)
                | exact absurd (h.s k (by omega)) (inB1f.1 g6_7)
                | exact absurd (h.i k (by omega)) (inB1f.1 c6)
            ·
              try simp only [Bool.not_eq_true', Bool.not_eq_false', decide_eq_true_eq, decide_eq_false_iff_not, ne_eq, Classical.not_not, Int.not_lt, Int.not_le] at c6
              have hs : 1 ≤ c.s k ∧ c.s k ≤ 20 := inB1.1 g6_7
              have hi : 0 ≤ c.i k ∧ c.i k ≤ c.s k := inB1.1 c6
              refine W_skip ?_
              refine InB_normal ?_
              refine Then_normal ?_
              refine W_region_lit (fun ds => ?_)
              refine WS_det hF (by rfl) (y_move (c := .int .i64 _) (by rfl)) ?_
              refine WS_det hF (by rfl) (y_add (by rfl) (by rfl) (by unfold I64; omega)) ?_
              refine WS_det hF (by rfl) (y_assign (c := .int .i64 _) (by rfl)) ?_
              refine WS_nil ?_
              exact Loop_next (k + 1) ⟨by omega, fun j h => by by_cases hjk : j = k; (subst hjk; exact ⟨hs, hi⟩); exact hj j (by omega)⟩ (by repeat (first | exact trivial | refine ⟨by rfl, ?_⟩)) (by repeat (first | exact List.Sublist.refl _ | exact List.nil_sublist _ | apply List.Sublist.cons_cons | apply List.Sublist.cons)) (by omega)
        ·
          try simp only [Bool.not_eq_true', Bool.not_eq_false', decide_eq_true_eq, decide_eq_false_iff_not, ne_eq, Classical.not_not, Int.not_lt, Int.not_le] at c4
          refine W_exit ?_
          refine Then_exit ?_
          refine Loop_exit ?_
          refine InB_same ?_
          refine Then_normal ?_
          refine W_seq ?_
          refine W_region_lit (fun ds => ?_)
          refine WS_det hF (by rfl) (y_assign (c := .bool _) (by rfl)) ?_
          refine WS_nil ?_
          refine Then_normal ?_
          refine W_ret ?_
          refine Fin_ret [.bool _] [] Tryd.results52 ⟨by rfl, trivial⟩ HSub.nil ?_
          refine Cn.okB_yes ⟨?_, ?_, hlen, (inB1.1 c1).1, (inB1.1 c1).2, fun j h => (hj j (by omega)).1, fun j h => (hj j (by omega)).2⟩
          · have := inB1.1 g1_5; omega
          · have := inB1.1 g1_5; omega
theorem rpouring_any (c : Cn) (a1 : Option Addr) (p1 : Nat) (a2 : Option Addr) (p2 : Nat) (p : Po) (w : World) : Ct Tryd.prog 53 #[.agg #[.slice a1 c.n p1, .slice a2 c.inn.length p2, .int .i64 c.st], .agg p.cells.toArray] w fun v _ => v = .bool (c.vldB p) := by
  have hF := wide_wide
  refine Ct_start (args := [_, _]) Tryd.func53 (by rfl) Tryd.ntmps53 (by rfl) ?_
  refine W_seq ?_
  refine W_region_lit (fun ds => ?_)
  refine WS_new hF (by rfl) (y_box (by rfl)) (fun b1 => ?_)
  refine WS_new hF (by rfl) (y_box (by rfl)) (fun b2 => ?_)
  refine WS_det hF (by rfl) (y_assign (c := .bool _) (by rfl)) ?_
  refine WS_nil ?_
  refine Then_normal ?_
  refine W_seq ?_
  refine W_region_lit (fun ds => ?_)
  refine WS_det hF (by rfl) (y_fieldAddr (by rfl) fa26_0) ?_
  refine WS_det hF (by rfl) (y_load1 (by rfl) Tryd.isAgg3 (Mem.own1 0 (by rfl) (by rfl))) ?_
  refine WS_det hF (by rfl) (y_fieldAddr (by rfl) fa24_0) ?_
  refine WS_det hF (by rfl) (y_load1 (by rfl) Tryd.isAgg22 (Mem.own1 1 (by rfl) (by rfl))) ?_
  refine WS_det hF (by rfl) (y_len (by rfl) Tryd.runUnderlying22) ?_
  refine WS_det hF (by rfl) (y_callL (by rfl) (by rfl) Tryd.call65 (fun w hw => rwi_any _ _ _ w)) ?_
  refine WS_det hF (by rfl) (y_move (c := .bool _) (by rfl)) ?_
  refine WS_split 11 (by rfl) (fun g1_6 => ?_) (fun g1_6 => ?_)
  ·
    try simp only [Bool.not_eq_true', Bool.not_eq_false', decide_eq_true_eq, decide_eq_false_iff_not, ne_eq, Classical.not_not, Int.not_lt, Int.not_le] at g1_6
    refine WS_det hF (by rfl) (y_fieldAddr (by rfl) fa26_1) ?_
    refine WS_det hF (by rfl) (y_load1 (by rfl) Tryd.isAgg3 (Mem.own1 0 (by rfl) (by rfl))) ?_
    refine WS_det hF (by rfl) (y_fieldAddr (by rfl) fa24_0) ?_
    refine WS_det hF (by rfl) (y_load1 (by rfl) Tryd.isAgg22 (Mem.own1 1 (by rfl) (by rfl))) ?_
    refine WS_det hF (by rfl) (y_len (by rfl) Tryd.runUnderlying22) ?_
    refine WS_det hF (by rfl) (y_callL (by rfl) (by rfl) Tryd.call65 (fun w hw => rwi_any _ _ _ w)) ?_
    refine WS_det hF (by rfl) (by first | exact y_pick_t (c := .bool _) (by rfl) (by rfl) | exact y_pick_f (c := .bool _) (by rfl) (by rfl)) ?_
    refine WS_det hF (by rfl) (y_move (c := .bool _) (by rfl)) ?_
    refine WS_split 19 (by rfl) (fun g1_14 => ?_) (fun g1_14 => ?_)
    ·
      try simp only [Bool.not_eq_true', Bool.not_eq_false', decide_eq_true_eq, decide_eq_false_iff_not, ne_eq, Classical.not_not, Int.not_lt, Int.not_le] at g1_14
      refine WS_det hF (by rfl) (y_fieldAddr (by rfl) fa26_0) ?_
      refine WS_det hF (by rfl) (y_load1 (by rfl) Tryd.isAgg3 (Mem.own1 0 (by rfl) (by rfl))) ?_
      refine WS_det hF (by rfl) (y_fieldAddr (by rfl) fa26_1) ?_
      refine WS_det hF (by rfl) (y_load1 (by rfl) Tryd.isAgg3 (Mem.own1 0 (by rfl) (by rfl))) ?_
      refine WS_det hF (by rfl) (y_neq (by rfl) (by rfl)) ?_
      refine WS_det hF (by rfl) (by first | exact y_pick_t (c := .bool _) (by rfl) (by rfl) | exact y_pick_f (c := .bool _) (by rfl) (by rfl)) ?_
      refine WS_det hF (by rfl) (y_assign (c := .bool _) (by rfl)) ?_
      refine WS_nil ?_
      refine Then_normal ?_
      refine W_ret ?_
      refine Fin_ret [.bool _] [] Tryd.results53 ⟨by rfl, trivial⟩ HSub.nil ?_
      show Value.bool _ = .bool (c.vldB p)
      congr 1
      rw [Bool.eq_iff_iff, Cn.vld_iff]
      simp only [inB1, inB1f] at *
      try simp only [decide_eq_true_eq, Bool.false_eq_true, false_iff]
      omega
    ·
      try simp only [Bool.not_eq_true', Bool.not_eq_false', decide_eq_true_eq, decide_eq_false_iff_not, ne_eq, Classical.not_not, Int.not_lt, Int.not_le] at g1_14
      refine WS_no hF (by rfl) ?_
      refine WS_no hF (by rfl) ?_
      refine WS_no hF (by rfl) ?_
      refine WS_no hF (by rfl) ?_
      refine WS_no hF (by rfl) ?_
      refine WS_det hF (by rfl) (by first | exact y_pick_t (c := .bool _) (by rfl) (by rfl) | exact y_pick_f (c := .bool _) (by rfl) (by rfl)) ?_
      refine WS_det hF (by rfl) (y_assign (c := .bool _) (by rfl)) ?_
      refine WS_nil ?_
      refine Then_normal ?_
      refine W_ret ?_
      refine Fin_ret [.bool _] [] Tryd.results53 ⟨by rfl, trivial⟩ HSub.nil ?_
      show Value.bool _ = .bool (c.vldB p)
      congr 1
      rw [Bool.eq_iff_iff, Cn.vld_iff]
      simp only [inB1, inB1f] at *
      try simp only [decide_eq_true_eq, Bool.false_eq_true, false_iff]
      omega
  ·
    try simp only [Bool.not_eq_true', Bool.not_eq_false', decide_eq_true_eq, decide_eq_false_iff_not, ne_eq, Classical.not_not, Int.not_lt, Int.not_le] at g1_6
    refine WS_no hF (by rfl) ?_
    refine WS_no hF (by rfl) ?_
    refine WS_no hF (by rfl) ?_
    refine WS_no hF (by rfl) ?_
    refine WS_no hF (by rfl) ?_
    refine WS_no hF (by rfl) ?_
    refine WS_det hF (by rfl) (by first | exact y_pick_t (c := .bool _) (by rfl) (by rfl) | exact y_pick_f (c := .bool _) (by rfl) (by rfl)) ?_
    refine WS_det hF (by rfl) (y_move (c := .bool _) (by rfl)) ?_
    refine WS_no hF (by rfl) ?_
    refine WS_no hF (by rfl) ?_
    refine WS_no hF (by rfl) ?_
    refine WS_no hF (by rfl) ?_
    refine WS_no hF (by rfl) ?_
    refine WS_det hF (by rfl) (by first | exact y_pick_t (c := .bool _) (by rfl) (by rfl) | exact y_pick_f (c := .bool _) (by rfl) (by rfl)) ?_
    refine WS_det hF (by rfl) (y_assign (c := .bool _) (by rfl)) ?_
    refine WS_nil ?_
    refine Then_normal ?_
    refine W_ret ?_
    refine Fin_ret [.bool _] [] Tryd.results53 ⟨by rfl, trivial⟩ HSub.nil ?_
    show Value.bool _ = .bool (c.vldB p)
    congr 1
    rw [Bool.eq_iff_iff, Cn.vld_iff]
    simp only [inB1, inB1f] at *
    try simp only [decide_eq_true_eq, Bool.false_eq_true, false_iff]
    omega
/-- Cans in new memory. -/
def TwinC (c : Cn) (v : Value) (Hn : List Blk) : Prop :=
  ∃ b1 q1 b2 q2 H1 H2, v = .agg #[.slice b1 c.n q1, .slice b2 c.inn.length q2, .int .i64 c.st] ∧ NewRow 3 1 c.n (iv c.sz) (.slice b1 c.n q1) H1 ∧ NewRow 3 1 c.inn.length (iv c.inn) (.slice b2 c.inn.length q2) H2 ∧ Hn = H1 ++ H2
theorem iv_len (xs : List Int) : (iv xs).length = xs.length * 1 := by rw [Nat.mul_one]; exact List.length_map _
theorem rctwin_any (c : Cn) (a1 : Option Addr) (p1 : Nat) (a2 : Option Addr) (p2 : Nat) (w : World) (hn : c.n ≤ 1000000) (hm : c.inn.length ≤ 1000000) (h1 : Ints w a1 c.n p1 c.sz) (h2 : Ints w a2 c.inn.length p2 c.inn) : Ct Tryd.prog 10 #[.agg #[.slice a1 c.n p1, .slice a2 c.inn.length p2, .int .i64 c.st]] w (TwinC c) := by
  have hn' : c.sz.length ≤ 1000000 := hn
  have hF := wide_wide
  refine Ct_start (args := [_]) Tryd.func10 (by rfl) Tryd.ntmps10 (by rfl) ?_
  refine W_seq ?_
  refine W_region_lit (fun ds => ?_)
  refine WS_new hF (by rfl) (y_box (by rfl)) (fun b1 => ?_)
  refine WS_new hF (by rfl) (y_alloc Tryd.zeroValue24 (by rfl)) (fun b2 => ?_)
  refine WS_nil ?_
  refine Then_normal ?_
  refine W_seq ?_
  apply W_draw1D hF Trydmixed [1000000] 13 _ (i := 0) (by rfl) (by decide +kernel)
  intro ds
  refine P_new (by rfl) (by rfl) (Over_out (by rfl) (Over_nil (y_buildSliceL bs22_0 (by rfl)))) ?_
  refine P_det (by rfl) (Over_out (by rfl) (Over_out (by rfl) (Over_nil (y_fieldAddr (by rfl) fa24_0)))) ?_
  refine P_det (by rfl) (Over_out (by rfl) (Over_out (by rfl) (Over_nil (y_load1 (by rfl) Tryd.isAgg22 (Mem.own1 0 (by rfl) (by rfl)))))) ?_
  refine P_new (by rfl) (by rfl) (Over_in (by rfl) (Over_out (by rfl) (Over_nil (by rintro _ _ ⟨b4, rfl, rfl⟩; exact (y_append0 (by rfl) (by rfl) Tryd.underlying22 infInt (by rfl) h1.src (iv_len c.sz) (by omega) (by omega)))))) ?_
  refine P_new (by rfl) (by rfl) (Over_out (by rfl) (Over_out (by rfl) (Over_out (by rfl) (Over_nil (y_buildSliceL bs22_0 (by rfl)))))) ?_
  refine P_det (by rfl) (Over_out (by rfl) (Over_out (by rfl) (Over_out (by rfl) (Over_out (by rfl) (Over_nil (y_fieldAddr (by rfl) fa24_1)))))) ?_
  refine P_det (by rfl) (Over_out (by rfl) (Over_out (by rfl) (Over_out (by rfl) (Over_out (by rfl) (Over_nil (y_load1 (by rfl) Tryd.isAgg22 (Mem.own1 0 (by rfl) (by rfl)))))))) ?_
  refine P_new (by rfl) (by rfl) (Over_in (by rfl) (Over_out (by rfl) (Over_out (by rfl) (Over_out (by rfl) (Over_nil (by rintro _ _ ⟨b7, rfl, rfl⟩; exact (y_append0 (by rfl) (by rfl) Tryd.underlying22 infInt (by rfl) h2.src (iv_len c.inn) (by omega) (by omega)))))))) ?_
  refine P_det (by rfl) (Over_out (by rfl) (Over_out (by rfl) (Over_out (by rfl) (Over_out (by rfl) (Over_out (by rfl) (Over_nil (y_fieldAddr (by rfl) fa24_2))))))) ?_
  refine P_det (by rfl) (Over_out (by rfl) (Over_out (by rfl) (Over_out (by rfl) (Over_out (by rfl) (Over_out (by rfl) (Over_nil (y_load1 (by rfl) Tryd.isAgg3 (Mem.own1 0 (by rfl) (by rfl))))))))) ?_
  refine P_ali [10, 6] (aggP [.inr 6, .inr 10, .inl _]) (by rfl) (by rfl) (by rfl) (aggP_congr (by rfl)) (Over_in (by rfl) (Over_out (by rfl) (Over_in (by rfl) (Over_out (by rfl) (Over_out (by rfl) (Over_nil (by rintro _ l6 ⟨ab9, cb9, rfl, hleb9, hrowb9⟩; rintro _ l10 ⟨ab10, cb10, rfl, hleb10, hrowb10⟩; exact (YD0_of (y_buildL bd24_0_1_2 (by rfl)))))))))) ?_
  refine P_st 1000000 5 (by rfl) (by rfl) (by rfl) (by rfl) (by rfl) (Over_in (by rfl) (Over_in (by rfl) (Over_out (by rfl) (Over_in (by rfl) (Over_out (by rfl) (Over_nil (by rintro _ l6 ⟨ab12, cb12, rfl, hleb12, hrowb12⟩; rintro _ l10 ⟨ab13, cb13, rfl, hleb13, hrowb13⟩; rintro vb14 _ ⟨hvb14, rfl⟩; replace hvb14 : vb14 = .agg #[.slice _ _ _, .slice _ _ _, .int .i64 _] := hvb14; subst hvb14; exact (st_preD (fun _ => by rfl) (by rfl) (by rfl) Tryd.sizeOf24 (by rfl) (by rfl) (by first | decide | exact Nat.le_of_ble_eq_true rfl | simp))))))))) ?_
  refine PW_end (by rfl) ?_
  refine OverAll_cons (fun w13 l13 => ?_)
  refine OverAll_cons (fun w10 l10 => ?_)
  refine OverAll_cons (fun w7 l7 => ?_)
  refine OverAll_cons (fun w6 l6 => ?_)
  refine OverAll_cons (fun w3 l3 => ?_)
  refine OverAll_cons (fun w1000000 l1000000 => ?_)
  refine OverAll_nil ?_
  rintro ⟨⟨⟨⟨⟨⟨-, h13⟩, h10⟩, h7⟩, h6⟩, h3⟩, h1000000⟩
  obtain ⟨b3, rfl, rfl⟩ := h3
  obtain ⟨ab5, cb5, rfl, hleb5, hrowb5⟩ := h6
  obtain ⟨b6, rfl, rfl⟩ := h7
  obtain ⟨ab8, cb8, rfl, hleb8, hrowb8⟩ := h10
  obtain ⟨h13, rfl⟩ := h13
  replace h13 : w13 = .agg #[.slice _ _ _, .slice _ _ _, .int .i64 _] := h13
  subst h13
  obtain rfl := h1000000
  refine Then_normal ?_
  refine W_ret ?_
  refine Fin_ret [_] (l6 ++ l10) Tryd.results10 ⟨lvN (by rfl) Tryd.isAgg24 Tryd.sizeOf24 (Mem.own (us := [.slice _ _ _, .slice _ _ _, .int .i64 _]) 0 (by rfl) (by rfl)) (by rfl), trivial⟩ (HSub.sub sbA) ?_
  exact ⟨_, _, _, _, l6, l10, rfl, ⟨_, _, rfl, by assumption, by assumption⟩, ⟨_, _, rfl, by assumption, by assumption⟩, rfl⟩
theorem rcsame_any (c : Cn) (a1 : Option Addr) (p1 : Nat) (a2 : Option Addr) (p2 : Nat) (c' : Cn) (a1' : Option Addr) (p1' : Nat) (a2' : Option Addr) (p2' : Nat) (w : World) (hn : c.n ≤ 1000000) (hm : c.inn.length ≤ 1000000) (h1 : Ints w a1 c.n p1 c.sz) (h2 : Ints w a2 c.inn.length p2 c.inn) (h1' : Ints w a1' c'.n p1' c'.sz) (h2' : Ints w a2' c'.inn.length p2' c'.inn) :
    Ct Tryd.prog 15 #[.agg #[.slice a1 c.n p1, .slice a2 c.inn.length p2, .int .i64 c.st], .agg #[.slice a1' c'.n p1', .slice a2' c'.inn.length p2', .int .i64 c'.st]] w fun v _ => v = .bool (decide (c.sz = c'.sz) && decide (c.inn = c'.inn) && decide (c.st = c'.st)) := by
  have hF := wide_wide
  refine Ct_start (args := [_, _]) Tryd.func15 (by rfl) Tryd.ntmps15 (by rfl) ?_
  refine W_seq ?_
  refine W_region_lit (fun ds => ?_)
  refine WS_new hF (by rfl) (y_box (by rfl)) (fun b1 => ?_)
  refine WS_new hF (by rfl) (y_box (by rfl)) (fun b2 => ?_)
  refine WS_det hF (by rfl) (y_assign (c := .bool _) (by rfl)) ?_
  refine WS_nil ?_
  refine Then_normal ?_
  refine W_seq ?_
  refine W_region_lit (fun ds => ?_)
  refine WS_det hF (by rfl) (y_fieldAddr (by rfl) fa24_0) ?_
  refine WS_det hF (by rfl) (y_load1 (by rfl) Tryd.isAgg22 (Mem.own1 1 (by rfl) (by rfl))) ?_
  refine WS_det hF (by rfl) (y_fieldAddr (by rfl) fa24_0) ?_
  refine WS_det hF (by rfl) (y_load1 (by rfl) Tryd.isAgg22 (Mem.own1 0 (by rfl) (by rfl))) ?_
  refine WS_det hF (by rfl) (y_callL (by rfl) (by rfl) Tryd.call29 (fun w hw => sameInts2_any _ _ _ _ _ _ c.sz c'.sz w hn (h1.st w hw) (h1'.st w hw))) ?_
  refine WS_det hF (by rfl) (y_move (c := .bool _) (by rfl)) ?_
  refine WS_split 10 (by rfl) (fun g1_5 => ?_) (fun g1_5 => ?_)
  ·
    try simp only [Bool.not_eq_true', Bool.not_eq_false', decide_eq_true_eq, decide_eq_false_iff_not, ne_eq, Classical.not_not, Int.not_lt, Int.not_le] at g1_5
    refine WS_det hF (by rfl) (y_fieldAddr (by rfl) fa24_1) ?_
    refine WS_det hF (by rfl) (y_load1 (by rfl) Tryd.isAgg22 (Mem.own1 1 (by rfl) (by rfl))) ?_
    refine WS_det hF (by rfl) (y_fieldAddr (by rfl) fa24_1) ?_
    refine WS_det hF (by rfl) (y_load1 (by rfl) Tryd.isAgg22 (Mem.own1 0 (by rfl) (by rfl))) ?_
    refine WS_det hF (by rfl) (y_callL (by rfl) (by rfl) Tryd.call29 (fun w hw => sameInts2_any _ _ _ _ _ _ c.inn c'.inn w hm (h2.st w hw) (h2'.st w hw))) ?_
    refine WS_det hF (by rfl) (by first | exact y_pick_t (c := .bool _) (by rfl) (by rfl) | exact y_pick_f (c := .bool _) (by rfl) (by rfl)) ?_
    refine WS_det hF (by rfl) (y_move (c := .bool _) (by rfl)) ?_
    refine WS_split 17 (by rfl) (fun g1_12 => ?_) (fun g1_12 => ?_)
    ·
      try simp only [Bool.not_eq_true', Bool.not_eq_false', decide_eq_true_eq, decide_eq_false_iff_not, ne_eq, Classical.not_not, Int.not_lt, Int.not_le] at g1_12
      refine WS_det hF (by rfl) (y_fieldAddr (by rfl) fa24_2) ?_
      refine WS_det hF (by rfl) (y_load1 (by rfl) Tryd.isAgg3 (Mem.own1 1 (by rfl) (by rfl))) ?_
      refine WS_det hF (by rfl) (y_fieldAddr (by rfl) fa24_2) ?_
      refine WS_det hF (by rfl) (y_load1 (by rfl) Tryd.isAgg3 (Mem.own1 0 (by rfl) (by rfl))) ?_
      refine WS_det hF (by rfl) (y_eql (by rfl) (by rfl)) ?_
      refine WS_det hF (by rfl) (by first | exact y_pick_t (c := .bool _) (by rfl) (by rfl) | exact y_pick_f (c := .bool _) (by rfl) (by rfl)) ?_
      refine WS_det hF (by rfl) (y_assign (c := .bool _) (by rfl)) ?_
      refine WS_nil ?_
      refine Then_normal ?_
      refine W_ret ?_
      refine Fin_ret [.bool _] [] Tryd.results15 ⟨by rfl, trivial⟩ HSub.nil ?_
      show Value.bool _ = _
      simp [*]
    ·
      try simp only [Bool.not_eq_true', Bool.not_eq_false', decide_eq_true_eq, decide_eq_false_iff_not, ne_eq, Classical.not_not, Int.not_lt, Int.not_le] at g1_12
      refine WS_no hF (by rfl) ?_
      refine WS_no hF (by rfl) ?_
      refine WS_no hF (by rfl) ?_
      refine WS_no hF (by rfl) ?_
      refine WS_no hF (by rfl) ?_
      refine WS_det hF (by rfl) (by first | exact y_pick_t (c := .bool _) (by rfl) (by rfl) | exact y_pick_f (c := .bool _) (by rfl) (by rfl)) ?_
      refine WS_det hF (by rfl) (y_assign (c := .bool _) (by rfl)) ?_
      refine WS_nil ?_
      refine Then_normal ?_
      refine W_ret ?_
      refine Fin_ret [.bool _] [] Tryd.results15 ⟨by rfl, trivial⟩ HSub.nil ?_
      show Value.bool _ = _
      simp [*]
  ·
    try simp only [Bool.not_eq_true', Bool.not_eq_false', decide_eq_true_eq, decide_eq_false_iff_not, ne_eq, Classical.not_not, Int.not_lt, Int.not_le] at g1_5
    refine WS_no hF (by rfl) ?_
    refine WS_no hF (by rfl) ?_
    refine WS_no hF (by rfl) ?_
    refine WS_no hF (by rfl) ?_
    refine WS_no hF (by rfl) ?_
    refine WS_det hF (by rfl) (by first | exact y_pick_t (c := .bool _) (by rfl) (by rfl) | exact y_pick_f (c := .bool _) (by rfl) (by rfl)) ?_
    refine WS_det hF (by rfl) (y_move (c := .bool _) (by rfl)) ?_
    refine WS_no hF (by rfl) ?_
    refine WS_no hF (by rfl) ?_
    refine WS_no hF (by rfl) ?_
    refine WS_no hF (by rfl) ?_
    refine WS_no hF (by rfl) ?_
    refine WS_det hF (by rfl) (by first | exact y_pick_t (c := .bool _) (by rfl) (by rfl) | exact y_pick_f (c := .bool _) (by rfl) (by rfl)) ?_
    refine WS_det hF (by rfl) (y_assign (c := .bool _) (by rfl)) ?_
    refine WS_nil ?_
    refine Then_normal ?_
    refine W_ret ?_
    refine Fin_ret [.bool _] [] Tryd.results15 ⟨by rfl, trivial⟩ HSub.nil ?_
    show Value.bool _ = _
    simp [*]
end Go.Proofs.YtjekjehgmljbgaaDoor.T

/- The reference's pourings, walked. -/
namespace Go.Proofs.YtjekjehgmljbgaaDoor.T
open Go.RowKit Go.Proofs Go.Eng
set_option maxRecDepth 100000
set_option maxHeartbeats 1000000
set_option linter.unusedVariables false
set_option linter.unusedSimpArgs false



def Cn.has (c : Cn) : Nat → Int
  | 0 => c.st
  | k + 1 => c.i k
theorem Cn.has_co (c : Cn) (k : Nat) (h : k ≤ 3) : c.has k = c.co.g k := by
  cases k with
  | zero => rfl
  | succ k => exact (c.co_g k (by omega)).symm
def Cn.put (c : Cn) (k : Nat) (v : Int) : Cn :=
  match k with
  | 0 => ⟨c.sz, c.inn, v⟩
  | k + 1 => ⟨c.sz, c.inn.set k v, c.st⟩
theorem Cn.of_put (c : Cn) (x : Co) (k : Nat) (v : Int) (hn : c.n ≤ 3) (hk : k ≤ c.n) : (c.of x).put k v = c.of (x.w k v) := by
  obtain rfl | rfl | rfl | rfl : k = 0 ∨ k = 1 ∨ k = 2 ∨ k = 3 := by omega
  · rfl
  all_goals
    unfold Cn.of Cn.put
    simp only [Cn.mk.injEq, true_and]
    obtain h1 | h1 | h1 : c.n = 1 ∨ c.n = 2 ∨ c.n = 3 := by omega
    all_goals first | omega | (rw [h1]; exact ⟨rfl, rfl⟩)
def Cn.pou (c : Cn) (f t : Nat) (m : Int) : Cn := (c.put f (c.has f - m)).put t (c.has t + m)
theorem Cn.Ok.pou {c : Cn} (h : c.Ok) {f t : Nat} (hf : f ≤ c.n) (ht : t ≤ c.n) (m : Int) : c.pou f t m = c.of ((c.co.w f (c.co.g f - m)).w t (c.co.g t + m)) := by
  have h3 := h.n3
  unfold Cn.pou
  rw [c.has_co f (by omega), c.has_co t (by omega)]
  conv => lhs; arg 1; arg 1; rw [← h.co_of]
  rw [Cn.of_put _ _ _ _ h3 hf, Cn.of_put _ _ _ _ h3 ht]
theorem splice_iv (xs : List Int) (junk : List Value) (v : Int) (k : Nat) (h : k < xs.length) : splice (iv xs ++ junk) (0 + k * 1) [.int .i64 v] = iv (xs.set k v) ++ junk := by
  unfold splice iv
  rw [Nat.zero_add, Nat.mul_one, List.map_set, List.length_singleton, List.take_append_of_le_length (by simp; omega), List.drop_append_of_le_length (by simp; omega), List.set_eq_take_append_cons_drop, if_pos (by simpa using h)]
  simp
theorem getD_set_ne {xs : List Int} {i j : Nat} {v : Int} (h : i ≠ j) : (xs.set j v).getD i 0 = xs.getD i 0 := by
  simp [List.getD_eq_getElem?_getD, List.getElem?_set, Ne.symm h]
theorem drop_iv {xs : List Int} {junk : List Value} {k : Nat} {v : Int} (h : k < xs.length) (hv : xs.getD k 0 = v) : List.drop (0 + k * 1) (iv xs ++ junk) = [.int .i64 v] ++ List.drop (k + 1) (iv xs ++ junk) := by
  subst hv
  have hlt : k < (iv xs ++ junk).length := by simp [iv]; omega
  rw [show 0 + k * 1 = k by omega, List.drop_eq_getElem_cons hlt]
  simp [iv, h, List.getD_eq_getElem?_getD]
theorem fit_iv {xs : List Int} {junk : List Value} {k : Nat} {v : Value} (h : k < xs.length) : 0 + k * 1 + [v].length ≤ (iv xs ++ junk).length := by simp [iv]; omega
def Cn.amtR (c : Cn) (f t : Nat) : Int := if f = 0 then (if c.lack c.co t ≤ c.st then c.lack c.co t else 0) else if t = 0 then c.co.g f else c.amt c.co f t
theorem rpints_any (c : Cn) (a1 : Option Addr) (p1 : Nat) (a2 : Option Addr) (p2 : Nat) (f t : Nat) (w : World) (hok : c.Ok) (hn : c.n ≤ 1000000) (hm : c.inn.length ≤ 1000000) (h1 : Ints w a1 c.n p1 c.sz) (h2 : Ints w a2 c.inn.length p2 c.inn) (hf : f ≤ c.n) (ht : t ≤ c.n) (hft : f ≠ t) :
    Ct Tryd.prog 54 #[.agg #[.slice a1 c.n p1, .slice a2 c.inn.length p2, .int .i64 c.st], .agg #[.int .i64 (f : Int), .int .i64 (t : Int)]] w fun v _ => v = .int .i64 (c.amtR f t) := by
  have hn3 := hok.n3
  have hlen := hok.len
  have hs0 := hok.st0
  have hs1 := hok.st1
  have hsz : c.sz.length = c.n := rfl
  have hF := wide_wide
  refine Ct_start (args := [_, _]) Tryd.func54 (by rfl) Tryd.ntmps54 (by rfl) ?_
  refine W_seq ?_
  refine W_region_lit (fun ds => ?_)
  refine WS_new hF (by rfl) (y_box (by rfl)) (fun b1 => ?_)
  refine WS_new hF (by rfl) (y_box (by rfl)) (fun b2 => ?_)
  refine WS_det hF (by rfl) (y_assign (c := .int .i64 _) (by rfl)) ?_
  refine WS_nil ?_
  refine Then_normal ?_
  refine W_seq ?_
  refine W_seq ?_
  refine W_region_lit (fun ds => ?_)
  refine WS_det hF (by rfl) (y_fieldAddr (by rfl) fa26_0) ?_
  refine WS_det hF (by rfl) (y_load1 (by rfl) Tryd.isAgg3 (Mem.own1 0 (by rfl) (by rfl))) ?_
  refine WS_det hF (by rfl) (y_eql (by rfl) (by rfl)) ?_
  refine WS_nil ?_
  refine Then_normal ?_
  refine W_cond (by rfl) (fun c1 => ?_) (fun c1 => ?_)
  ·
    try simp only [Bool.not_eq_true', Bool.not_eq_false', decide_eq_true_eq, decide_eq_false_iff_not, ne_eq, Classical.not_not, Int.not_lt, Int.not_le] at c1
    obtain rfl : f = 0 := by omega
    obtain ⟨j, rfl⟩ : ∃ j, t = j + 1 := ⟨t - 1, by omega⟩
    obtain ⟨b, o, rfl, hc⟩ := h1.cell j (by omega)
    obtain ⟨b', o', rfl, hc'⟩ := h2.cell j (by omega)
    change At w b _ [.int .i64 (c.s j)] at hc
    change At w b' _ [.int .i64 (c.i j)] at hc'
    have hs := hok.s j (by omega)
    have hi := hok.i j (by omega)
    have hla : c.lack c.co (j + 1) = c.s j - c.i j := by unfold Cn.lack; rw [c.co_g j (by omega)]; rfl
    refine W_seq ?_
    refine W_seq ?_
    refine W_draw0 hF Trydmixed [] (by decide +kernel) (fun ds => ?_)
    refine P_det (by rfl) (Over_nil (y_fieldAddr (by rfl) fa24_0)) ?_
    refine P_det (by rfl) (Over_nil (y_load1 (by rfl) Tryd.isAgg22 (Mem.own1 1 (by rfl) (by rfl)))) ?_
    refine P_det (by rfl) (Over_nil (y_fieldAddr (by rfl) fa26_1)) ?_
    refine P_det (by rfl) (Over_nil (y_load1 (by rfl) Tryd.isAgg3 (Mem.own1 0 (by rfl) (by rfl)))) ?_
    refine P_det (by rfl) (Over_nil (y_sub (by rfl) (by rfl) (by unfold I64; omega))) ?_
    refine P_det (by rfl) (Over_nil (y_index (k := j) (by rfl) (by rfl) (by first | rfl | omega) (by first | decide | omega) Tryd.runUnderlying22 Tryd.sizeOf3)) ?_
    refine P_det (by rfl) (Over_nil (y_load1 (by rfl) Tryd.isAgg3 (by first | exact Mem.old1 (by assumption) | exact Mem.oldAt1 (by assumption) (by rfl) | exact Mem.old (by assumption) | exact Mem.oldAtL1 (by assumption) (by rfl) (by rfl)))) ?_
    refine P_det (by rfl) (Over_nil (y_fieldAddr (by rfl) fa24_1)) ?_
    refine P_det (by rfl) (Over_nil (y_load1 (by rfl) Tryd.isAgg22 (Mem.own1 1 (by rfl) (by rfl)))) ?_
    refine P_det (by rfl) (Over_nil (y_fieldAddr (by rfl) fa26_1)) ?_
    refine P_det (by rfl) (Over_nil (y_load1 (by rfl) Tryd.isAgg3 (Mem.own1 0 (by rfl) (by rfl)))) ?_
    refine P_det (by rfl) (Over_nil (y_sub (by rfl) (by rfl) (by unfold I64; omega))) ?_
    refine P_det (by rfl) (Over_nil (y_index (k := j) (by rfl) (by rfl) (by first | rfl | omega) (by first | decide | omega) Tryd.runUnderlying22 Tryd.sizeOf3)) ?_
    refine P_det (by rfl) (Over_nil (y_load1 (by rfl) Tryd.isAgg3 (by first | exact Mem.old1 (by assumption) | exact Mem.oldAt1 (by assumption) (by rfl) | exact Mem.old (by assumption) | exact Mem.oldAtL1 (by assumption) (by rfl) (by rfl)))) ?_
    refine P_det (by rfl) (Over_nil (y_sub (by rfl) (by rfl) (by unfold I64; omega))) ?_
    refine P_det (by rfl) (Over_nil (y_assign (c := .int .i64 _) (by rfl))) ?_
    refine PW_end (by rfl) ?_
    refine OverAll_nil ?_
    rintro -
    refine Then_normal ?_
    refine W_seq ?_
    refine W_region_lit (fun ds => ?_)
    refine WS_det hF (by rfl) (y_move (c := .int .i64 _) (by rfl)) ?_
    refine WS_det hF (by rfl) (y_fieldAddr (by rfl) fa24_2) ?_
    refine WS_det hF (by rfl) (y_load1 (by rfl) Tryd.isAgg3 (Mem.own1 1 (by rfl) (by rfl))) ?_
    refine WS_det hF (by rfl) (y_leq (by rfl) (by rfl)) ?_
    refine WS_nil ?_
    refine Then_normal ?_
    refine W_cond (by rfl) (fun c3 => ?_) (fun c3 => ?_)
    ·
      try simp only [Bool.not_eq_true', Bool.not_eq_false', decide_eq_true_eq, decide_eq_false_iff_not, ne_eq, Classical.not_not, Int.not_lt, Int.not_le] at c3
      refine W_seq ?_
      refine W_region_lit (fun ds => ?_)
      refine WS_det hF (by rfl) (y_move (c := .int .i64 _) (by rfl)) ?_
      refine WS_det hF (by rfl) (y_assign (c := .int .i64 _) (by rfl)) ?_
      refine WS_nil ?_
      refine Then_normal ?_
      refine W_ret ?_
      refine Then_ret ?_
      refine Then_ret ?_
      refine Fin_ret [.int .i64 _] [] Tryd.results54 ⟨by rfl, trivial⟩ HSub.nil ?_
      show Value.int _ _ = _
      unfold Cn.amtR
      rw [if_pos rfl, hla, if_pos (by omega)]
    ·
      try simp only [Bool.not_eq_true', Bool.not_eq_false', decide_eq_true_eq, decide_eq_false_iff_not, ne_eq, Classical.not_not, Int.not_lt, Int.not_le] at c3
      refine W_skip ?_
      refine Then_normal ?_
      refine W_seq ?_
      refine W_region_lit (fun ds => ?_)
      refine WS_det hF (by rfl) (y_assign (c := .int .i64 _) (by rfl)) ?_
      refine WS_nil ?_
      refine Then_normal ?_
      refine W_ret ?_
      refine Then_ret ?_
      refine Fin_ret [.int .i64 _] [] Tryd.results54 ⟨by rfl, trivial⟩ HSub.nil ?_
      show Value.int _ _ = _
      unfold Cn.amtR
      rw [if_pos rfl, hla, if_neg (by omega)]
  ·
    try simp only [Bool.not_eq_true', Bool.not_eq_false', decide_eq_true_eq, decide_eq_false_iff_not, ne_eq, Classical.not_not, Int.not_lt, Int.not_le] at c1
    obtain ⟨j, rfl⟩ : ∃ j, f = j + 1 := ⟨f - 1, by omega⟩
    obtain ⟨b', o', rfl, hc'⟩ := h2.cell j (by omega)
    change At w b' _ [.int .i64 (c.i j)] at hc'
    have hi := hok.i j (by omega)
    have hs := hok.s j (by omega)
    have hgf : c.co.g (j + 1) = c.i j := c.co_g j (by omega)
    refine W_skip ?_
    refine Then_normal ?_
    refine W_seq ?_
    refine W_seq ?_
    refine W_region_lit (fun ds => ?_)
    refine WS_det hF (by rfl) (y_fieldAddr (by rfl) fa26_1) ?_
    refine WS_det hF (by rfl) (y_load1 (by rfl) Tryd.isAgg3 (Mem.own1 0 (by rfl) (by rfl))) ?_
    refine WS_det hF (by rfl) (y_eql (by rfl) (by rfl)) ?_
    refine WS_nil ?_
    refine Then_normal ?_
    refine W_cond (by rfl) (fun c6 => ?_) (fun c6 => ?_)
    ·
      try simp only [Bool.not_eq_true', Bool.not_eq_false', decide_eq_true_eq, decide_eq_false_iff_not, ne_eq, Classical.not_not, Int.not_lt, Int.not_le] at c6
      refine W_seq ?_
      refine W_region_lit (fun ds => ?_)
      refine WS_det hF (by rfl) (y_fieldAddr (by rfl) fa24_1) ?_
      refine WS_det hF (by rfl) (y_load1 (by rfl) Tryd.isAgg22 (Mem.own1 1 (by rfl) (by rfl))) ?_
      refine WS_det hF (by rfl) (y_fieldAddr (by rfl) fa26_0) ?_
      refine WS_det hF (by rfl) (y_load1 (by rfl) Tryd.isAgg3 (Mem.own1 0 (by rfl) (by rfl))) ?_
      refine WS_det hF (by rfl) (y_sub (by rfl) (by rfl) (by unfold I64; omega)) ?_
      refine WS_det hF (by rfl) (y_index (k := j) (by rfl) (by rfl) (by first | rfl | omega) (by first | decide | omega) Tryd.runUnderlying22 Tryd.sizeOf3) ?_
      refine WS_det hF (by rfl) (y_load1 (by rfl) Tryd.isAgg3 (by first | exact Mem.old1 (by assumption) | exact Mem.oldAt1 (by assumption) (by rfl) | exact Mem.old (by assumption) | exact Mem.oldAtL1 (by assumption) (by rfl) (by rfl))) ?_
      refine WS_det hF (by rfl) (y_assign (c := .int .i64 _) (by rfl)) ?_
      refine WS_nil ?_
      refine Then_normal ?_
      refine W_ret ?_
      refine Then_ret ?_
      refine Fin_ret [.int .i64 _] [] Tryd.results54 ⟨by rfl, trivial⟩ HSub.nil ?_
      show Value.int _ _ = _
      obtain rfl : t = 0 := by omega
      unfold Cn.amtR
      rw [if_neg (by omega), if_pos rfl, hgf]
    ·
      try simp only [Bool.not_eq_true', Bool.not_eq_false', decide_eq_true_eq, decide_eq_false_iff_not, ne_eq, Classical.not_not, Int.not_lt, Int.not_le] at c6
      obtain ⟨i, rfl⟩ : ∃ i, t = i + 1 := ⟨t - 1, by omega⟩
      obtain ⟨b2, o2, rfl, hd⟩ := h1.cell i (by omega)
      change At w b2 _ [.int .i64 (c.s i)] at hd
      have hd' := h2.at (k := i) (by omega)
      change At w b' _ [.int .i64 (c.i i)] at hd'
      have hs2 := hok.s i (by omega)
      have hi2 := hok.i i (by omega)
      have hla : c.lack c.co (i + 1) = c.s i - c.i i := by unfold Cn.lack; rw [c.co_g i (by omega)]; rfl
      refine W_skip ?_
      refine Then_normal ?_
      refine W_seq ?_
      refine W_draw0 hF Trydmixed [] (by decide +kernel) (fun ds => ?_)
      refine P_det (by rfl) (Over_nil (y_fieldAddr (by rfl) fa24_1)) ?_
      refine P_det (by rfl) (Over_nil (y_load1 (by rfl) Tryd.isAgg22 (Mem.own1 1 (by rfl) (by rfl)))) ?_
      refine P_det (by rfl) (Over_nil (y_fieldAddr (by rfl) fa26_0)) ?_
      refine P_det (by rfl) (Over_nil (y_load1 (by rfl) Tryd.isAgg3 (Mem.own1 0 (by rfl) (by rfl)))) ?_
      refine P_det (by rfl) (Over_nil (y_sub (by rfl) (by rfl) (by unfold I64; omega))) ?_
      refine P_det (by rfl) (Over_nil (y_index (k := j) (by rfl) (by rfl) (by first | rfl | omega) (by first | decide | omega) Tryd.runUnderlying22 Tryd.sizeOf3)) ?_
      refine P_det (by rfl) (Over_nil (y_load1 (by rfl) Tryd.isAgg3 (by first | exact Mem.old1 (by assumption) | exact Mem.oldAt1 (by assumption) (by rfl) | exact Mem.old (by assumption) | exact Mem.oldAtL1 (by assumption) (by rfl) (by rfl)))) ?_
      refine P_det (by rfl) (Over_nil (y_fieldAddr (by rfl) fa24_0)) ?_
      refine P_det (by rfl) (Over_nil (y_load1 (by rfl) Tryd.isAgg22 (Mem.own1 1 (by rfl) (by rfl)))) ?_
      refine P_det (by rfl) (Over_nil (y_fieldAddr (by rfl) fa26_1)) ?_
      refine P_det (by rfl) (Over_nil (y_load1 (by rfl) Tryd.isAgg3 (Mem.own1 0 (by rfl) (by rfl)))) ?_
      refine P_det (by rfl) (Over_nil (y_sub (by rfl) (by rfl) (by unfold I64; omega))) ?_
      refine P_det (by rfl) (Over_nil (y_index (k := i) (by rfl) (by rfl) (by first | rfl | omega) (by first | decide | omega) Tryd.runUnderlying22 Tryd.sizeOf3)) ?_
      refine P_det (by rfl) (Over_nil (y_load1 (by rfl) Tryd.isAgg3 (by first | exact Mem.old1 (by assumption) | exact Mem.oldAt1 (by assumption) (by rfl) | exact Mem.old (by assumption) | exact Mem.oldAtL1 (by assumption) (by rfl) (by rfl)))) ?_
      refine P_det (by rfl) (Over_nil (y_fieldAddr (by rfl) fa24_1)) ?_
      refine P_det (by rfl) (Over_nil (y_load1 (by rfl) Tryd.isAgg22 (Mem.own1 1 (by rfl) (by rfl)))) ?_
      refine P_det (by rfl) (Over_nil (y_fieldAddr (by rfl) fa26_1)) ?_
      refine P_det (by rfl) (Over_nil (y_load1 (by rfl) Tryd.isAgg3 (Mem.own1 0 (by rfl) (by rfl)))) ?_
      refine P_det (by rfl) (Over_nil (y_sub (by rfl) (by rfl) (by unfold I64; omega))) ?_
      refine P_det (by rfl) (Over_nil (y_index (k := i) (by rfl) (by rfl) (by first | rfl | omega) (by first | decide | omega) Tryd.runUnderlying22 Tryd.sizeOf3)) ?_
      refine P_det (by rfl) (Over_nil (y_load1 (by rfl) Tryd.isAgg3 (by first | exact Mem.old1 (by assumption) | exact Mem.oldAt1 (by assumption) (by rfl) | exact Mem.old (by assumption) | exact Mem.oldAtL1 (by assumption) (by rfl) (by rfl)))) ?_
      refine P_det (by rfl) (Over_nil (y_sub (by rfl) (by rfl) (by unfold I64; omega))) ?_
      refine P_det (by rfl) (Over_nil (y_min (by rfl) (by rfl))) ?_
      refine P_det (by rfl) (Over_nil (y_assign (c := .int .i64 _) (by rfl))) ?_
      refine PW_end (by rfl) ?_
      refine OverAll_nil ?_
      rintro -
      refine Then_normal ?_
      refine W_ret ?_
      refine Fin_ret [.int .i64 _] [] Tryd.results54 ⟨by rfl, trivial⟩ HSub.nil ?_
      show Value.int _ _ = _
      unfold Cn.amtR Cn.amt
      rw [if_neg (by omega), if_neg (by omega), hgf, hla]
theorem TwinC.mk2 {c c' : Cn} {z1 : Option Addr} {q1 pb q2 : Nat} {H1 : List Blk} {pj : List Value} (hs : c'.sz = c.sz) (hl : c'.inn.length = c.inn.length) (hr1 : NewRow 3 1 c.n (iv c.sz) (.slice z1 c.n q1) H1) (pl : (iv c.inn ++ pj).length = q2 * 1) (ple : c.inn.length ≤ q2) (h0 : 0 < c.inn.length) :
    TwinC c' (.agg #[.slice z1 c.n q1, .slice (some ⟨pb, 0, none⟩) c.inn.length q2, .int .i64 c'.st]) (H1 ++ [(pb, CB (iv c'.inn ++ pj) 3)]) := by
  have hn : c'.n = c.n := congrArg List.length hs
  refine ⟨z1, q1, some ⟨pb, 0, none⟩, q2, H1, [(pb, CB (iv c'.inn ++ pj) 3)], by rw [hn, hl], by rw [hn, hs]; exact hr1, NewRow.mk (junk := pj) rfl ?_ (by rw [hl]; exact ple) (by rw [hl]; exact h0), rfl⟩
  rw [← pl]
  simp only [List.length_append, iv, List.length_map, hl]
theorem rpoured_any (c : Cn) (a1 : Option Addr) (p1 : Nat) (a2 : Option Addr) (p2 : Nat) (f t : Nat) (m : Int) (w : World) (hok : c.Ok) (hn : c.n ≤ 1000000) (hm : c.inn.length ≤ 1000000) (h1 : Ints w a1 c.n p1 c.sz) (h2 : Ints w a2 c.inn.length p2 c.inn) (hf : f ≤ c.n) (ht : t ≤ c.n) (hft : f ≠ t) (hm0 : -1000 ≤ m) (hm1 : m ≤ 1000) :
    Ct Tryd.prog 55 #[.agg #[.slice a1 c.n p1, .slice a2 c.inn.length p2, .int .i64 c.st], .agg #[.int .i64 (f : Int), .int .i64 (t : Int)], .int .i64 m] w (TwinC (c.pou f t m)) := by
  have hn1 := hok.n1
  have hn3 := hok.n3
  have hlen := hok.len
  have hs0 := hok.st0
  have hs1 := hok.st1
  have hsz : c.sz.length = c.n := rfl
  have hF := wide_wide
  refine Ct_start (args := [_, _, _]) Tryd.func55 (by rfl) Tryd.ntmps55 (by rfl) ?_
  refine W_seq ?_
  refine W_region_lit (fun ds => ?_)
  refine WS_new hF (by rfl) (y_box (by rfl)) (fun b1 => ?_)
  refine WS_new hF (by rfl) (y_box (by rfl)) (fun b2 => ?_)
  refine WS_new hF (by rfl) (y_alloc Tryd.zeroValue24 (by rfl)) (fun b3 => ?_)
  refine WS_nil ?_
  refine Then_normal ?_
  refine W_seq ?_
  refine W_region_lit (fun ds => ?_)
  refine WS_det hF (by rfl) (y_loadN (by rfl) Tryd.isAgg24 Tryd.sizeOf24 (Mem.own (us := [.slice _ _ _, .slice _ _ _, .int .i64 _]) 2 (by rfl) (by rfl)) (by rfl)) ?_
  refine WS_gen hF (by rfl) (y_callL (by rfl) (by rfl) Tryd.call10 (fun w hw => rctwin_any c a1 p1 a2 p2 w hn hm (h1.st w hw) (h2.st w hw))) ?_
  rintro _ _ ⟨z1, q1, z2, q2, H1, H2, rfl, hr1, hr2, rfl⟩
  obtain ⟨pb, pj, rfl, rfl, pl, ple⟩ := NewRow.head hr2 (by omega)
  refine WS_back ?_
  refine WS_new hF (by rfl) (y_alloc Tryd.zeroValue24 (by rfl)) (fun bo => ?_)
  refine WS_store hF (us := [.slice _ _ _, .slice _ _ _, .int .i64 _]) (i := 0) (by rfl) (by rfl) Tryd.sizeOf24 (by rfl) (by rfl) (by rfl) (by first | decide | exact Nat.le_of_ble_eq_true rfl | simp) ?_
  refine WS_nil ?_
  refine Then_normal ?_
  refine W_seq ?_
  refine W_seq ?_
  refine W_pull (pb, CB (iv c.inn ++ pj) 3) (by repeat (first | exact Pul.base0 | exact Pul.base | apply Pul.cons | apply Pul.app)) ?_
  refine W_region_lit (fun ds => ?_)
  refine WS_det hF (by rfl) (y_fieldAddr (by rfl) fa26_0) ?_
  refine WS_det hF (by rfl) (y_load1 (by rfl) Tryd.isAgg3 (Mem.own1 3 (by rfl) (by rfl))) ?_
  refine WS_det hF (by rfl) (y_eql (by rfl) (by rfl)) ?_
  refine WS_nil ?_
  refine Then_normal ?_
  refine W_cond (by rfl) (fun c2 => ?_) (fun c2 => ?_)
  ·
    try simp only [Bool.not_eq_true', Bool.not_eq_false', decide_eq_true_eq, decide_eq_false_iff_not, ne_eq, Classical.not_not, Int.not_lt, Int.not_le] at c2
    obtain rfl : f = 0 := by omega
    refine W_region_lit (fun ds => ?_)
    refine WS_det hF (by rfl) (y_fieldAddr (by rfl) fa24_2) ?_
    refine WS_det hF (by rfl) (y_load1 (by rfl) Tryd.isAgg3 (Mem.own1 1 (by rfl) (by rfl))) ?_
    refine WS_det hF (by rfl) (y_move (c := .int .i64 _) (by rfl)) ?_
    refine WS_det hF (by rfl) (y_sub (by rfl) (by rfl) (by unfold I64; omega)) ?_
    refine WS_det hF (by rfl) (y_fieldAddr (by rfl) fa24_2) ?_
    refine WS_store hF (us := [.int .i64 _]) (i := 1) (by rfl) (by rfl) Tryd.sizeOf3 (by rfl) (by rfl) (by rfl) (by first | decide | exact Nat.le_of_ble_eq_true rfl | simp) ?_
    refine WS_nil ?_
    refine Then_normal ?_
    refine W_seq ?_
    refine W_seq ?_
    try rw [splice_iv _ _ _ _ (by omega)]
    refine W_region_lit (fun ds => ?_)
    refine WS_det hF (by rfl) (y_fieldAddr (by rfl) fa26_1) ?_
    refine WS_det hF (by rfl) (y_load1 (by rfl) Tryd.isAgg3 (Mem.own1 3 (by rfl) (by rfl))) ?_
    refine WS_det hF (by rfl) (y_eql (by rfl) (by rfl)) ?_
    refine WS_nil ?_
    refine Then_normal ?_
    refine W_cond (by rfl) (fun c5 => ?_) (fun c5 => ?_)
    ·
      try simp only [Bool.not_eq_true', Bool.not_eq_false', decide_eq_true_eq, decide_eq_false_iff_not, ne_eq, Classical.not_not, Int.not_lt, Int.not_le] at c5
      obtain rfl : t = 0 := by omega
      refine W_region_lit (fun ds => ?_)
      refine WS_det hF (by rfl) (y_fieldAddr (by rfl) fa24_2) ?_
      refine WS_det hF (by rfl) (y_load1 (by rfl) Tryd.isAgg3 (Mem.own1 1 (by rfl) (by rfl))) ?_
      refine WS_det hF (by rfl) (y_move (c := .int .i64 _) (by rfl)) ?_
      refine WS_det hF (by rfl) (y_add (by rfl) (by rfl) (by unfold I64; omega)) ?_
      refine WS_det hF (by rfl) (y_fieldAddr (by rfl) fa24_2) ?_
      refine WS_store hF (us := [.int .i64 _]) (i := 1) (by rfl) (by rfl) Tryd.sizeOf3 (by rfl) (by rfl) (by rfl) (by first | decide | exact Nat.le_of_ble_eq_true rfl | simp) ?_
      refine WS_nil ?_
      refine Then_normal ?_
      refine W_seq ?_
      try rw [splice_iv _ _ _ _ (by first | omega | (rw [List.length_set]; omega))]
      refine W_region_lit (fun ds => ?_)
      refine WS_det hF (by rfl) (y_loadN (by rfl) Tryd.isAgg24 Tryd.sizeOf24 (Mem.own (us := [.slice _ _ _, .slice _ _ _, .int .i64 _]) 1 (by rfl) (by rfl)) (by rfl)) ?_
      refine WS_store hF (us := [.slice _ _ _, .slice _ _ _, .int .i64 _]) (i := 2) (by rfl) (by rfl) Tryd.sizeOf24 (by rfl) (by rfl) (by rfl) (by first | decide | exact Nat.le_of_ble_eq_true rfl | simp) ?_
      refine WS_nil ?_
      refine Then_normal ?_
      refine W_ret ?_
      refine Fin_ret [_] (H1 ++ [(pb, _)]) Tryd.results55 ⟨lvN (by rfl) Tryd.isAgg24 Tryd.sizeOf24 (Mem.own (us := [.slice _ _ _, .slice _ _ _, .int .i64 _]) 2 (by rfl) (by rfl)) (by rfl), trivial⟩ (HSub.perm (Hn := (pb, _) :: H1) (HSub.sub sbA) (List.perm_append_singleton _ _)) ?_
      exact absurd rfl hft
    ·
      try simp only [Bool.not_eq_true', Bool.not_eq_false', decide_eq_true_eq, decide_eq_false_iff_not, ne_eq, Classical.not_not, Int.not_lt, Int.not_le] at c5
      obtain ⟨i, rfl⟩ : ∃ i, t = i + 1 := ⟨t - 1, by omega⟩
      have hs2 := hok.s i (by omega)
      have hi2 := hok.i i (by omega)
      refine W_region_lit (fun ds => ?_)
      refine WS_det hF (by rfl) (y_fieldAddr (by rfl) fa24_1) ?_
      refine WS_det hF (by rfl) (y_load1 (by rfl) Tryd.isAgg22 (Mem.own1 1 (by rfl) (by rfl))) ?_
      refine WS_det hF (by rfl) (y_fieldAddr (by rfl) fa26_1) ?_
      refine WS_det hF (by rfl) (y_load1 (by rfl) Tryd.isAgg3 (Mem.own1 3 (by rfl) (by rfl))) ?_
      refine WS_det hF (by rfl) (y_sub (by rfl) (by rfl) (by unfold I64; omega)) ?_
      refine WS_det hF (by rfl) (y_index (k := i) (by rfl) (by rfl) (by first | rfl | omega) (by first | decide | omega) Tryd.runUnderlying22 Tryd.sizeOf3) ?_
      refine WS_det hF (by rfl) (y_load1 (by rfl) Tryd.isAgg3 (Mem.own (us := [.int .i64 (c.i i)]) 0 (by rfl) (drop_iv (by first | omega | (rw [List.length_set]; omega)) (by first | rfl | exact getD_set_ne (by omega))))) ?_
      refine WS_det hF (by rfl) (y_move (c := .int .i64 _) (by rfl)) ?_
      refine WS_det hF (by rfl) (y_add (by rfl) (by rfl) (by unfold I64; omega)) ?_
      refine WS_det hF (by rfl) (y_index (k := i) (by rfl) (by rfl) (by first | rfl | omega) (by first | decide | omega) Tryd.runUnderlying22 Tryd.sizeOf3) ?_
      refine WS_store hF (us := [.int .i64 _]) (i := 0) (by rfl) (by rfl) Tryd.sizeOf3 (by rfl) (by rfl) (by rfl) (fit_iv (by first | omega | (rw [List.length_set]; omega))) ?_
      refine WS_nil ?_
      refine Then_normal ?_
      refine W_seq ?_
      try rw [splice_iv _ _ _ _ (by first | omega | (rw [List.length_set]; omega))]
      refine W_region_lit (fun ds => ?_)
      refine WS_det hF (by rfl) (y_loadN (by rfl) Tryd.isAgg24 Tryd.sizeOf24 (Mem.own (us := [.slice _ _ _, .slice _ _ _, .int .i64 _]) 1 (by rfl) (by rfl)) (by rfl)) ?_
      refine WS_store hF (us := [.slice _ _ _, .slice _ _ _, .int .i64 _]) (i := 2) (by rfl) (by rfl) Tryd.sizeOf24 (by rfl) (by rfl) (by rfl) (by first | decide | exact Nat.le_of_ble_eq_true rfl | simp) ?_
      refine WS_nil ?_
      refine Then_normal ?_
      refine W_ret ?_
      refine Fin_ret [_] (H1 ++ [(pb, _)]) Tryd.results55 ⟨lvN (by rfl) Tryd.isAgg24 Tryd.sizeOf24 (Mem.own (us := [.slice _ _ _, .slice _ _ _, .int .i64 _]) 2 (by rfl) (by rfl)) (by rfl), trivial⟩ (HSub.perm (Hn := (pb, _) :: H1) (HSub.sub sbA) (List.perm_append_singleton _ _)) ?_
      exact TwinC.mk2 (c := c) (c' := c.pou _ _ _) rfl (by simp only [Cn.pou, Cn.put, List.length_set]) hr1 pl ple (by omega)
  ·
    try simp only [Bool.not_eq_true', Bool.not_eq_false', decide_eq_true_eq, decide_eq_false_iff_not, ne_eq, Classical.not_not, Int.not_lt, Int.not_le] at c2
    obtain ⟨j, rfl⟩ : ∃ j, f = j + 1 := ⟨f - 1, by omega⟩
    have hs := hok.s j (by omega)
    have hi := hok.i j (by omega)
    refine W_region_lit (fun ds => ?_)
    refine WS_det hF (by rfl) (y_fieldAddr (by rfl) fa24_1) ?_
    refine WS_det hF (by rfl) (y_load1 (by rfl) Tryd.isAgg22 (Mem.own1 1 (by rfl) (by rfl))) ?_
    refine WS_det hF (by rfl) (y_fieldAddr (by rfl) fa26_0) ?_
    refine WS_det hF (by rfl) (y_load1 (by rfl) Tryd.isAgg3 (Mem.own1 3 (by rfl) (by rfl))) ?_
    refine WS_det hF (by rfl) (y_sub (by rfl) (by rfl) (by unfold I64; omega)) ?_
    refine WS_det hF (by rfl) (y_index (k := j) (by rfl) (by rfl) (by first | rfl | omega) (by first | decide | omega) Tryd.runUnderlying22 Tryd.sizeOf3) ?_
    refine WS_det hF (by rfl) (y_load1 (by rfl) Tryd.isAgg3 (Mem.own (us := [.int .i64 (c.i j)]) 0 (by rfl) (drop_iv (by omega) rfl))) ?_
    refine WS_det hF (by rfl) (y_move (c := .int .i64 _) (by rfl)) ?_
    refine WS_det hF (by rfl) (y_sub (by rfl) (by rfl) (by unfold I64; omega)) ?_
    refine WS_det hF (by rfl) (y_index (k := j) (by rfl) (by rfl) (by first | rfl | omega) (by first | decide | omega) Tryd.runUnderlying22 Tryd.sizeOf3) ?_
    refine WS_store hF (us := [.int .i64 _]) (i := 0) (by rfl) (by rfl) Tryd.sizeOf3 (by rfl) (by rfl) (by rfl) (fit_iv (by omega)) ?_
    refine WS_nil ?_
    refine Then_normal ?_
    refine W_seq ?_
    refine W_seq ?_
    try rw [splice_iv _ _ _ _ (by omega)]
    refine W_region_lit (fun ds => ?_)
    refine WS_det hF (by rfl) (y_fieldAddr (by rfl) fa26_1) ?_
    refine WS_det hF (by rfl) (y_load1 (by rfl) Tryd.isAgg3 (Mem.own1 3 (by rfl) (by rfl))) ?_
    refine WS_det hF (by rfl) (y_eql (by rfl) (by rfl)) ?_
    refine WS_nil ?_
    refine Then_normal ?_
    refine W_cond (by rfl) (fun c5 => ?_) (fun c5 => ?_)
    ·
      try simp only [Bool.not_eq_true', Bool.not_eq_false', decide_eq_true_eq, decide_eq_false_iff_not, ne_eq, Classical.not_not, Int.not_lt, Int.not_le] at c5
      obtain rfl : t = 0 := by omega
      refine W_region_lit (fun ds => ?_)
      refine WS_det hF (by rfl) (y_fieldAddr (by rfl) fa24_2) ?_
      refine WS_det hF (by rfl) (y_load1 (by rfl) Tryd.isAgg3 (Mem.own1 1 (by rfl) (by rfl))) ?_
      refine WS_det hF (by rfl) (y_move (c := .int .i64 _) (by rfl)) ?_
      refine WS_det hF (by rfl) (y_add (by rfl) (by rfl) (by unfold I64; omega)) ?_
      refine WS_det hF (by rfl) (y_fieldAddr (by rfl) fa24_2) ?_
      refine WS_store hF (us := [.int .i64 _]) (i := 1) (by rfl) (by rfl) Tryd.sizeOf3 (by rfl) (by rfl) (by rfl) (by first | decide | exact Nat.le_of_ble_eq_true rfl | simp) ?_
      refine WS_nil ?_
      refine Then_normal ?_
      refine W_seq ?_
      try rw [splice_iv _ _ _ _ (by first | omega | (rw [List.length_set]; omega))]
      refine W_region_lit (fun ds => ?_)
      refine WS_det hF (by rfl) (y_loadN (by rfl) Tryd.isAgg24 Tryd.sizeOf24 (Mem.own (us := [.slice _ _ _, .slice _ _ _, .int .i64 _]) 1 (by rfl) (by rfl)) (by rfl)) ?_
      refine WS_store hF (us := [.slice _ _ _, .slice _ _ _, .int .i64 _]) (i := 2) (by rfl) (by rfl) Tryd.sizeOf24 (by rfl) (by rfl) (by rfl) (by first | decide | exact Nat.le_of_ble_eq_true rfl | simp) ?_
      refine WS_nil ?_
      refine Then_normal ?_
      refine W_ret ?_
      refine Fin_ret [_] (H1 ++ [(pb, _)]) Tryd.results55 ⟨lvN (by rfl) Tryd.isAgg24 Tryd.sizeOf24 (Mem.own (us := [.slice _ _ _, .slice _ _ _, .int .i64 _]) 2 (by rfl) (by rfl)) (by rfl), trivial⟩ (HSub.perm (Hn := (pb, _) :: H1) (HSub.sub sbA) (List.perm_append_singleton _ _)) ?_
      exact TwinC.mk2 (c := c) (c' := c.pou _ _ _) rfl (by simp only [Cn.pou, Cn.put, List.length_set]) hr1 pl ple (by omega)
    ·
      try simp only [Bool.not_eq_true', Bool.not_eq_false', decide_eq_true_eq, decide_eq_false_iff_not, ne_eq, Classical.not_not, Int.not_lt, Int.not_le] at c5
      obtain ⟨i, rfl⟩ : ∃ i, t = i + 1 := ⟨t - 1, by omega⟩
      have hs2 := hok.s i (by omega)
      have hi2 := hok.i i (by omega)
      refine W_region_lit (fun ds => ?_)
      refine WS_det hF (by rfl) (y_fieldAddr (by rfl) fa24_1) ?_
      refine WS_det hF (by rfl) (y_load1 (by rfl) Tryd.isAgg22 (Mem.own1 1 (by rfl) (by rfl))) ?_
      refine WS_det hF (by rfl) (y_fieldAddr (by rfl) fa26_1) ?_
      refine WS_det hF (by rfl) (y_load1 (by rfl) Tryd.isAgg3 (Mem.own1 3 (by rfl) (by rfl))) ?_
      refine WS_det hF (by rfl) (y_sub (by rfl) (by rfl) (by unfold I64; omega)) ?_
      refine WS_det hF (by rfl) (y_index (k := i) (by rfl) (by rfl) (by first | rfl | omega) (by first | decide | omega) Tryd.runUnderlying22 Tryd.sizeOf3) ?_
      refine WS_det hF (by rfl) (y_load1 (by rfl) Tryd.isAgg3 (Mem.own (us := [.int .i64 (c.i i)]) 0 (by rfl) (drop_iv (by first | omega | (rw [List.length_set]; omega)) (by first | rfl | exact getD_set_ne (by omega))))) ?_
      refine WS_det hF (by rfl) (y_move (c := .int .i64 _) (by rfl)) ?_
      refine WS_det hF (by rfl) (y_add (by rfl) (by rfl) (by unfold I64; omega)) ?_
      refine WS_det hF (by rfl) (y_index (k := i) (by rfl) (by rfl) (by first | rfl | omega) (by first | decide | omega) Tryd.runUnderlying22 Tryd.sizeOf3) ?_
      refine WS_store hF (us := [.int .i64 _]) (i := 0) (by rfl) (by rfl) Tryd.sizeOf3 (by rfl) (by rfl) (by rfl) (fit_iv (by first | omega | (rw [List.length_set]; omega))) ?_
      refine WS_nil ?_
      refine Then_normal ?_
      refine W_seq ?_
      try rw [splice_iv _ _ _ _ (by first | omega | (rw [List.length_set]; omega))]
      refine W_region_lit (fun ds => ?_)
      refine WS_det hF (by rfl) (y_loadN (by rfl) Tryd.isAgg24 Tryd.sizeOf24 (Mem.own (us := [.slice _ _ _, .slice _ _ _, .int .i64 _]) 1 (by rfl) (by rfl)) (by rfl)) ?_
      refine WS_store hF (us := [.slice _ _ _, .slice _ _ _, .int .i64 _]) (i := 2) (by rfl) (by rfl) Tryd.sizeOf24 (by rfl) (by rfl) (by rfl) (by first | decide | exact Nat.le_of_ble_eq_true rfl | simp) ?_
      refine WS_nil ?_
      refine Then_normal ?_
      refine W_ret ?_
      refine Fin_ret [_] (H1 ++ [(pb, _)]) Tryd.results55 ⟨lvN (by rfl) Tryd.isAgg24 Tryd.sizeOf24 (Mem.own (us := [.slice _ _ _, .slice _ _ _, .int .i64 _]) 2 (by rfl) (by rfl)) (by rfl), trivial⟩ (HSub.perm (Hn := (pb, _) :: H1) (HSub.sub sbA) (List.perm_append_singleton _ _)) ?_
      exact TwinC.mk2 (c := c) (c' := c.pou _ _ _) rfl (by simp only [Cn.pou, Cn.put, List.length_set]) hr1 pl ple (by omega)
end Go.Proofs.YtjekjehgmljbgaaDoor.T

namespace Go.Proofs.YtjekjehgmljbgaaDoor.T
open Go.RowKit Go.Proofs Go.Eng
set_option maxRecDepth 100000
set_option maxHeartbeats 1000000
set_option linter.unusedVariables false
set_option linter.unusedSimpArgs false

theorem bd24  : ∀ w, (Instr.build 24 #[]).run Tryd.prog w = .ok (.agg #[.slice none 0 0, .slice none 0 0, .int .i64 0]) w := fun w => by kernel_rfl

theorem Cn.Ok.lack0 {c : Cn} (h : c.Ok) {t : Nat} (ht : t ≤ c.n) : 0 ≤ c.lack c.co t ∧ c.lack c.co t ≤ 600 := by
  have h3 := h.n3
  have h0 := h.st0
  have h1 := h.st1
  unfold Cn.lack Cn.room
  cases t with
  | zero => show 0 ≤ 600 - c.st ∧ 600 - c.st ≤ 600; omega
  | succ k =>
    have hs := h.s k (by omega)
    have hi := h.i k (by omega)
    rw [if_neg (by omega), c.co_g k (by omega), Nat.add_sub_cancel]
    omega
theorem Cn.Ok.g0 {c : Cn} (h : c.Ok) {f : Nat} (hf : f ≤ c.n) : 0 ≤ c.co.g f ∧ c.co.g f ≤ 600 := by
  have h3 := h.n3
  have h0 := h.st0
  have h1 := h.st1
  cases f with
  | zero => exact ⟨h0, h1⟩
  | succ k =>
    have hs := h.s k (by omega)
    have hi := h.i k (by omega)
    rw [c.co_g k (by omega)]
    omega
theorem Cn.Ok.amtR_bd {c : Cn} (h : c.Ok) {f t : Nat} (hf : f ≤ c.n) (ht : t ≤ c.n) : 0 ≤ c.amtR f t ∧ c.amtR f t ≤ 600 := by
  have h1 := h.lack0 ht
  have h2 := h.g0 hf
  unfold Cn.amtR Cn.amt
  split
  · split <;> omega
  · split
    · exact h2
    · omega
theorem Cn.pou_st (c : Cn) {f t : Nat} (hft : f ≠ t) (m : Int) : (c.pou f t m).st = if f = 0 then c.st - m else if t = 0 then c.st + m else c.st := by
  unfold Cn.pou
  cases f with
  | zero => cases t with
    | zero => exact absurd rfl hft
    | succ j => rfl
  | succ i => cases t with
    | zero => rfl
    | succ j => rfl
theorem Cn.Ok.can_iff {c : Cn} (h : c.Ok) {f t : Nat} (hf : f ≤ c.n) (ht : t ≤ c.n) (hft : f ≠ t) : c.canB c.co f t = true ↔ ¬ (c.amtR f t = 0 ∨ 600 < (c.pou f t (c.amtR f t)).st) := by
  have h1 := h.lack0 ht
  have h2 := h.g0 hf
  have h3 := h.st0
  have h4 := h.st1
  rw [Cn.canB_iff, c.pou_st hft]
  unfold Cn.amtR Cn.amt
  by_cases hf0 : f = 0
  · subst hf0
    simp only [if_true, true_and]
    change 0 ≤ c.st ∧ c.st ≤ 600 at h2
    change (¬ (c.st < _) ∧ _) ∧ 0 < min c.st _ ↔ _
    split <;> omega
  · by_cases ht0 : t = 0
    · subst ht0
      have hl : c.lack c.co 0 = 600 - c.st := rfl
      rw [hl] at h1 ⊢
      simp only [if_neg hf0, if_true, true_and]
      by_cases hg : c.co.g f ≤ 600 - c.st
      · rw [Int.min_eq_left hg]; omega
      · rw [Int.min_eq_right (show 600 - c.st ≤ c.co.g f by omega)]; omega
    · simp only [if_neg hf0, if_neg ht0]
      omega
theorem Cn.Ok.amt_of {c : Cn} (h : c.Ok) {f t : Nat} (hft : f ≠ t) (hc : c.canB c.co f t = true) : c.amtR f t = c.amt c.co f t := by
  rw [Cn.canB_iff] at hc
  unfold Cn.amtR
  unfold Cn.amt at *
  by_cases hf0 : f = 0
  · subst hf0
    have hg : c.co.g 0 = c.st := rfl
    rw [hg] at hc ⊢
    rw [if_pos rfl]
    split <;> omega
  · rw [if_neg hf0]
    by_cases ht0 : t = 0
    · subst ht0
      rw [if_pos rfl]
      omega
    · rw [if_neg ht0]
theorem twinC_zero : TwinC Cn.zero (.agg #[.slice none 0 0, .slice none 0 0, .int .i64 0]) [] :=
  ⟨none, 0, none, 0, [], [], rfl, ⟨none, 0, rfl, Nat.le_refl _, .inr ⟨rfl, rfl, rfl⟩⟩, ⟨none, 0, rfl, Nat.le_refl _, .inr ⟨rfl, rfl, rfl⟩⟩, rfl⟩
def PourV (c : Cn) (p : Po) (v : Value) (Hn : List Blk) : Prop := ∃ v0, v = .tuple #[v0, .int .i64 (c.poE p)] ∧ TwinC (c.poC p) v0 Hn
theorem PourV.bad {c : Cn} {p : Po} {e : Int} (h : c.poE p = e) (he : e ≠ 0) : PourV c p (.tuple #[.agg #[.slice none 0 0, .slice none 0 0, .int .i64 0], .int .i64 e]) [] := by
  refine ⟨_, by rw [h], ?_⟩
  have : c.poC p = Cn.zero := by
    unfold Cn.poC
    unfold Cn.poE at h
    split
    · rename_i hb
      rw [if_pos hb] at h
      rw [if_neg (by rw [h]; exact he)]
    · rfl
  rw [this]
  exact twinC_zero
theorem Cn.poE_bad {c : Cn} {p : Po} (h : c.okB = false) : c.poE p = 80 := by unfold Cn.poE; rw [h]; rfl
theorem Cn.poE_inv {c : Cn} {p : Po} (h : c.okB = true) (hv : c.vldB p = false) : c.poE p = 81 := by
  unfold Cn.poE Cn.pE; rw [if_pos h, hv]; rfl
theorem Cn.poE_no {c : Cn} {f t : Nat} (h : c.okB = true) (hv : c.vldB ⟨f, t⟩ = true) (hc : ¬ c.canB c.co f t = true) : c.poE ⟨f, t⟩ = 6 := by
  unfold Cn.poE Cn.pE
  rw [if_pos h, if_pos hv, if_neg]
  exact hc
theorem Cn.poE_yes {c : Cn} {f t : Nat} (h : c.okB = true) (hv : c.vldB ⟨f, t⟩ = true) (hc : c.canB c.co f t = true) : c.poE ⟨f, t⟩ = 0 ∧ c.poC ⟨f, t⟩ = c.of (c.to c.co f t) := by
  have h0 : c.pE c.co ⟨f, t⟩ = 0 := Cn.pE_zero.2 ⟨hv, hc⟩
  unfold Cn.poE Cn.poC
  rw [if_pos h, if_pos h, if_pos h0]
  exact ⟨h0, rfl⟩
theorem rpour_any (c : Cn) (a1 : Option Addr) (p1 : Nat) (a2 : Option Addr) (p2 : Nat) (p : Po) (w : World) (hn : c.n ≤ 1000000) (hm : c.inn.length ≤ 1000000) (h1 : Ints w a1 c.n p1 c.sz) (h2 : Ints w a2 c.inn.length p2 c.inn) : Ct Tryd.prog 12 #[.agg #[.slice a1 c.n p1, .slice a2 c.inn.length p2, .int .i64 c.st], .agg p.cells.toArray] w (PourV c p) := by
  obtain ⟨pf, pt⟩ := p
  have hF := wide_wide
  refine Ct_start (args := [_, _]) Tryd.func12 (by rfl) Tryd.ntmps12 (by rfl) ?_
  refine W_seq ?_
  refine W_region_lit (fun ds => ?_)
  refine WS_new hF (by rfl) (y_box (by rfl)) (fun b1 => ?_)
  refine WS_new hF (by rfl) (y_box (by rfl)) (fun b2 => ?_)
  refine WS_new hF (by rfl) (y_alloc Tryd.zeroValue24 (by rfl)) (fun b3 => ?_)
  refine WS_det hF (by rfl) (y_assign (c := .int .i64 _) (by rfl)) ?_
  refine WS_nil ?_
  refine Then_normal ?_
  refine W_seq ?_
  refine W_seq ?_
  refine W_region_lit (fun ds => ?_)
  refine WS_det hF (by rfl) (y_loadN (by rfl) Tryd.isAgg24 Tryd.sizeOf24 (Mem.own (us := [.slice _ _ _, .slice _ _ _, .int .i64 _]) 2 (by rfl) (by rfl)) (by rfl)) ?_
  refine WS_det hF (by rfl) (y_callL (by rfl) (by rfl) Tryd.call52 (fun w hw => rcans_any c a1 p1 a2 p2 w hn hm (h1.st w hw) (h2.st w hw))) ?_
  refine WS_det hF (by rfl) (y_not (by rfl)) ?_
  refine WS_nil ?_
  refine Then_normal ?_
  refine W_cond (by rfl) (fun c1 => ?_) (fun c1 => ?_)
  ·
    try simp only [Bool.not_eq_true', Bool.not_eq_false', decide_eq_true_eq, decide_eq_false_iff_not, ne_eq, Classical.not_not, Int.not_lt, Int.not_le] at c1
    refine W_seq ?_
    refine W_region_lit (fun ds => ?_)
    refine WS_det hF (by rfl) (y_buildL bd24 (by rfl)) ?_
    refine WS_store hF (us := [.slice _ _ _, .slice _ _ _, .int .i64 _]) (i := 0) (by rfl) (by rfl) Tryd.sizeOf24 (by rfl) (by rfl) (by rfl) (by first | decide | exact Nat.le_of_ble_eq_true rfl | simp) ?_
    refine WS_det hF (by rfl) (y_assign (c := .int .i64 _) (by rfl)) ?_
    refine WS_nil ?_
    refine Then_normal ?_
    refine W_ret ?_
    refine Then_ret ?_
    refine Fin_ret [_, .int .i64 _] [] Tryd.results12 ⟨lvN (by rfl) Tryd.isAgg24 Tryd.sizeOf24 (Mem.own (us := [.slice _ _ _, .slice _ _ _, .int .i64 _]) 0 (by rfl) (by rfl)) (by rfl), by rfl, trivial⟩ HSub.nil ?_
    exact PourV.bad (Cn.poE_bad c1) (by decide)
  ·
    try simp only [Bool.not_eq_true', Bool.not_eq_false', decide_eq_true_eq, decide_eq_false_iff_not, ne_eq, Classical.not_not, Int.not_lt, Int.not_le] at c1
    refine W_skip ?_
    refine Then_normal ?_
    refine W_seq ?_
    refine W_seq ?_
    refine W_region_lit (fun ds => ?_)
    refine WS_det hF (by rfl) (y_loadN (by rfl) Tryd.isAgg24 Tryd.sizeOf24 (Mem.own (us := [.slice _ _ _, .slice _ _ _, .int .i64 _]) 2 (by rfl) (by rfl)) (by rfl)) ?_
    refine WS_det hF (by rfl) (y_loadN (by rfl) Tryd.isAgg26 Tryd.sizeOf26 (Mem.own (us := [.int .i64 _, .int .i64 _]) 1 (by rfl) (by rfl)) (by rfl)) ?_
    refine WS_det hF (by rfl) (y_callL (by rfl) (by rfl) Tryd.call53 (fun w hw => rpouring_any c a1 p1 a2 p2 ⟨pf, pt⟩ w)) ?_
    refine WS_det hF (by rfl) (y_not (by rfl)) ?_
    refine WS_nil ?_
    refine Then_normal ?_
    refine W_cond (by rfl) (fun c3 => ?_) (fun c3 => ?_)
    ·
      try simp only [Bool.not_eq_true', Bool.not_eq_false', decide_eq_true_eq, decide_eq_false_iff_not, ne_eq, Classical.not_not, Int.not_lt, Int.not_le] at c3
      refine W_seq ?_
      refine W_region_lit (fun ds => ?_)
      refine WS_det hF (by rfl) (y_buildL bd24 (by rfl)) ?_
      refine WS_store hF (us := [.slice _ _ _, .slice _ _ _, .int .i64 _]) (i := 0) (by rfl) (by rfl) Tryd.sizeOf24 (by rfl) (by rfl) (by rfl) (by first | decide | exact Nat.le_of_ble_eq_true rfl | simp) ?_
      refine WS_det hF (by rfl) (y_assign (c := .int .i64 _) (by rfl)) ?_
      refine WS_nil ?_
      refine Then_normal ?_
      refine W_ret ?_
      refine Then_ret ?_
      refine Fin_ret [_, .int .i64 _] [] Tryd.results12 ⟨lvN (by rfl) Tryd.isAgg24 Tryd.sizeOf24 (Mem.own (us := [.slice _ _ _, .slice _ _ _, .int .i64 _]) 0 (by rfl) (by rfl)) (by rfl), by rfl, trivial⟩ HSub.nil ?_
      exact PourV.bad (Cn.poE_inv c1 c3) (by decide)
    ·
      try simp only [Bool.not_eq_true', Bool.not_eq_false', decide_eq_true_eq, decide_eq_false_iff_not, ne_eq, Classical.not_not, Int.not_lt, Int.not_le] at c3
      have hok := Cn.ok_iff.1 c1
      have hn3 := hok.n3
      obtain ⟨⟨hf0, hf1⟩, ⟨ht0, ht1⟩, hne⟩ := Cn.vld_iff.1 c3
      simp only at hf0 hf1 ht0 ht1 hne
      obtain ⟨f, rfl⟩ := Int.eq_ofNat_of_zero_le hf0
      obtain ⟨t, rfl⟩ := Int.eq_ofNat_of_zero_le ht0
      have hf : f ≤ c.n := by omega
      have ht : t ≤ c.n := by omega
      have hft : f ≠ t := by omega
      have hbd := hok.amtR_bd hf ht
      have hci := hok.can_iff hf ht hft
      have hst := c.pou_st hft (c.amtR f t)
      refine W_skip ?_
      refine Then_normal ?_
      refine W_seq ?_
      refine W_region_lit (fun ds => ?_)
      refine WS_det hF (by rfl) (y_loadN (by rfl) Tryd.isAgg24 Tryd.sizeOf24 (Mem.own (us := [.slice _ _ _, .slice _ _ _, .int .i64 _]) 2 (by rfl) (by rfl)) (by rfl)) ?_
      refine WS_det hF (by rfl) (y_loadN (by rfl) Tryd.isAgg26 Tryd.sizeOf26 (Mem.own (us := [.int .i64 _, .int .i64 _]) 1 (by rfl) (by rfl)) (by rfl)) ?_
      refine WS_det hF (by rfl) (y_callL (by rfl) (by rfl) Tryd.call54 (fun w hw => rpints_any c a1 p1 a2 p2 f t w hok hn hm (h1.st w hw) (h2.st w hw) hf ht hft)) ?_
      refine WS_det hF (by rfl) (y_assign (c := .int .i64 _) (by rfl)) ?_
      refine WS_nil ?_
      refine Then_normal ?_
      refine W_seq ?_
      refine W_region_lit (fun ds => ?_)
      refine WS_det hF (by rfl) (y_loadN (by rfl) Tryd.isAgg24 Tryd.sizeOf24 (Mem.own (us := [.slice _ _ _, .slice _ _ _, .int .i64 _]) 2 (by rfl) (by rfl)) (by rfl)) ?_
      refine WS_det hF (by rfl) (y_loadN (by rfl) Tryd.isAgg26 Tryd.sizeOf26 (Mem.own (us := [.int .i64 _, .int .i64 _]) 1 (by rfl) (by rfl)) (by rfl)) ?_
      refine WS_det hF (by rfl) (y_move (c := .int .i64 _) (by rfl)) ?_
      refine WS_gen hF (by rfl) (y_callL (by rfl) (by rfl) Tryd.call55 (fun w hw => rpoured_any c a1 p1 a2 p2 f t (c.amtR f t) w hok hn hm (h1.st w hw) (h2.st w hw) hf ht hft (by omega) (by omega))) ?_
      rintro _ _ ⟨z1, q1, z2, q2, H1, H2, rfl, hr1, hr2, rfl⟩
      refine WS_back ?_
      refine WS_new hF (by rfl) (y_alloc Tryd.zeroValue24 (by rfl)) (fun bo => ?_)
      refine WS_store hF (us := [.slice _ _ _, .slice _ _ _, .int .i64 _]) (i := 0) (by rfl) (by rfl) Tryd.sizeOf24 (by rfl) (by rfl) (by rfl) (by first | decide | exact Nat.le_of_ble_eq_true rfl | simp) ?_
      refine WS_nil ?_
      refine Then_normal ?_
      refine W_seq ?_
      refine W_seq ?_
      refine W_region_lit (fun ds => ?_)
      refine WS_det hF (by rfl) (y_move (c := .int .i64 _) (by rfl)) ?_
      refine WS_det hF (by rfl) (y_eql (by rfl) (by rfl)) ?_
      refine WS_det hF (by rfl) (y_move (c := .bool _) (by rfl)) ?_
      refine WS_split 26 (by rfl) (fun g7_2 => ?_) (fun g7_2 => ?_)
      ·
        try simp only [Bool.not_eq_true', Bool.not_eq_false', decide_eq_true_eq, decide_eq_false_iff_not, ne_eq, Classical.not_not, Int.not_lt, Int.not_le] at g7_2
        refine WS_no hF (by rfl) ?_
        refine WS_no hF (by rfl) ?_
        refine WS_no hF (by rfl) ?_
        refine WS_det hF (by rfl) (by first | exact y_pick_t (c := .bool _) (by rfl) (by rfl) | exact y_pick_f (c := .bool _) (by rfl) (by rfl)) ?_
        refine WS_nil ?_
        refine Then_normal ?_
        refine W_cond (by rfl) (fun c7 => ?_) (fun c7 => ?_)
        ·
          try simp only [Bool.not_eq_true', Bool.not_eq_false', decide_eq_true_eq, decide_eq_false_iff_not, ne_eq, Classical.not_not, Int.not_lt, Int.not_le] at c7
          refine W_seq ?_
          refine W_region_lit (fun ds => ?_)
          refine WS_det hF (by rfl) (y_buildL bd24 (by rfl)) ?_
          refine WS_store hF (us := [.slice _ _ _, .slice _ _ _, .int .i64 _]) (i := 1) (by rfl) (by rfl) Tryd.sizeOf24 (by rfl) (by rfl) (by rfl) (by first | decide | exact Nat.le_of_ble_eq_true rfl | simp) ?_
          refine WS_det hF (by rfl) (y_assign (c := .int .i64 _) (by rfl)) ?_
          refine WS_nil ?_
          refine Then_normal ?_
          refine W_ret ?_
          refine Then_ret ?_
          refine Fin_ret [_, .int .i64 _] [] Tryd.results12 ⟨lvN (by rfl) Tryd.isAgg24 Tryd.sizeOf24 (Mem.own (us := [.slice _ _ _, .slice _ _ _, .int .i64 _]) 1 (by rfl) (by rfl)) (by rfl), by rfl, trivial⟩ HSub.nil ?_
          exact PourV.bad (Cn.poE_no c1 c3 fun h => hci.1 h (.inl g7_2)) (by decide)
        · cases c7
      ·
        try simp only [Bool.not_eq_true', Bool.not_eq_false', decide_eq_true_eq, decide_eq_false_iff_not, ne_eq, Classical.not_not, Int.not_lt, Int.not_le] at g7_2
        refine WS_det hF (by rfl) (y_fieldAddr (by rfl) fa24_2) ?_
        refine WS_det hF (by rfl) (y_load1 (by rfl) Tryd.isAgg3 (Mem.own1 0 (by rfl) (by rfl))) ?_
        refine WS_det hF (by rfl) (y_gtr (by rfl) (by rfl)) ?_
        refine WS_det hF (by rfl) (by first | exact y_pick_t (c := .bool _) (by rfl) (by rfl) | exact y_pick_f (c := .bool _) (by rfl) (by rfl)) ?_
        refine WS_nil ?_
        refine Then_normal ?_
        refine W_cond (by rfl) (fun c7 => ?_) (fun c7 => ?_)
        ·
          try simp only [Bool.not_eq_true', Bool.not_eq_false', decide_eq_true_eq, decide_eq_false_iff_not, ne_eq, Classical.not_not, Int.not_lt, Int.not_le] at c7
          refine W_seq ?_
          refine W_region_lit (fun ds => ?_)
          refine WS_det hF (by rfl) (y_buildL bd24 (by rfl)) ?_
          refine WS_store hF (us := [.slice _ _ _, .slice _ _ _, .int .i64 _]) (i := 1) (by rfl) (by rfl) Tryd.sizeOf24 (by rfl) (by rfl) (by rfl) (by first | decide | exact Nat.le_of_ble_eq_true rfl | simp) ?_
          refine WS_det hF (by rfl) (y_assign (c := .int .i64 _) (by rfl)) ?_
          refine WS_nil ?_
          refine Then_normal ?_
          refine W_ret ?_
          refine Then_ret ?_
          refine Fin_ret [_, .int .i64 _] [] Tryd.results12 ⟨lvN (by rfl) Tryd.isAgg24 Tryd.sizeOf24 (Mem.own (us := [.slice _ _ _, .slice _ _ _, .int .i64 _]) 1 (by rfl) (by rfl)) (by rfl), by rfl, trivial⟩ HSub.nil ?_
          exact PourV.bad (Cn.poE_no c1 c3 fun h => hci.1 h (.inr (by omega))) (by decide)
        ·
          try simp only [Bool.not_eq_true', Bool.not_eq_false', decide_eq_true_eq, decide_eq_false_iff_not, ne_eq, Classical.not_not, Int.not_lt, Int.not_le] at c7
          refine W_skip ?_
          refine Then_normal ?_
          refine W_seq ?_
          refine W_region_lit (fun ds => ?_)
          refine WS_det hF (by rfl) (y_loadN (by rfl) Tryd.isAgg24 Tryd.sizeOf24 (Mem.own (us := [.slice _ _ _, .slice _ _ _, .int .i64 _]) 0 (by rfl) (by rfl)) (by rfl)) ?_
          refine WS_store hF (us := [.slice _ _ _, .slice _ _ _, .int .i64 _]) (i := 1) (by rfl) (by rfl) Tryd.sizeOf24 (by rfl) (by rfl) (by rfl) (by first | decide | exact Nat.le_of_ble_eq_true rfl | simp) ?_
          refine WS_det hF (by rfl) (y_assign (c := .int .i64 _) (by rfl)) ?_
          refine WS_nil ?_
          refine Then_normal ?_
          refine W_ret ?_
          refine Fin_ret [_, .int .i64 _] (H1 ++ H2) Tryd.results12 ⟨lvN (by rfl) Tryd.isAgg24 Tryd.sizeOf24 (Mem.own (us := [.slice _ _ _, .slice _ _ _, .int .i64 _]) 1 (by rfl) (by rfl)) (by rfl), by rfl, trivial⟩ (HSub.sub sbA) ?_
          have hcan := hci.2 (by omega)
          obtain ⟨h0, hC⟩ := Cn.poE_yes c1 c3 hcan
          have hE : c.pou f t (c.amtR f t) = c.of (c.to c.co f t) := by rw [hok.pou hf ht, hok.amt_of hft hcan]; rfl
          refine ⟨_, by rw [h0]; rfl, ?_⟩
          rw [hC, ← hE]
          exact ⟨_, _, _, _, H1, H2, rfl, hr1, hr2, rfl⟩
/-- Lists of pourings in memory. -/
abbrev Pos := Rws Po.cells 2 Po.z
theorem po_len (p : Po) : p.cells.length = 2 := rfl
theorem TwinC.parts {c : Cn} {v : Value} {Hn : List Blk} (h : TwinC c v Hn) : ∃ z1 q1 z2 q2 H1 H2, v = .agg #[.slice z1 c.n q1, .slice z2 c.inn.length q2, .int .i64 c.st] ∧ NewRow 3 1 c.n (iv c.sz) (.slice z1 c.n q1) H1 ∧ NewRow 3 1 c.inn.length (iv c.inn) (.slice z2 c.inn.length q2) H2 ∧ Hn = H1 ++ H2 := h
theorem Cn.badK_none {c : Cn} {l : List Po} : ∀ {m k : Nat}, (∀ j, k ≤ j → j < k + m → c.pE (c.runK l j) (l.getD j Po.z) = 0) → c.badK l k m = none
  | 0, _, _ => rfl
  | m + 1, k, h => by
    unfold Cn.badK
    rw [if_pos (h k (Nat.le_refl _) (by omega))]
    exact Cn.badK_none fun j h1 h2 => h j (by omega) (by omega)
theorem Cn.badK_some {c : Cn} {l : List Po} {i : Nat} (hb : c.pE (c.runK l i) (l.getD i Po.z) ≠ 0) : ∀ {m k : Nat}, k ≤ i → i < k + m → (∀ j, k ≤ j → j < i → c.pE (c.runK l j) (l.getD j Po.z) = 0) → c.badK l k m = some i
  | 0, _, _, h2, _ => by omega
  | m + 1, k, h1, h2, h => by
    unfold Cn.badK
    by_cases hk : k = i
    · subst hk; rw [if_neg hb]
    · rw [if_pos (h k (Nat.le_refl _) (by omega))]
      exact Cn.badK_some hb (by omega) (by omega) fun j h3 h4 => h j (by omega) h4
def PlayV (c : Cn) (l : List Po) (v : Value) (Hn : List Blk) : Prop := ∃ v0, v = .tuple #[v0, .int .i64 (c.plB l), .int .i64 (c.plA l), .int .i64 (c.plE l)] ∧ TwinC (c.plC l) v0 Hn
theorem PlayV.bad {c : Cn} {l : List Po} (h : c.okB = false) : PlayV c l (.tuple #[.agg #[.slice none 0 0, .slice none 0 0, .int .i64 0], .int .i64 0, .int .i64 0, .int .i64 80]) [] := by
  refine ⟨.agg #[.slice none 0 0, .slice none 0 0, .int .i64 0], ?_, ?_⟩
  · unfold Cn.plB Cn.plA Cn.plE
    rw [h]; rfl
  · unfold Cn.plC
    rw [h]; exact twinC_zero
theorem PlayV.stop {c : Cn} {l : List Po} {k : Nat} {e : Int} (h : c.okB = true) (hk : k < l.length) (hj : ∀ j, j < k → c.pE (c.runK l j) (l.getD j Po.z) = 0) (he : c.pE (c.runK l k) (l.getD k Po.z) = e) (he0 : e ≠ 0) :
    PlayV c l (.tuple #[.agg #[.slice none 0 0, .slice none 0 0, .int .i64 0], .int .i64 0, .int .i64 (k : Int), .int .i64 e]) [] := by
  have hb : c.bad l = some k := Cn.badK_some (by rw [he]; exact he0) (Nat.zero_le _) (by omega) fun j _ h => hj j h
  refine ⟨.agg #[.slice none 0 0, .slice none 0 0, .int .i64 0], ?_, ?_⟩
  · unfold Cn.plB Cn.plA Cn.plE
    rw [h, hb]
    simp only [if_true, he]
  · unfold Cn.plC
    rw [h, hb]; exact twinC_zero
theorem PlayV.go {c : Cn} {l : List Po} {v0 : Value} {Hn : List Blk} (h : c.okB = true) (hj : ∀ j, j < l.length → c.pE (c.runK l j) (l.getD j Po.z) = 0) (hT : TwinC (c.of (c.runK l l.length)) v0 Hn) :
    PlayV c l (.tuple #[v0, .int .i64 (c.backK l l.length), .int .i64 0, .int .i64 0]) Hn := by
  have hb : c.bad l = none := Cn.badK_none fun j _ h => hj j (by omega)
  refine ⟨v0, ?_, ?_⟩
  · unfold Cn.plB Cn.plA Cn.plE
    rw [h, hb]; rfl
  · unfold Cn.plC
    rw [h, hb]; exact hT
end Go.Proofs.YtjekjehgmljbgaaDoor.T
