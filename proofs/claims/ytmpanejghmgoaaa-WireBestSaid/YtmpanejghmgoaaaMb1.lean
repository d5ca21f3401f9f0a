/- Strings: their values as lists of bytes, and what is done with them. No project text. -/
import Derived.WalkKit
import Derived.OrdersIn
import Derived.TacticsIn
import Derived.CallsIn
import Derived.RangeFuncCalls
import Derived.KernelRfl
import Derived.Shelf.Abstract
import Derived.Sort.LoopGhostIn
import Derived.Laws.Bits64b
import Derived.MapKept
import Derived.Scope
import Derived.Maps.RangeRun
import Derived.Test.YtmpanejghmgoaaaChecked
import Derived.Test.YtmpanejghmgoaaaRows
import Derived.ProofKit
import Derived.OpenShut
import Derived.Lib.SmallJoins
import Derived.ChangeOld
import Derived.Below
import Derived.Laws.Strings
set_option linter.unusedVariables false
set_option linter.unusedSimpArgs false
namespace Go.Eng
theorem rf {p : Prop} (h : p := by rfl) : p := h
theorem om0 {p : Prop} (h : p := by omega) : p := h
theorem ui {p : Prop} (h : p := by unfold I64; omega) : p := h
theorem s10 {p : Prop} (h : p := by repeat (first | exact trivial | refine ⟨by rfl, ?_⟩)) : p := h
theorem d2 {p : Prop} (h : p := by first | decide | exact Nat.le_of_ble_eq_true rfl | simp) : p := h
theorem s20 {p : Prop} (h : p := by repeat (first | exact List.Sublist.refl _ | exact List.nil_sublist _ | apply List.Sublist.cons_cons | apply List.Sublist.cons)) : p := h
end Go.Eng
namespace Go.Eng
open Go.RowKit
abbrev Env := Nat → Value
def upd (e : Env) (d : Nat) (v : Value) : Env := fun t => bif Nat.beq t d then v else e t
def updo (e : Env) : Option Nat → Value → Env
 | some d, v => upd e d v
 | none, _ => e
def ev (e : Env) : Operand → Value
 | .tmp t => e t
 | .const v => v
 | .global g => .pointer (some ⟨g, 0, none⟩)
 | .func f => .func (.func f) #[] #[]
def dOk (n : Nat) : Option Nat → Bool
 | some d => Nat.blt d n
 | none => true
theorem upd_same (e : Env) (d : Nat) (v : Value) : upd e d v d = v := by
 have h : Nat.beq d d = true := by simp
 simp only [upd, h, cond_true]
theorem upd_ne (e : Env) {d t : Nat} (v : Value) (h : t ≠ d) : upd e d v t = e t := by
 have h' : Nat.beq t d = false := by
  cases hb : Nat.beq t d with
  | false => rfl
  | true => exact absurd (Nat.eq_of_beq_eq_true hb) h
 simp only [upd, h', cond_false]
theorem upd_eta (e : Env) (d : Nat) : upd e d (e d) = e := by
 funext t
 by_cases h : t = d
 ·subst h; exact upd_same e t _
 ·exact upd_ne e _ h
structure Rep (n : Nat) (ds : List Deferred) (a : Act) (e : Env) : Prop where
 size : a.tmps.size = n
 defers : a.defers = ds
 val : ∀ t, a.tmps.getD t undef = e t
section
variable {n : Nat} {ds : List Deferred} {a : Act} {e : Env} {d : Nat} {v : Value}
theorem Rep.eval (h : Rep n ds a e) : a.eval = ev e := by
 funext x
 cases x with
 | tmp t => exact h.val t
 | const => rfl
 | global => rfl
 | func => rfl
theorem Rep.put (h : Rep n ds a e) (o : Option Nat) (hd : dOk n o = true) : Rep n ds (a.put o v) (updo e o v) := by
 cases o with
 | none => exact h
 | some d =>
  have hlt : d < n := by simpa [dOk, Nat.blt_eq] using hd
  refine ⟨by simp [Act.put, h.size], h.defers, fun t => ?_⟩
  by_cases ht : t = d
  ·subst ht
   simp only [updo, upd_same, Act.put, Array.getD_eq_getD_getElem?, Array.getElem?_setIfInBounds]
   simp [h.size, hlt]
  ·simp only [updo, upd_ne e v ht, ← h.val t, Act.put, Array.getD_eq_getD_getElem?, Array.getElem?_setIfInBounds]
   rw [if_neg (Ne.symm ht)]
end
abbrev Blk := Nat × Obj
structure Ctx where
 P : Program
 w0 : World
 ds : List Deferred := []
 out : List Deferred := []
def Ctx.at (C : Ctx) (ds : List Deferred) : Ctx := ⟨C.P, C.w0, ds, C.out⟩
def Ctx.inner (C : Ctx) : Ctx := ⟨C.P, C.w0, [], C.ds ++ C.out⟩
structure HOk (N : Nat) (w : World) (H : List Blk) : Prop where
 mem : ∀ x ∈ H, N ≤ x.1 ∧ w.heap[x.1]? = some x.2
 nodup : (H.map Prod.fst).Nodup
 kind : ∀ x ∈ H, x.2 ≠ .deferred (some [])
def Mk (ds : List Deferred) (N : Nat) (w : World) : Prop := ds.Nodup ∧ ∀ d ∈ ds, ∃ D, d = { target := .collected D, args := #[] } ∧ N ≤ D ∧ w.heap[D]? = some (.deferred (some []))
structure St (C : Ctx) (H : List Blk) (w : World) : Prop where
 below : Below C.w0.heap.size C.w0 w
 hok : HOk C.w0.heap.size w H
 marks : Mk (C.ds ++ C.out) C.w0.heap.size w
theorem Mk.nil {N : Nat} {w : World} : Mk [] N w := ⟨List.nodup_nil, fun d h => (by cases h)⟩
theorem Mk.below {ds : List Deferred} {N : Nat} {w w' : World} (h : Mk ds N w) (hb : Below w.heap.size w w') : Mk ds N w' := ⟨h.1, fun d hd => by
 obtain ⟨D, h1, h2, h3⟩ := h.2 d hd
 exact ⟨D, h1, h2, (hb.block D (Array.getElem?_eq_some_iff.1 h3).1).trans h3⟩⟩
theorem Mk.drew {ds : List Deferred} {N : Nat} {w : World} (h : Mk ds N w) : Mk ds N w.drew := h
theorem HOk.nil (N : Nat) (w : World) : HOk N w [] := ⟨fun x h => (by cases h), List.nodup_nil, fun x h => (by cases h)⟩
theorem HOk.lt {N : Nat} {w : World} {H : List Blk} (h : HOk N w H) : ∀ x ∈ H, x.1 < w.heap.size := fun x hx => by
 have := (h.mem x hx).2
 exact (Array.getElem?_eq_some_iff.1 this).1
theorem HOk.grow {N : Nat} {w w' : World} {H Hn : List Blk} (h : HOk N w H) (hN : N ≤ w.heap.size) (hb : Below w.heap.size w w') (hn : HOk w.heap.size w' Hn) : HOk N w' (Hn ++ H) := by
 refine ⟨fun x hx => ?_, ?_, fun x hx => (List.mem_append.1 hx).elim (hn.kind x) (h.kind x)⟩
 ·rcases List.mem_append.1 hx with hx | hx
  ·exact ⟨Nat.le_trans hN (hn.mem x hx).1, (hn.mem x hx).2⟩
  ·exact ⟨(h.mem x hx).1, (hb.block x.1 (h.lt x hx)).trans (h.mem x hx).2⟩
 ·rw [List.map_append, List.nodup_append]
  refine ⟨hn.nodup, h.nodup, fun a ha b hb' e => ?_⟩
  obtain ⟨x, hx, rfl⟩ := List.mem_map.1 ha
  obtain ⟨y, hy, rfl⟩ := List.mem_map.1 hb'
  have h1 := (hn.mem x hx).1
  have h2 := h.lt y hy
  omega
theorem HOk.sub {N : Nat} {w : World} {H H' : List Blk} (h : HOk N w H) (hs : H'.Sublist H) : HOk N w H' :=
 ⟨fun x hx => h.mem x (hs.mem hx), h.nodup.sublist (hs.map _), fun x hx => h.kind x (hs.mem hx)⟩
theorem St.grow {C : Ctx} {H Hn : List Blk} {w w' : World} (h : St C H w) (hb : Below w.heap.size w w') (hn : HOk w.heap.size w' Hn) : St C (Hn ++ H) w' :=
 ⟨h.1.trans (hb.mono h.1.size), h.2.grow h.1.size hb hn, h.3.below hb⟩
theorem St.drew {C : Ctx} {H : List Blk} {w : World} (h : St C H w) : St C H w.drew := ⟨h.1.drew, ⟨h.2.mem, h.2.nodup, h.2.kind⟩, h.3.drew⟩
theorem St.get {C : Ctx} {H : List Blk} {w : World} (h : St C H w) {i b : Nat} {o : Obj} (hi : H[i]? = some (b, o)) : w.heap[b]? = some o :=
 (h.2.mem (b, o) (List.mem_of_getElem? hi)).2
def Out (R : Value → List Blk → Prop) (v : Value) (w w' : World) : Prop := ∃ Hn, Below w.heap.size w w' ∧ HOk w.heap.size w' Hn ∧ R v Hn
def OutRes (P : Program) (R : Value → List Blk → Prop) (w : World) : Result Next → Prop
 | .ok (.value v) w' => Out R v w w'
 | .ok .skip w' => Out R undef w w'
 | .ok (.enter f args) w' => w' = w ∧ Calls P f args w fun en w'' => ∃ v, en = .returned v ∧ Out R v w w''
 | _ => False
def YR (C : Ctx) (o : Oper) (e : Env) (H : List Blk) (R : Value → List Blk → Prop) : Prop :=
 ∀ w, St C H w → OutRes C.P R w ((execOp (ev e) o).run C.P w)
def Ct (P : Program) (f : FuncId) (args : Array Value) (w : World) (R : Value → List Blk → Prop) : Prop :=
 Calls P f args w fun en w' => ∃ v, en = .returned v ∧ Out R v w w'
theorem Ct.mono {P : Program} {f : FuncId} {args : Array Value} {w : World} {R R' : Value → List Blk → Prop} (h : Ct P f args w R) (hr : ∀ v Hn, R v Hn → R' v Hn)  : Ct P f args w R' :=
 Calls.mono h fun _ _ ⟨v, he, Hn, h1, h2, h3⟩ => ⟨v, he, Hn, h1, h2, hr _ _ h3⟩
def lift (C : Ctx) (n : Nat) (ds : List Deferred) (Q : Exit → Env → List Blk → Prop) : Exit → Act → World → Prop :=
 fun x a w => ∃ e H, Rep n ds a e ∧ St C H w ∧ Q x e H
structure Wide (F : Fence) : Prop where
 fn : ∀ f, F.fn f
 depth : F.depth = none
 alive : F.alive = false
theorem wide_wide : Wide Fence.wide := ⟨fun _ => trivial, rfl, rfl⟩
theorem wide_inRound {F : Fence} (h : Wide F) (l : Nat) : Wide (F.inRound l) := ⟨h.fn, h.depth, h.alive⟩
theorem Wide.fenced {F : Fence} (hF : Wide F) (P : Program) (m : Machine) : Machine.fenced P F m :=
 fun g _ => ⟨fun h => (by rw [hF.alive] at h; cases h), .inl (hF.fn _), fun f _ => hF.fn f, fun d hd => by rw [hF.depth] at hd; cases hd⟩
theorem Wide.room {F : Fence} (hF : Wide F) (k : Nat) : F.room k := fun d hd => by rw [hF.depth] at hd; cases hd
def liftM (C : Ctx) (n : Nat) (Q : Exit → Env → List Blk → Prop) : Exit → Act → World → Prop :=
 fun x a w => ∃ ds e H, Rep n ds a e ∧ St (C.at ds) H w ∧ Q x e H
theorem lift_M {C : Ctx} {n : Nat} {ds : List Deferred} {Q : Exit → Env → List Blk → Prop} {x : Exit} {a : Act} {w : World} (h : lift (C.at ds) n ds Q x a w) : liftM C n Q x a w := by
 obtain ⟨e, H, h1, h2, h3⟩ := h
 exact ⟨ds, e, H, h1, h2, h3⟩
def W (C : Ctx) (F : Fence) (n : Nat) (_ds : List Deferred) (c : Code) (Q : Exit → Env → List Blk → Prop) (e : Env) (H : List Blk) : Prop :=
 ∀ ds w, St (C.at ds) H w → ∀ a, Rep n ds a e → c.wpIn F 0 C.P (liftM C n Q) a w
def Then (K : Env → List Blk → Prop) (Q : Exit → Env → List Blk → Prop) : Exit → Env → List Blk → Prop
 | .normal, e, H => K e H
 | x, e, H => Q x e H
def InB (id : Nat) (Q : Exit → Env → List Blk → Prop) : Exit → Env → List Blk → Prop
 | .exit i, e, H => if i = id then Q .normal e H else Q (.exit i) e H
 | x, e, H => Q x e H
section
variable {C : Ctx} {F : Fence} {n : Nat} {ds : List Deferred} {Q Q' : Exit → Env → List Blk → Prop} {e : Env} {H : List Blk}
theorem W_seq {x y : Code} (h : W C F n ds x (Then (W C F n ds y Q) Q) e H) : W C F n ds (.seq x y) Q e H := fun dd w hw a ha => by
 refine wpIn_seq (wpIn_mono (h dd w hw a ha) ?_)
 rintro x' a' w' ⟨d', e', H', h1, h2, h3⟩
 cases x' with
 | normal => exact h3 d' w' h2 a' h1
 | _ => exact ⟨d', e', H', h1, h2, h3⟩
theorem W_skip (h : Q .normal e H) : W C F n ds .skip Q e H := fun dd _ hw _ ha => wpIn_skip ⟨dd, e, H, ha, hw, h⟩
theorem W_ret (h : Q .ret e H) : W C F n ds .ret Q e H := fun dd _ hw _ ha => wpIn_ret ⟨dd, e, H, ha, hw, h⟩
theorem W_exit {id : Nat} (h : Q (.exit id) e H) : W C F n ds (.exit id) Q e H := fun dd _ hw _ ha => wpIn_exit ⟨dd, e, H, ha, hw, h⟩
theorem W_label {l : Nat} (h : Q .normal e H) : W C F n ds (.label l) Q e H := fun dd _ hw _ ha => wpIn_label ⟨dd, e, H, ha, hw, h⟩
theorem W_block {id : Nat} {c : Code} (h : W C F n ds c (InB id Q) e H) : W C F n ds (.block id c) Q e H := fun dd w hw a ha => by
 refine wpIn_block (wpIn_mono (h dd w hw a ha) ?_)
 rintro x' a' w' ⟨d', e', H', h1, h2, h3⟩
 cases x' with
 | exit i =>
  simp only [InB] at h3
  simp only [Exit.inBlock]
  split
  ·rename_i hi; rw [if_pos hi] at h3; exact ⟨d', e', H', h1, h2, h3⟩
  ·rename_i hi; rw [if_neg hi] at h3; exact ⟨d', e', H', h1, h2, h3⟩
 | _ => exact ⟨d', e', H', h1, h2, h3⟩
theorem W_cond {c : Operand} {x y : Code} {b : Bool} (hc : ev e c = .bool b) (ht : b = true → W C F n ds x Q e H) (hf : b = false → W C F n ds y Q e H) :
  W C F n ds (.cond c x y) Q e H := fun dd w hw a ha => by
 refine wpIn_cond_split (t := b) (by rw [ha.eval]; exact hc) (fun h => ht h dd w hw a ha) (fun h => hf h dd w hw a ha)
def sets (e : Env) : List (Nat × Value) → Env
 | [] => e
 | (d, v) :: l => upd (sets e l) d v
def Slots (e : Env) : List (Nat × Value) → Prop
 | [] => True
 | (d, v) :: l => e d = v ∧ Slots e l
theorem Slots.sets {e : Env} : ∀ {l : List (Nat × Value)}, Slots e l → sets e l = e
 | [], _ => rfl
 | (d, v) :: l, h => by
  have h1 : e d = v := h.1
  simp only [Eng.sets, Slots.sets h.2]
  rw [← h1, upd_eta]
def LoopPost {γ : Type} (I : γ → Prop) (L : γ → List (Nat × Value)) (B : γ → List Blk) (μ : γ → Nat) (m : Nat) (Q : Exit → Env → List Blk → Prop) : Exit → Env → List Blk → Prop :=
 Then (fun e H => ∃ g, I g ∧ Slots e (L g) ∧ (B g).Sublist H ∧ μ g < m) Q
theorem W_loop {c : Code} {γ : Type} (I : γ → Prop) (L : γ → List (Nat × Value)) (B : γ → List Blk) (μ : γ → Nat) (g0 : γ)
  (hI : I g0) (hL : Slots e (L g0)) (hB : (B g0).Sublist H)
  (round : ∀ g e, I g → W C F n ds c (LoopPost I L B μ (μ g) Q) (sets e (L g)) (B g)) : W C F n ds (.loop c) Q e H := fun dd w hw a ha => by
 refine wpIn_loop_ghost (fun m a w => ∃ g dd e H, μ g = m ∧ I g ∧ Slots e (L g) ∧ (B g).Sublist H ∧ St (C.at dd) H w ∧ Rep n dd a e) (μ g0) ⟨g0, dd, e, H, rfl, hI, hL, hB, hw, ha⟩ ?_
 rintro m a w ⟨g, dd, e, H, rfl, hI, hL, hB, hw, ha⟩
 have h := round g e hI dd w ⟨hw.1, hw.2.sub hB, hw.3⟩ a (by rw [hL.sets]; exact ha)
 refine wpIn_mono h ?_
 rintro x a' w' ⟨d', e', H', h1, h2, h3⟩
 cases x with
 | normal =>
  obtain ⟨g', i1, i2, i3, i4⟩ := h3
  exact ⟨μ g', i4, g', d', e', H', rfl, i1, i2, i3, h2, h1⟩
 | _ => exact ⟨d', e', H', h1, h2, h3⟩
def gdOf (all : Array Oper) (e : Env) (o : Oper) : Option Bool :=
 match o.guard with
 | none => some true
 | some (j, want) =>
  match (all[j]?).bind (·.dst) with
  | some d =>
   match e d with
   | .bool b => some (b == want)
   | .tuple _ => some false
   | _ => none
  | none => none
theorem gd_wanted {all : Array Oper} {o : Oper} {a : Act} {b : Bool} (ha : Rep n ds a e) (h : gdOf all e o = some b) (hd : ∀ j w d, o.guard = some (j, w) → (all[j]?).bind (·.dst) = some d → d < n) :
  Region.wanted o (yielded all a.tmps) = b := by
 unfold gdOf at h
 unfold Region.wanted
 split at h
 ·rename_i hg; rw [hg]; simpa using h
 ·rename_i j want hg
  rw [hg]
  simp only [yielded]
  split at h
  ·rename_i d hdst
   have hlt := hd j want d hg hdst
   have hv := ha.val d
   rw [Array.getD_eq_getD_getElem?, Array.getElem?_eq_getElem (by rw [ha.size]; exact hlt)] at hv
   simp only [Option.getD_some] at hv
   rw [hdst]
   simp only [Option.bind_some, Array.getElem?_eq_getElem (show d < a.tmps.size by rw [ha.size]; exact hlt), hv]
   split at h
   ·rename_i b' hb
    rw [hb]
    simp only [Option.some.injEq] at h
    rw [← h]
    cases b' <;> cases want <;> rfl
   ·rename_i hb
    rw [hb]
    simp only [Option.some.injEq] at h
    rw [← h]; rfl
   ·cases h
  ·cases h
def WS (C : Ctx) (F : Fence) (n : Nat) (ds : List Deferred) (all : Array Oper) (Q : Exit → Env → List Blk → Prop) (l : List Oper) (e : Env) (H : List Blk) : Prop :=
 ∀ w, St C H w → ∀ a, Rep n ds a e → wpListIn F 0 C.P all (lift C n ds Q) l a w
theorem W_region_lit {id : Nat} {l : List Oper} (h : ∀ ds, WS (C.at ds) F n ds l.toArray Q l e H) : W C F n ds (.region id l.toArray false) Q e H :=
 fun dd w hw a ha => wpIn_mono (wpIn_region_lit (h dd w hw a ha)) fun _ _ _ h => lift_M h
variable {all : Array Oper} {rest : List Oper} {o : Oper}
theorem WS_nil (h : Q .normal e H) : WS C F n ds all Q [] e H := fun _ hw _ ha => wpListIn_nil ⟨e, H, ha, hw, h⟩
theorem WS_weak {H' : List Blk} (hs : H'.Sublist H) (h : WS C F n ds all Q rest e H') : WS C F n ds all Q rest e H :=
 fun w hw a ha => h w ⟨hw.1, hw.2.sub hs, hw.3⟩ a ha
theorem WS_split (d : Nat) {b : Bool} (hb : e d = .bool b) (ht : b = true → WS C F n ds all Q rest (upd e d (.bool true)) H) (hf : b = false → WS C F n ds all Q rest (upd e d (.bool false)) H) :
  WS C F n ds all Q rest e H := by
 cases b with
 | true => have := ht rfl; rw [← hb, upd_eta] at this; exact this
 | false => have := hf rfl; rw [← hb, upd_eta] at this; exact this
def gOk (n : Nat) (all : Array Oper) (o : Oper) : Bool :=
 match o.guard with
 | none => true
 | some (j, _) => match (all[j]?).bind (·.dst) with
  | some d => Nat.blt d n
  | none => false
theorem gOk_lt (h : gOk n all o = true) : ∀ j w d, o.guard = some (j, w) → (all[j]?).bind (·.dst) = some d → d < n := by
 intro j w d hg hd
 unfold gOk at h
 rw [hg] at h
 simp only [hd] at h
 simpa using h
def noDefer (o : Oper) : Bool := match o.op with | .defer _ => false | _ => true
theorem semAt_of {ro : Option Nat} {ρ : Operand → Value} (h : noDefer o = true) : o.semAt ro ρ = execOp ρ o :=
 Oper.semAt_eq ro ρ o fun c hc => by simp [noDefer, hc] at h
theorem calls_in {P : Program} {f : FuncId} {args : Array Value} {w : World} {R : Ending → World → Prop} (hF : Wide F) (h : Calls P f args w R) : CallsIn F 0 P f args w R := by
 refine ⟨hF.fn f, fun cs _ => ?_⟩
 obtain ⟨en, w', fr, h1, h2, h3⟩ := h cs
 refine ⟨en, w', fr, h1, ?_, h3⟩
 cases en with
 | outgrown => exact h2
 | _ => exact StepsIn.mono (fun m _ => hF.fenced P m) (StepsIn.of_steps h2)
theorem calls_of_in {P : Program} {f : FuncId} {args : Array Value} {w : World} {R : Ending → World → Prop} (hF : Wide F) {k : Nat} (h : CallsIn F k P f args w R) : Calls P f args w R :=
 h.calls hF.room
theorem uponIn_of (hF : Wide F) {R : Value → List Blk → Prop} {P : Program} {w : World} {a : Act} {K : Act → World → Prop} {QQ : Exit → Act → World → Prop} {r : Result Next}
  (h : OutRes P R w r) (hk : ∀ v w', Out R v w w' → K (a.put o.dst v) w') : o.uponIn F 0 P a K QQ r := by
 cases r with
 | ok x w' =>
  cases x <;> simp only [OutRes] at h
  case value v => exact hk _ _ h
  case skip => exact hk _ _ h
  case enter f args =>
   obtain ⟨rfl, h⟩ := h
   refine ⟨fun hd => (by rw [hF.depth] at hd; cases hd), calls_in hF (Calls.mono h ?_)⟩
   rintro en w'' ⟨v, rfl, h'⟩
   exact hk _ _ h'
 | halt x w' => exact h.elim
theorem wpIn_of (hF : Wide F) (hn : noDefer o = true) {R : Value → List Blk → Prop} {w : World} {a : Act} {K : Act → World → Prop} {QQ : Exit → Act → World → Prop}
  (ha : Rep n ds a e) (hw : St C H w) (h : YR C o e H R) (hk : ∀ v w', Out R v w w' → K (a.put o.dst v) w') : o.wpIn F 0 C.P a w K QQ := by
 refine ⟨fun f _ => hF.fn f, ?_⟩
 rw [semAt_of hn, ha.eval]
 exact uponIn_of hF (h w hw) hk
theorem WS_step (hF : Wide F) (hn : noDefer o = true) (hg : gdOf all e o = some true) (hgo : gOk n all o = true) (hd : dOk n o.dst = true) {R : Value → List Blk → Prop} (hy : YR C o e H R)
  (hk : ∀ v Hn, R v Hn → WS C F n ds all Q rest (updo e o.dst v) (Hn ++ H)) : WS C F n ds all Q (o :: rest) e H := fun w hw a ha => by
 have hwant := gd_wanted ha hg (gOk_lt hgo)
 unfold wpListIn
 rw [if_pos hwant]
 refine wpIn_of hF hn ha hw hy ?_
 rintro v w' ⟨Hn, h1, h2, h3⟩
 exact hk v Hn h3 w' (hw.grow h1 h2) _ (ha.put o.dst hd)
theorem WS_skip (hF : Wide F) (hg : gdOf all e o = some false) (hgo : gOk n all o = true) (hd : dOk n o.dst = true)
  (hk : WS C F n ds all Q rest (updo e o.dst undef) H) : WS C F n ds all Q (o :: rest) e H := fun w hw a ha => by
 have hwant := gd_wanted ha hg (gOk_lt hgo)
 unfold wpListIn
 rw [if_neg (by simp [hwant])]
 exact ⟨fun f _ => hF.fn f, hk w hw _ (ha.put o.dst hd)⟩
end
end Go.Eng
namespace Go.Eng
open Go.RowKit
structure Un where
 slot : Nat
 deps : List Nat
 R : Env → Value → List Blk → Prop
 deps' : List Nat
 R' : Env → Value → List Blk → Prop
def Cong (deps : List Nat) (R : Env → Value → List Blk → Prop) : Prop := ∀ e e' : Env, (∀ t ∈ deps, e t = e' t) → ∀ v Hn, R e v Hn → R e' v Hn
inductive Sp where
 | det (c : Value)
 | skip
 | new (deps : List Nat) (R : Env → Value → List Blk → Prop) (deps' : List Nat) (R' : Env → Value → List Blk → Prop)
 | st (d : Nat)
def nextE (o : Oper) (sp : Sp) (e : Env) : Env :=
 match sp with
 | .det c => updo e o.dst c
 | .skip => updo e o.dst undef
 | _ => e
def nextU (o : Oper) (sp : Sp) (us : List Un) : List Un :=
 match sp, o.dst with
 | .new deps R deps' R', some d => ⟨d, deps, R, deps', R'⟩ :: us
 | _, _ => us
def Over (ts : List Nat) (K : Env → List Blk → Prop) : List Un → Env → List Blk → Prop
 | [], e, H => K e H
 | u :: us, e, H => (u.slot ∈ ts → Over (ts ++ u.deps) (fun e H => ∀ v Hn, u.R e v Hn → K (upd e u.slot v) (Hn ++ H)) us e H) ∧ (u.slot ∉ ts → Over ts K us e H)
def OverAll (K : Env → List Blk → Prop) (G : Env → Prop) : List Un → Env → List Blk → Prop
 | [], e, H => G e → K e H
 | u :: us, e, H => ∀ v Hn, OverAll K (fun e' => G e' ∧ u.R' e' v Hn) us (upd e u.slot v) (Hn ++ H)
structure Swap (Hn Hn' : List Blk) (w w' : World) : Prop where
 names : Hn'.map Prod.fst = Hn.map Prod.fst
 os : w'.os = w.os
 tape : w'.tape = w.tape
 output : w'.output = w.output
 size : w'.heap.size = w.heap.size
 other : ∀ k, k ∉ Hn.map Prod.fst → w'.heap[k]? = w.heap[k]?
 mem : ∀ x ∈ Hn', w'.heap[x.1]? = some x.2
 kind : ∀ x ∈ Hn', x.2 ≠ .deferred (some [])
def StoreOk (C : Ctx) (o : Oper) (e : Env) (H : List Blk) (u : Un) : Prop :=
 ∀ v Hn, u.R e v Hn → ∀ w, St C (Hn ++ H) w → ∃ w' Hn', (execOp (ev (upd e u.slot v)) o).run C.P w = .ok .skip w' ∧ Swap Hn Hn' w w' ∧ u.R' e v Hn'
def gLooks (all : Array Oper) (o : Oper) : List Nat :=
 match o.guard with
 | some (g, _) => ((all[g]?).bind (·.dst)).toList
 | none => []
def Ob (C : Ctx) (all : Array Oper) (S : List Nat) (o : Oper) (sp : Sp) (us : List Un) (e : Env) (H : List Blk) : Prop :=
 match sp with
 | .det c => gdOf all e o = some true ∧ (∀ u ∈ us, u.slot ∉ gLooks all o) ∧ (∀ u ∈ us, u.slot ∈ o.looksAt all → u.slot ∉ S) ∧ Over (o.looksAt all) (fun e H => YR C o e H fun v _ => v = c) us e H
 | .skip => gdOf all e o = some false ∧ (∀ u ∈ us, u.slot ∉ gLooks all o)
 | .new deps R deps' R' => gdOf all e o = some true ∧ (∀ u ∈ us, u.slot ∉ gLooks all o) ∧ (∀ u ∈ us, u.slot ∈ o.looksAt all → u.slot ∉ S) ∧ (∃ d, o.dst = some d ∧ (d ∉ S → R' = R ∧ deps' = deps)) ∧
   Over (o.looksAt all) (fun e H => YR C o e H (R e)) us e H ∧ (∀ t ∈ deps, t ∈ o.looksAt all ∧ ∃ u ∈ us, u.slot = t) ∧ Cong deps R ∧ Cong deps' R'
 | .st d => o.dst = none ∧ o.guard = none ∧ (d ∈ S ∧ ((o.looksAt all).contains d || all.all fun o' => o'.dst != some d) = true) ∧ (∃ u ∈ us, u.slot = d ∧ u.deps = [] ∧ (∀ t ∈ u.deps', t ∈ o.looksAt all ∧ t ≠ d ∧ ∃ u' ∈ us, u'.slot = t) ∧ Over (o.looksAt all) (fun e H => StoreOk C o e H u) (us.filter fun x => x.slot != d) e H) ∧
   (∀ u ∈ us, u.slot ≠ d → u.slot ∈ o.looksAt all → u.slot ∉ S)
def PW (C : Ctx) (all : Array Oper) (S : List Nat) (K : List Un → Env → Prop) (H : List Blk) : List Oper → List Nat → List Un → Env → Prop
 | [], done, us, e => (∀ d ∈ S, d ∈ done) ∧ K us e
 | o :: rest, done, us, e => ∃ sp, Ob C all S o sp us e H ∧ (∀ d, sp = .st d → d ∉ done) ∧ PW C all S K H rest (match sp with | .st d => d :: done | _ => done) (nextU o sp us) (nextE o sp e)
def edge (all : Array Oper) (i j : Nat) : Bool := ((all[i]?).map fun o => o.after.any fun e => e.on == j && Region.binds .any e).getD false
def pairOk (all : Array Oper) (us : List Nat) (i j : Nat) : Bool :=
 match all[i]?, all[j]? with
 | some oi, some oj =>
  match oj.dst with
  | none => true
  | some d => !us.contains d && (if i = j then !(oi.looksAt all).contains d else (oi.dst != some d && (!(oi.looksAt all).contains d || (if j < i then edge all i j else edge all j i))))
 | _, _ => true
def phased (all : Array Oper) (us : List Nat) : Bool :=
 ((List.range all.size).all fun i => (List.range all.size).all fun j => pairOk all us i j) &&
 ((List.range all.size).all fun i => (all[i]?.map fun o => o.after.all fun e => !Region.binds .any e || Nat.blt e.on i).getD true) &&
 all.all fun o => us.all (fun d => !(o.looksAt all).contains d) && (match o.op with | .select .. => false | .defer _ => false | _ => true)
def EAt (ops : List Oper) (sps : List Sp) (e0 : Env) : Nat → Env
 | 0 => e0
 | i + 1 => match ops[i]?, sps[i]? with
  | some o, some sp => nextE o sp (EAt ops sps e0 i)
  | _, _ => EAt ops sps e0 i
def UAt (ops : List Oper) (sps : List Sp) (us0 : List Un) : Nat → List Un
 | 0 => us0
 | i + 1 => match ops[i]?, sps[i]? with
  | some o, some sp => nextU o sp (UAt ops sps us0 i)
  | _, _ => UAt ops sps us0 i
theorem EAt_cons (o : Oper) (ops : List Oper) (sp : Sp) (sps : List Sp) (e0 : Env) : ∀ i, EAt (o :: ops) (sp :: sps) e0 (i + 1) = EAt ops sps (nextE o sp e0) i
 | 0 => rfl
 | i + 1 => by
  have ih := EAt_cons o ops sp sps e0 i
  show (match (o :: ops)[i + 1]?, (sp :: sps)[i + 1]? with | some o', some sp' => nextE o' sp' (EAt (o :: ops) (sp :: sps) e0 (i + 1)) | _, _ => EAt (o :: ops) (sp :: sps) e0 (i + 1)) = _
  rw [ih]; simp only [List.getElem?_cons_succ]; rfl
theorem UAt_cons (o : Oper) (ops : List Oper) (sp : Sp) (sps : List Sp) (u0 : List Un) : ∀ i, UAt (o :: ops) (sp :: sps) u0 (i + 1) = UAt ops sps (nextU o sp u0) i
 | 0 => rfl
 | i + 1 => by
  have ih := UAt_cons o ops sp sps u0 i
  show (match (o :: ops)[i + 1]?, (sp :: sps)[i + 1]? with | some o', some sp' => nextU o' sp' (UAt (o :: ops) (sp :: sps) u0 (i + 1)) | _, _ => UAt (o :: ops) (sp :: sps) u0 (i + 1)) = _
  rw [ih]; simp only [List.getElem?_cons_succ]; rfl
theorem PW_specs {C : Ctx} {all : Array Oper} {S : List Nat} {K : List Un → Env → Prop} {H : List Blk} : ∀ {l : List Oper} {done : List Nat} {us : List Un} {e : Env}, PW C all S K H l done us e →
  ∃ sps : List Sp, sps.length = l.length ∧ (∀ i o sp, l[i]? = some o → sps[i]? = some sp → Ob C all S o sp (UAt l sps us i) (EAt l sps e i) H) ∧
   (∀ (i j d : Nat), sps[i]? = some (Sp.st d) → sps[j]? = some (Sp.st d) → i = j) ∧ (∀ (i d : Nat), sps[i]? = some (Sp.st d) → d ∉ done) ∧
   (∀ d ∈ S, d ∈ done ∨ ∃ i : Nat, sps[i]? = some (Sp.st d)) ∧ K (UAt l sps us l.length) (EAt l sps e l.length)
 | [], done, us, e, h => ⟨[], rfl, fun i o sp h => by simp at h, fun i j d h => by simp at h, fun i d h => by simp at h, fun d hd => Or.inl (h.1 d hd), h.2⟩
 | o :: rest, done, us, e, h => by
  obtain ⟨sp, hob, hdone, hrest⟩ := h
  obtain ⟨sps, h1, h2, h3, h4, h5, h6⟩ := PW_specs hrest
  refine ⟨sp :: sps, by simp [h1], ?_, ?_, ?_, ?_, ?_⟩
  ·intro i o' sp' ho hs
   cases i with
   | zero =>
    simp only [List.getElem?_cons_zero, Option.some.injEq] at ho hs
    subst ho; subst hs
    exact hob
   | succ i =>
    simp only [List.getElem?_cons_succ] at ho hs
    rw [EAt_cons, UAt_cons]
    exact h2 i o' sp' ho hs
  ·have key : ∀ (j d : Nat), (sp :: sps)[0]? = some (Sp.st d) → sps[j]? = some (Sp.st d) → False := fun j d a b => by
    simp only [List.getElem?_cons_zero, Option.some.injEq] at a
    subst a
    exact h4 j d b (List.mem_cons_self ..)
   intro i j d hi hj
   cases i with
   | zero =>
    cases j with
    | zero => rfl
    | succ j => exact (key j d hi (by simpa using hj)).elim
   | succ i =>
    cases j with
    | zero => exact (key i d hj (by simpa using hi)).elim
    | succ j => rw [h3 i j d (by simpa using hi) (by simpa using hj)]
  ·intro i d hi
   cases i with
   | zero =>
    simp only [List.getElem?_cons_zero, Option.some.injEq] at hi
    exact hdone d hi
   | succ i =>
    have := h4 i d (by simpa using hi)
    intro hd
    apply this
    cases sp <;> first | exact hd | exact List.mem_cons_of_mem _ hd
  ·intro d hd
   rcases h5 d hd with h | ⟨i, hi⟩
   ·cases sp with
    | st d' =>
     rcases List.mem_cons.1 h with rfl | h
     ·exact .inr ⟨0, by simp⟩
     ·exact .inl h
    | _ => exact .inl h
   ·exact .inr ⟨i + 1, by simpa using hi⟩
  ·rw [List.length_cons, EAt_cons, UAt_cons]; exact h6
end Go.Eng
namespace Go.Eng
open Go.RowKit
theorem HOk.perm {N : Nat} {w : World} {H H' : List Blk} (h : HOk N w H) (p : H'.Perm H) : HOk N w H' :=
 ⟨fun x hx => h.mem x (p.mem_iff.1 hx), (p.map Prod.fst).nodup_iff.2 h.nodup, fun x hx => h.kind x (p.mem_iff.1 hx)⟩
theorem St.perm {C : Ctx} {w : World} {H H' : List Blk} (h : St C H w) (p : H'.Perm H) : St C H' w := ⟨h.1, h.2.perm p, h.3⟩
theorem St.sub {C : Ctx} {w : World} {H H' : List Blk} (h : St C H w) (p : H'.Sublist H) : St C H' w := ⟨h.1, h.2.sub p, h.3⟩
def selL (ts : List Nat) : List Un → List Un
 | [] => []
 | u :: us => if u.slot ∈ ts then u :: selL (ts ++ u.deps) us else selL ts us
def selE (ea : Env) : List Un → Env → Env
 | [], e => e
 | u :: us, e => upd (selE ea us e) u.slot (ea u.slot)
def selH (Bs : Nat → List Blk) (us : List Un) (H : List Blk) : List Blk := us.flatMap (fun u => Bs u.slot) ++ H
def DepsOk : List Un → Prop
 | [] => True
 | u :: us => ((∀ t ∈ u.deps, ∃ u' ∈ us, u'.slot = t) ∧ Cong u.deps u.R) ∧ DepsOk us
theorem selL_sub (ts : List Nat) : ∀ us, (selL ts us).Sublist us
 | [] => List.Sublist.refl _
 | u :: us => by
  unfold selL
  split
  ·exact (selL_sub _ us).cons_cons u
  ·exact (selL_sub _ us).cons u
theorem selL_mem {t : Nat} : ∀ {ts : List Nat} {us : List Un}, t ∈ ts → (∃ u ∈ us, u.slot = t) → ∃ u ∈ selL ts us, u.slot = t
 | _, [], _, h => by obtain ⟨u, hu, _⟩ := h; cases hu
 | ts, u :: us, ht, h => by
  unfold selL
  by_cases hu : u.slot = t
  ·rw [if_pos (by rw [hu]; exact ht)]; exact ⟨u, List.mem_cons_self .., hu⟩
  ·have h' : ∃ u ∈ us, u.slot = t := by
    obtain ⟨u', hu', e'⟩ := h
    rcases List.mem_cons.1 hu' with rfl | hm
    ·exact absurd e' hu
    ·exact ⟨u', hm, e'⟩
   split
   ·obtain ⟨x, hx, he⟩ := selL_mem (ts := ts ++ u.deps) (List.mem_append_left _ ht) h'
    exact ⟨x, List.mem_cons_of_mem _ hx, he⟩
   ·exact selL_mem ht h'
theorem selE_same {ea : Env} : ∀ {us : List Un} {e : Env} {t : Nat}, e t = ea t → selE ea us e t = ea t
 | [], _, _, h => h
 | u :: us, e, t, h => by
  unfold selE
  by_cases ht : t = u.slot
  ·subst ht; rw [upd_same]
  ·rw [upd_ne _ _ ht]; exact selE_same h
theorem selE_in {ea : Env} : ∀ {us : List Un} {e : Env} {t : Nat}, (∃ u ∈ us, u.slot = t) → selE ea us e t = ea t
 | [], _, _, h => by obtain ⟨u, hu, _⟩ := h; cases hu
 | u :: us, e, t, h => by
  unfold selE
  by_cases ht : t = u.slot
  ·subst ht; rw [upd_same]
  ·rw [upd_ne _ _ ht]
   refine selE_in ?_
   obtain ⟨u', hu', e'⟩ := h
   rcases List.mem_cons.1 hu' with rfl | hm
   ·exact absurd e'.symm ht
   ·exact ⟨u', hm, e'⟩
theorem selH_ok {ts : List Nat} {Bs : Nat → List Blk} {N : Nat} {w : World} {us : List Un} {H : List Blk} (h : HOk N w (us.flatMap (fun u => Bs u.slot) ++ H)) : HOk N w (selH Bs (selL ts us) H) :=
 h.sub (List.Sublist.append_right (flatMap_sub _ (selL_sub ts us)) _)
where flatMap_sub {α β : Type} (f : α → List β) : ∀ {l l' : List α}, l.Sublist l' → (l.flatMap f).Sublist (l'.flatMap f)
 | _, _, .slnil => List.Sublist.refl _
 | _, _, .cons a h => by rw [List.flatMap_cons]; exact (flatMap_sub f h).trans (List.sublist_append_right _ _)
 | _, _, .cons_cons a h => by rw [List.flatMap_cons, List.flatMap_cons]; exact (List.Sublist.append_left (flatMap_sub f h) _)
def allH (Bs : Nat → List Blk) : List Un → List Blk → List Blk
 | [], H => H
 | u :: us, H => allH Bs us (Bs u.slot ++ H)
def allE (ea : Env) : List Un → Env → Env
 | [], e => e
 | u :: us, e => allE ea us (upd e u.slot (ea u.slot))
theorem allH_ok {Bs : Nat → List Blk} {N : Nat} {w : World} : ∀ {us : List Un} {H : List Blk}, HOk N w (us.flatMap (fun u => Bs u.slot) ++ H) → HOk N w (allH Bs us H)
 | [], _, h => h
 | u :: us, H, h => allH_ok (us := us) (h.perm (by
   rw [List.flatMap_cons, List.append_assoc]
   exact (List.perm_append_comm_assoc ..)))
theorem allE_same {ea : Env} : ∀ {us : List Un} {e : Env} {t : Nat}, e t = ea t → allE ea us e t = ea t
 | [], _, _, h => h
 | u :: us, e, t, h => by
  refine allE_same (us := us) ?_
  by_cases ht : t = u.slot
  ·subst ht; rw [upd_same]
  ·rw [upd_ne _ _ ht]; exact h
theorem allE_in {ea : Env} : ∀ {us : List Un} {e : Env} {t : Nat}, (∃ u ∈ us, u.slot = t) → allE ea us e t = ea t
 | [], _, _, h => by obtain ⟨u, hu, _⟩ := h; cases hu
 | u :: us, e, t, h => by
  by_cases hu : u.slot = t
  ·exact allE_same (us := us) (by rw [← hu, upd_same])
  ·refine allE_in (us := us) ?_
   obtain ⟨u', hu', e'⟩ := h
   rcases List.mem_cons.1 hu' with rfl | hm
   ·exact absurd e' hu
   ·exact ⟨u', hm, e'⟩
theorem Over_use {ea : Env} {Bs : Nat → List Blk} : ∀ {us : List Un} {ts : List Nat} {K : Env → List Blk → Prop} {e : Env} {H : List Blk}, Over ts K us e H → DepsOk us →
  (∀ u ∈ selL ts us, u.R ea (ea u.slot) (Bs u.slot)) → K (selE ea (selL ts us) e) (selH Bs (selL ts us) H)
 | [], _, _, _, _, h, _, _ => h
 | u :: us, ts, K, e, H, h, hd, hR => by
  unfold selL at hR ⊢
  by_cases hu : u.slot ∈ ts
  ·rw [if_pos hu] at hR ⊢
   have ih := Over_use (h.1 hu) hd.2 fun u' hu' => hR u' (List.mem_cons_of_mem _ hu')
   have := ih (ea u.slot) (Bs u.slot) (hd.1.2 ea _ (fun t ht => (selE_in (selL_mem (List.mem_append_right _ ht) (hd.1.1 t ht))).symm) _ _ (hR u (List.mem_cons_self ..)))
   simpa [selE, selH] using this
  ·rw [if_neg hu] at hR ⊢
   exact Over_use (h.2 hu) hd.2 hR
theorem OverAll_use {ea : Env} {Bs : Nat → List Blk} {K : Env → List Blk → Prop} : ∀ {us : List Un} {G : Env → Prop} {e : Env} {H : List Blk}, OverAll K G us e H → G ea →
  (∀ u ∈ us, u.R' ea (ea u.slot) (Bs u.slot)) → (allE ea us e = ea) → K ea (allH Bs us H)
 | [], _, _, _, h, hG, _, he => by
  have he' := he
  simp only [allE] at he'
  subst he'
  exact h hG
 | u :: us, G, e, H, h, hG, hR, he => OverAll_use (us := us) (h (ea u.slot) (Bs u.slot)) ⟨hG, hR u (List.mem_cons_self ..)⟩ (fun u' hu' => hR u' (List.mem_cons_of_mem _ hu')) he
theorem countP_lt {p p' : Nat → Bool} : ∀ {l : List Nat} {x : Nat}, x ∈ l → p x = true → p' x = false → (∀ y, p' y = true → p y = true) → l.countP p' < l.countP p
 | [], _, h, _, _, _ => by cases h
 | y :: l, x, h, h1, h2, h3 => by
  have hle : l.countP p' ≤ l.countP p := List.countP_mono_left fun z _ hz => h3 z hz
  rw [List.countP_cons, List.countP_cons]
  rcases List.mem_cons.1 h with rfl | hm
  ·simp only [h1, h2, if_true, Bool.false_eq_true, if_false]; omega
  ·have ih := countP_lt hm h1 h2 h3
   cases hy : p' y with
   | true => simp only [h3 y hy, if_true]; omega
   | false => simp only [Bool.false_eq_true, if_false]; omega
section
variable {ops : List Oper} {sps : List Sp} {e0 : Env} {us0 : List Un}
theorem UAt_suffix (i : Nat) : ∀ k, ∃ pre, UAt ops sps us0 (i + k) = pre ++ UAt ops sps us0 i
 | 0 => ⟨[], rfl⟩
 | k + 1 => by
  obtain ⟨pre, h⟩ := UAt_suffix i k
  show ∃ pre', (match ops[i + k]?, sps[i + k]? with | some o, some sp => nextU o sp (UAt ops sps us0 (i + k)) | _, _ => UAt ops sps us0 (i + k)) = pre' ++ _
  split
  ·unfold nextU
   split
   ·rename_i deps R deps' R' d _ _
    exact ⟨⟨d, deps, R, deps', R'⟩ :: pre, by rw [h]; rfl⟩
   ·exact ⟨pre, h⟩
  ·exact ⟨pre, h⟩
theorem UAt_mem {u : Un} : ∀ {i : Nat}, u ∈ UAt ops sps us0 i → u ∈ us0 ∨ ∃ (j : Nat) (o : Oper), j < i ∧ ops[j]? = some o ∧ sps[j]? = some (Sp.new u.deps u.R u.deps' u.R') ∧ o.dst = some u.slot
 | 0, h => .inl h
 | i + 1, h => by
  have h' : u ∈ (match ops[i]?, sps[i]? with | some o, some sp => nextU o sp (UAt ops sps us0 i) | _, _ => UAt ops sps us0 i) := h
  have up : u ∈ UAt ops sps us0 i → u ∈ us0 ∨ ∃ (j : Nat) (o : Oper), j < i + 1 ∧ ops[j]? = some o ∧ sps[j]? = some (Sp.new u.deps u.R u.deps' u.R') ∧ o.dst = some u.slot := fun hm => by
   rcases UAt_mem hm with h | ⟨j, o, hj, r⟩
   ·exact .inl h
   ·exact .inr ⟨j, o, by omega, r⟩
  split at h'
  ·rename_i o sp ho hs
   unfold nextU at h'
   split at h'
   ·rename_i deps R deps' R' d hd
    rcases List.mem_cons.1 h' with rfl | hm
    ·exact .inr ⟨i, o, by omega, ho, hs, hd⟩
    ·exact up hm
   ·exact up h'
  ·exact up h'
theorem mem_UAt {j : Nat} {o : Oper} {deps deps' : List Nat} {R R' : Env → Value → List Blk → Prop} {d : Nat} (ho : ops[j]? = some o) (hs : sps[j]? = some (Sp.new deps R deps' R')) (hd : o.dst = some d) :
  ∀ i, j < i → (⟨d, deps, R, deps', R'⟩ : Un) ∈ UAt ops sps us0 i := fun i hi => by
 obtain ⟨pre, h⟩ := UAt_suffix (ops := ops) (sps := sps) (us0 := us0) (j + 1) (i - (j + 1))
 rw [show j + 1 + (i - (j + 1)) = i by omega] at h
 rw [h]
 refine List.mem_append_right _ ?_
 show _ ∈ (match ops[j]?, sps[j]? with | some o, some sp => nextU o sp (UAt ops sps us0 j) | _, _ => UAt ops sps us0 j)
 rw [ho, hs]
 simp only [nextU, hd]
 exact List.mem_cons_self ..
theorem mem_UAt0 {u : Un} (h : u ∈ us0) (i : Nat) : u ∈ UAt ops sps us0 i := by
 obtain ⟨pre, h'⟩ := UAt_suffix (ops := ops) (sps := sps) (us0 := us0) 0 i
 rw [Nat.zero_add] at h'
 rw [h']
 exact List.mem_append_right _ h
theorem nextE_ne {o : Oper} {sp : Sp} {e : Env} {t : Nat} (h : o.dst ≠ some t) : nextE o sp e t = e t := by
 unfold nextE
 have key : ∀ v, updo e o.dst v t = e t := fun v => by
  cases hd : o.dst with
  | none => rfl
  | some d => exact upd_ne e v (fun ht => h (by rw [hd, ht]))
 split <;> first | exact key _ | rfl
theorem EAt_succ (i : Nat) : (∃ o sp, ops[i]? = some o ∧ sps[i]? = some sp ∧ EAt ops sps e0 (i + 1) = nextE o sp (EAt ops sps e0 i)) ∨ EAt ops sps e0 (i + 1) = EAt ops sps e0 i := by
 cases ho : ops[i]? with
 | none => exact .inr (by simp only [EAt, ho])
 | some o =>
  cases hs : sps[i]? with
  | none => exact .inr (by simp only [EAt, ho, hs])
  | some sp => exact .inl ⟨o, sp, rfl, rfl, by simp only [EAt, ho, hs]⟩
theorem EAt_out {t : Nat} : ∀ {i : Nat}, (∀ (j : Nat) (o : Oper), j < i → ops[j]? = some o → o.dst ≠ some t) → EAt ops sps e0 i t = e0 t
 | 0, _ => rfl
 | i + 1, h => by
  have ih := EAt_out (i := i) (t := t) fun j o hj => h j o om0
  rcases EAt_succ (ops := ops) (sps := sps) (e0 := e0) i with ⟨o, sp, ho, _, he⟩ | he
  ·rw [he, nextE_ne (h i o om0 ho)]; exact ih
  ·rw [he]; exact ih
theorem EAt_at {t j : Nat} {o : Oper} {sp : Sp} (ho : ops[j]? = some o) (hs : sps[j]? = some sp)
  (hx : ∀ (k : Nat) (o' : Oper), j < k → ops[k]? = some o' → o'.dst ≠ some t) : ∀ k, EAt ops sps e0 (j + 1 + k) t = nextE o sp (EAt ops sps e0 j) t
 | 0 => by simp only [EAt, ho, hs]
 | k + 1 => by
  have ih := EAt_at ho hs hx k
  rcases EAt_succ (ops := ops) (sps := sps) (e0 := e0) (j + 1 + k) with ⟨o', sp', ho', _, he⟩ | he
  ·rw [← Nat.add_assoc, he, nextE_ne (hx _ o' om0 ho')]; exact ih
  ·rw [← Nat.add_assoc, he]; exact ih
end
end Go.Eng
namespace Go.Eng
open Go.RowKit
structure PairSpec (ops : Array Oper) (us : List Nat) : Prop where
 us0 : ∀ (j : Nat) (oj : Oper) (d : Nat), ops[j]? = some oj → oj.dst = some d → d ∉ us
 self : ∀ (i : Nat) (o : Oper) (d : Nat), ops[i]? = some o → o.dst = some d → d ∉ o.looksAt ops
 uniq : ∀ (i j : Nat) (oi oj : Oper) (d : Nat), ops[i]? = some oi → ops[j]? = some oj → oi.dst = some d → oj.dst = some d → i = j
 before : ∀ (i j : Nat) (oi oj : Oper) (d : Nat), ops[i]? = some oi → ops[j]? = some oj → oj.dst = some d → d ∈ oi.looksAt ops → j < i → edge ops i j = true
 behind : ∀ (i j : Nat) (oi oj : Oper) (d : Nat), ops[i]? = some oi → ops[j]? = some oj → oj.dst = some d → d ∈ oi.looksAt ops → i < j → edge ops j i = true
 down : ∀ (i k : Nat), edge ops i k = true → k < i
 look : ∀ (i : Nat) (o : Oper), ops[i]? = some o → ∀ d ∈ us, d ∉ o.looksAt ops
 sel : ∀ (i : Nat) (o : Oper), ops[i]? = some o → ∀ cs b, o.op ≠ .select cs b
 ndef : ∀ (i : Nat) (o : Oper), ops[i]? = some o → noDefer o = true
theorem phased_spec {ops : Array Oper} {us : List Nat} (h : phased ops us = true) : PairSpec ops us := by
 unfold phased at h
 simp only [Bool.and_eq_true] at h
 obtain ⟨⟨h1, h2⟩, h3⟩ := h
 have lt : ∀ {i : Nat} {o : Oper}, ops[i]? = some o → i < ops.size := fun h => (Array.getElem?_eq_some_iff.1 h).1
 have pr : ∀ (i j : Nat), i < ops.size → j < ops.size → pairOk ops us i j = true := fun i j hi hj =>
  List.all_eq_true.1 (List.all_eq_true.1 h1 i (List.mem_range.2 hi)) j (List.mem_range.2 hj)
 have pr' : ∀ (i j : Nat) (oi oj : Oper) (d : Nat), ops[i]? = some oi → ops[j]? = some oj → oj.dst = some d →
   d ∉ us ∧ (if i = j then !(oi.looksAt ops).contains d else (oi.dst != some d && (!(oi.looksAt ops).contains d || (if j < i then edge ops i j else edge ops j i)))) = true := fun i j oi oj d hi hj hd => by
  have := pr i j (lt hi) (lt hj)
  unfold pairOk at this
  rw [hi, hj] at this
  simp only [hd, Bool.and_eq_true] at this
  exact ⟨by simpa using this.1, this.2⟩
 have h3' : ∀ (i : Nat) (o : Oper), ops[i]? = some o → (us.all (fun d => !(o.looksAt ops).contains d) && (match o.op with | .select .. => false | .defer _ => false | _ => true)) = true := fun i o ho => by
  rw [Array.all_eq_true] at h3
  have := h3 i (lt ho)
  rwa [(Array.getElem?_eq_some_iff.1 ho).2] at this
 refine ⟨?_, ?_, ?_, ?_, ?_, ?_, ?_, ?_, ?_⟩
 ·exact fun j oj d hj hd => (pr' j j oj oj d hj hj hd).1
 ·intro i o d ho hd
  have := (pr' i i o o d ho ho hd).2
  simpa using this
 ·intro i j oi oj d hi hj hdi hdj
  by_cases hij : i = j
  ·exact hij
  ·have := (pr' i j oi oj d hi hj hdj).2
   rw [if_neg hij] at this
   simp [hdi] at this
 ·intro i j oi oj d hi hj hdj hl hlt
  have := (pr' i j oi oj d hi hj hdj).2
  rw [if_neg om0] at this
  have hc : (oi.looksAt ops).contains d = true := by simpa using hl
  simp only [Bool.and_eq_true, hc, Bool.not_true, Bool.false_or, hlt, if_true] at this
  exact this.2
 ·intro i j oi oj d hi hj hdj hl hlt
  have := (pr' i j oi oj d hi hj hdj).2
  rw [if_neg om0] at this
  have hc : (oi.looksAt ops).contains d = true := by simpa using hl
  simp only [Bool.and_eq_true, hc, Bool.not_true, Bool.false_or, show ¬ j < i by omega, if_false] at this
  exact this.2
 ·intro i k hk
  have hi : i < ops.size := by
   unfold edge at hk
   cases ho : ops[i]? with
   | none => rw [ho] at hk; cases hk
   | some o => exact lt ho
  have := List.all_eq_true.1 h2 i (List.mem_range.2 hi)
  unfold edge at hk
  cases ho : ops[i]? with
  | none => rw [ho] at hk; cases hk
  | some o =>
   rw [ho] at hk this
   simp only [Option.map_some, Option.getD_some, Array.any_eq_true, Array.all_eq_true] at hk this
   obtain ⟨x, hx, he⟩ := hk
   have := this x hx
   simp only [Bool.and_eq_true, beq_iff_eq] at he
   rw [he.2, he.1] at this
   simpa using this
 ·intro i o ho d hd hl
  have := h3' i o ho
  simp only [Bool.and_eq_true, List.all_eq_true] at this
  have := this.1 d hd
  simp only [Bool.not_eq_true', List.contains_eq_mem, decide_eq_false_iff_not] at this
  exact this hl
 ·intro i o ho cs b hs
  have := h3' i o ho
  rw [hs] at this
  simp at this
 ·intro i o ho
  have := h3' i o ho
  unfold noDefer
  cases hop : o.op <;> first | rfl | (rw [hop] at this; simp at this)
section
variable {C : Ctx} {F : Fence} {n : Nat} {ds : List Deferred} {ops : Array Oper} {sps : List Sp} {e0 : Env} {us0 : List Un} {S : List Nat} {H0 : List Blk}
def Lst (listed : Array Bool) (i : Nat) : Prop := listed.getD i false = true
def Pres (ops : Array Oper) (us0 : List Un) (listed : Array Bool) (d : Nat) : Prop := (∃ u ∈ us0, u.slot = d) ∨ ∃ (i : Nat) (o : Oper), Lst listed i ∧ ops[i]? = some o ∧ o.dst = some d
def Stored (sps : List Sp) (listed : Array Bool) (d : Nat) : Prop := ∃ i : Nat, Lst listed i ∧ sps[i]? = some (Sp.st d)
structure Inv (C : Ctx) (n : Nat) (ds : List Deferred) (ops : Array Oper) (sps : List Sp) (e0 : Env) (us0 : List Un) (H0 : List Blk) (listed : Array Bool) (a : Act) (w : World) (ea : Env) (Bs : Nat → List Blk) : Prop where
 rep : Rep n ds a ea
 sz : listed.size = ops.size
 down : ∀ j k, Lst listed j → edge ops j k = true → Lst listed k
 det : ∀ (i : Nat) (o : Oper) (c : Value) (d : Nat), Lst listed i → ops[i]? = some o → sps[i]? = some (Sp.det c) → o.dst = some d → ea d = c
 skp : ∀ (i : Nat) (o : Oper) (d : Nat), Lst listed i → ops[i]? = some o → sps[i]? = some Sp.skip → o.dst = some d → ea d = undef
 opn : ∀ u ∈ UAt ops.toList sps us0 ops.size, Pres ops us0 listed u.slot → (Stored sps listed u.slot → u.R' ea (ea u.slot) (Bs u.slot)) ∧ (¬ Stored sps listed u.slot → u.R ea (ea u.slot) (Bs u.slot))
 absn : ∀ u ∈ UAt ops.toList sps us0 ops.size, ¬ Pres ops us0 listed u.slot → Bs u.slot = []
 unt : ∀ t, (∀ (i : Nat) (o : Oper), Lst listed i → ops[i]? = some o → o.dst ≠ some t) → ea t = e0 t
 mem : HOk C.w0.heap.size w ((UAt ops.toList sps us0 ops.size).flatMap (fun u => Bs u.slot) ++ H0)
 below : Below C.w0.heap.size C.w0 w
 marks : Mk (C.ds ++ C.out) C.w0.heap.size w
structure Hyp (C : Ctx) (n : Nat) (ops : Array Oper) (sps : List Sp) (e0 : Env) (us0 : List Un) (S : List Nat) (H0 : List Blk) : Prop where
 ps : PairSpec ops (us0.map (·.slot))
 dok : ∀ (i : Nat) (o : Oper), ops[i]? = some o → dOk n o.dst = true ∧ gOk n ops o = true
 len : sps.length = ops.size
 ob : ∀ (i : Nat) (o : Oper) (sp : Sp), ops[i]? = some o → sps[i]? = some sp → Ob C ops S o sp (UAt ops.toList sps us0 i) (EAt ops.toList sps e0 i) H0
 st1 : ∀ (i j d : Nat), sps[i]? = some (Sp.st d) → sps[j]? = some (Sp.st d) → i = j
 stS : ∀ d ∈ S, ∃ i : Nat, sps[i]? = some (Sp.st d)
 nd : (us0.map (·.slot)).Nodup
 dep0 : ∀ u ∈ us0, u.deps = [] ∧ Cong [] u.R ∧ Cong u.deps' u.R'
theorem lst_set {listed : Array Bool} {i j : Nat} (hi : i < listed.size) : Lst (listed.setIfInBounds i true) j ↔ j = i ∨ Lst listed j := by
 unfold Lst
 rw [Array.getD_eq_getD_getElem?, Array.getD_eq_getD_getElem?, Array.getElem?_setIfInBounds]
 by_cases h : i = j
 ·subst h; simp [hi]
 ·rw [if_neg h]; constructor
  ·exact .inr
  ·rintro (rfl | h')
   ·exact absurd rfl h
   ·exact h'
theorem Hyp.listGet (_h : Hyp C n ops sps e0 us0 S H0) {i : Nat} : ops.toList[i]? = ops[i]? := Array.getElem?_toList
theorem Hyp.slots_nodup (h : Hyp C n ops sps e0 us0 S H0) : ∀ i, i ≤ ops.size → ((UAt ops.toList sps us0 i).map (·.slot)).Nodup := by
 intro i
 induction i with
 | zero => intro _; exact h.nd
 | succ i ih =>
  intro hi
  have ih := ih om0
  have hs : i < sps.length := by rw [h.len]; omega
  have ho : ops[i]? = some ops[i] := Array.getElem?_eq_getElem om0
  have hsp : sps[i]? = some sps[i] := List.getElem?_eq_getElem hs
  simp only [UAt, h.listGet, ho, hsp]
  unfold nextU
  split
  ·rename_i deps R deps' R' d hspe hd
   simp only [List.map_cons, List.nodup_cons]
   refine ⟨fun hm => ?_, ih⟩
   obtain ⟨u, hu, hue⟩ := List.mem_map.1 hm
   rcases UAt_mem hu with hu0 | ⟨j, o, hj, ho', _, hd'⟩
   ·exact h.ps.us0 i _ d ho hd (List.mem_map.2 ⟨u, hu0, hue⟩)
   ·rw [h.listGet] at ho'
    have := h.ps.uniq i j _ o d ho ho' hd (by rw [hd', hue])
    omega
  ·exact ih
theorem slots_inj : ∀ {T : List Un}, (T.map (·.slot)).Nodup → ∀ {u u' : Un}, u ∈ T → u' ∈ T → u.slot = u'.slot → u = u'
 | [], _, _, _, hu, _, _ => by cases hu
 | x :: T, hn, u, u', hu, hu', he => by
  simp only [List.map_cons, List.nodup_cons] at hn
  rcases List.mem_cons.1 hu with h1 | h1
  ·rcases List.mem_cons.1 hu' with h2 | h2
   ·rw [h1, h2]
   ·exact absurd (List.mem_map.2 ⟨u', h2, by rw [← he, h1]⟩) hn.1
  ·rcases List.mem_cons.1 hu' with h2 | h2
   ·exact absurd (List.mem_map.2 ⟨u, h1, by rw [he, h2]⟩) hn.1
   ·exact slots_inj hn.2 h1 h2 he
theorem Hyp.slot_inj (h : Hyp C n ops sps e0 us0 S H0) {u u' : Un} (hu : u ∈ UAt ops.toList sps us0 ops.size) (hu' : u' ∈ UAt ops.toList sps us0 ops.size) (he : u.slot = u'.slot) : u = u' :=
 slots_inj (h.slots_nodup ops.size (Nat.le_refl _)) hu hu' he
theorem Hyp.spec_new (h : Hyp C n ops sps e0 us0 S H0) {i : Nat} {o : Oper} {deps deps' : List Nat} {R R' : Env → Value → List Blk → Prop} (ho : ops[i]? = some o) (hs : sps[i]? = some (Sp.new deps R deps' R')) : ∃ d, o.dst = some d ∧ (d ∉ S → R' = R ∧ deps' = deps) := (h.ob i o _ ho hs).2.2.2.1
theorem Hyp.agree (h : Hyp C n ops sps e0 us0 S H0) {listed : Array Bool} {a : Act} {w : World} {ea : Env} {Bs : Nat → List Blk} (I : Inv C n ds ops sps e0 us0 H0 listed a w ea Bs)
  {i : Nat} {o : Oper} (ho : ops[i]? = some o) (hni : ¬ Lst listed i) (hpre : ∀ k, edge ops i k = true → Lst listed k) {t : Nat} (ht : t ∈ o.looksAt ops)
  (hno : ∀ u ∈ UAt ops.toList sps us0 i, u.slot ≠ t) : ea t = EAt ops.toList sps e0 i t := by
 by_cases hex : ∃ (j : Nat) (oj : Oper), ops[j]? = some oj ∧ oj.dst = some t
 ·obtain ⟨j, oj, hj, hd⟩ := hex
  have hji : j ≠ i := fun e => by subst e; rw [ho] at hj; cases hj; exact h.ps.self j o t ho hd ht
  rcases Nat.lt_or_ge j i with hlt | hge
  ·have hL := hpre j (h.ps.before i j o oj t ho hj hd ht hlt)
   have hsj : sps[j]? = some (sps[j]'(by rw [h.len]; exact (Array.getElem?_eq_some_iff.1 hj).1)) := List.getElem?_eq_getElem _
   have hE := EAt_at (ops := ops.toList) (sps := sps) (e0 := e0) (t := t) (by rw [h.listGet]; exact hj) hsj
    (fun k o' hk ho' hd' => by rw [h.listGet] at ho'; have := h.ps.uniq k j o' oj t ho' hj hd' hd; omega) (i - (j + 1))
   rw [show j + 1 + (i - (j + 1)) = i by omega] at hE
   rw [hE]
   generalize sps[j]'_ = sp at hsj
   cases sp with
   | det c => rw [I.det j oj c t hL hj hsj hd]; simp only [nextE, hd, updo, upd_same]
   | skip => rw [I.skp j oj t hL hj hsj hd]; simp only [nextE, hd, updo, upd_same]
   | new deps R deps' R' => exact absurd rfl (hno ⟨t, deps, R, deps', R'⟩ (mem_UAt (by rw [h.listGet]; exact hj) hsj hd i hlt))
   | st d => have := (h.ob j oj _ hj hsj).1; rw [hd] at this; cases this
  ·have hlt : i < j := by omega
   have hL : ¬ Lst listed j := fun hl => hni (I.down j i hl (h.ps.behind i j o oj t ho hj hd ht hlt))
   rw [I.unt t fun k ok hk hok hdk => hL (by rw [h.ps.uniq j k oj ok t hj hok hd hdk]; exact hk)]
   rw [EAt_out fun k ok hk hok hdk => by rw [h.listGet] at hok; have := h.ps.uniq k j ok oj t hok hj hdk hd; omega]
 ·rw [I.unt t fun k ok _ hok hdk => hex ⟨k, ok, hok, hdk⟩]
  rw [EAt_out fun k ok _ hok hdk => hex ⟨k, ok, by rw [h.listGet] at hok; exact hok, hdk⟩]
theorem Hyp.up (_h : Hyp C n ops sps e0 us0 S H0) {i : Nat} (hi : i ≤ ops.size) {u : Un} (hu : u ∈ UAt ops.toList sps us0 i) : u ∈ UAt ops.toList sps us0 ops.size := by
 obtain ⟨pre, hp⟩ := UAt_suffix (ops := ops.toList) (sps := sps) (us0 := us0) i (ops.size - i)
 rw [show i + (ops.size - i) = ops.size by omega] at hp
 rw [hp]; exact List.mem_append_right _ hu
def Good (ops : Array Oper) (S : List Nat) (listed : Array Bool) (t : Nat) : Prop := (∃ (k : Nat) (ok : Oper), Lst listed k ∧ ops[k]? = some ok ∧ ok.dst = some t) ∧ t ∉ S
theorem Hyp.good_deps (h : Hyp C n ops sps e0 us0 S H0) {listed : Array Bool} {a : Act} {w : World} {ea : Env} {Bs : Nat → List Blk} (I : Inv C n ds ops sps e0 us0 H0 listed a w ea Bs)
  {u : Un} {j : Nat} {oj : Oper} (hj : Lst listed j) (hoj : ops[j]? = some oj) (hsj : sps[j]? = some (Sp.new u.deps u.R u.deps' u.R')) : ∀ t ∈ u.deps, Good ops S listed t := by
 intro t ht
 obtain ⟨_, _, hS, _, _, hdep, _⟩ := h.ob j oj _ hoj hsj
 obtain ⟨hl, u', hu', rfl⟩ := hdep t ht
 refine ⟨?_, hS u' hu' hl⟩
 rcases UAt_mem hu' with hu0 | ⟨k, ok, hk, hok, _, hd⟩
 ·exact absurd hl (h.ps.look j oj hoj u'.slot (List.mem_map.2 ⟨u', hu0, rfl⟩))
 ·rw [h.listGet] at hok
  exact ⟨k, ok, I.down j k hj (h.ps.before j k oj ok u'.slot hoj hok hd hl hk), hok, hd⟩
theorem Hyp.sel_good (h : Hyp C n ops sps e0 us0 S H0) {listed : Array Bool} {a : Act} {w : World} {ea : Env} {Bs : Nat → List Blk} (I : Inv C n ds ops sps e0 us0 H0 listed a w ea Bs) :
  ∀ {us : List Un} {ts : List Nat}, (∀ u ∈ us, u ∈ UAt ops.toList sps us0 ops.size) → (∀ t ∈ ts, (∃ u ∈ us, u.slot = t) → Good ops S listed t) → ∀ u ∈ selL ts us, Good ops S listed u.slot
 | [], _, _, _, u, hu => by cases hu
 | x :: us, ts, hT, hts, u, hu => by
  unfold selL at hu
  have hT' : ∀ u ∈ us, u ∈ UAt ops.toList sps us0 ops.size := fun u hu => hT u (List.mem_cons_of_mem _ hu)
  split at hu
  ·rename_i hx
   have hg := hts x.slot hx ⟨x, List.mem_cons_self .., rfl⟩
   rcases List.mem_cons.1 hu with rfl | hu
   ·exact hg
   ·refine h.sel_good I hT' (fun t ht hex => ?_) u hu
    rcases List.mem_append.1 ht with ht | ht
    ·exact hts t ht (by obtain ⟨y, hy, he⟩ := hex; exact ⟨y, List.mem_cons_of_mem _ hy, he⟩)
    ·obtain ⟨⟨k, ok, hk, hok, hd⟩, _⟩ := hg
     rcases UAt_mem (hT x (List.mem_cons_self ..)) with hx0 | ⟨j, oj, _, hoj, hsj, hdj⟩
     ·exact absurd (List.mem_map.2 ⟨x, hx0, rfl⟩) (h.ps.us0 k ok x.slot hok hd)
     ·rw [h.listGet] at hoj
      have := h.ps.uniq j k oj ok x.slot hoj hok hdj hd
      subst this
      exact h.good_deps I hk hoj hsj t ht
  ·exact h.sel_good I hT' (fun t ht hex => hts t ht (by obtain ⟨y, hy, he⟩ := hex; exact ⟨y, List.mem_cons_of_mem _ hy, he⟩)) u hu
theorem Hyp.opened (h : Hyp C n ops sps e0 us0 S H0) {listed : Array Bool} {a : Act} {w : World} {ea : Env} {Bs : Nat → List Blk} (I : Inv C n ds ops sps e0 us0 H0 listed a w ea Bs)
  {i : Nat} {o : Oper} (ho : ops[i]? = some o) (hpre : ∀ k, edge ops i k = true → Lst listed k) (hS : ∀ u ∈ UAt ops.toList sps us0 i, u.slot ∈ o.looksAt ops → u.slot ∉ S) :
  ∀ u ∈ selL (o.looksAt ops) (UAt ops.toList sps us0 i), u.R ea (ea u.slot) (Bs u.slot) := by
 intro u hu
 have hi : i ≤ ops.size := Nat.le_of_lt (Array.getElem?_eq_some_iff.1 ho).1
 have hg : Good ops S listed u.slot := by
  refine h.sel_good I (fun u hu => h.up hi hu) (fun t ht hex => ?_) u hu
  obtain ⟨u', hu', rfl⟩ := hex
  refine ⟨?_, hS u' hu' ht⟩
  rcases UAt_mem hu' with hu0 | ⟨k, ok, hk, hok, _, hd⟩
  ·exact absurd ht (h.ps.look i o ho u'.slot (List.mem_map.2 ⟨u', hu0, rfl⟩))
  ·rw [h.listGet] at hok
   exact ⟨k, ok, hpre k (h.ps.before i k o ok u'.slot ho hok hd ht hk), hok, hd⟩
 obtain ⟨⟨k, ok, hk, hok, hd⟩, hnS⟩ := hg
 refine (I.opn u (h.up hi ((selL_sub _ _).mem hu)) (.inr ⟨k, ok, hk, hok, hd⟩)).2 ?_
 rintro ⟨k, _, hk⟩
 have hk' : k < ops.size := by rw [← h.len]; exact (List.getElem?_eq_some_iff.1 hk).1
 exact hnS (h.ob k ops[k] _ (Array.getElem?_eq_getElem hk') hk).2.2.1.1
theorem Hyp.depsOk (h : Hyp C n ops sps e0 us0 S H0) : ∀ i, i ≤ ops.size → DepsOk (UAt ops.toList sps us0 i) := by
 have h0 : ∀ l : List Un, (∀ u ∈ l, u.deps = [] ∧ Cong [] u.R ∧ Cong u.deps' u.R') → DepsOk l := by
  intro l
  induction l with
  | nil => intro _; trivial
  | cons u l ih =>
   intro hl
   obtain ⟨h1, h2, h3⟩ := hl u (List.mem_cons_self ..)
   exact ⟨⟨fun t ht => (by rw [h1] at ht; cases ht), by rw [h1]; exact h2⟩, ih fun u' hu' => hl u' (List.mem_cons_of_mem _ hu')⟩
 intro i
 induction i with
 | zero => intro _; exact h0 us0 h.dep0
 | succ i ih =>
  intro hi
  have ih := ih om0
  have hs : i < sps.length := by rw [h.len]; omega
  have ho : ops[i]? = some ops[i] := Array.getElem?_eq_getElem om0
  have hsp : sps[i]? = some sps[i] := List.getElem?_eq_getElem hs
  simp only [UAt, h.listGet, ho, hsp]
  unfold nextU
  split
  ·rename_i deps R deps' R' d hspe hd
   rw [hspe] at hsp
   obtain ⟨_, _, _, _, _, hdep, hc, hc'⟩ := h.ob i _ _ ho hsp
   exact ⟨⟨fun t ht => (hdep t ht).2, hc⟩, ih⟩
  ·exact ih
theorem Hyp.dep_cong (h : Hyp C n ops sps e0 us0 S H0) {u : Un} (hu : u ∈ UAt ops.toList sps us0 ops.size) : Cong u.deps u.R ∧ Cong u.deps' u.R' := by
 rcases UAt_mem hu with hu0 | ⟨j, o, _, ho, hs, _⟩
 ·obtain ⟨h1, h2, h3⟩ := h.dep0 u hu0
  rw [h1]; exact ⟨h2, h3⟩
 ·rw [h.listGet] at ho
  obtain ⟨_, _, _, _, _, _, hc, hc'⟩ := h.ob j o _ ho hs
  exact ⟨hc, hc'⟩
theorem Hyp.st_deps (h : Hyp C n ops sps e0 us0 S H0) {listed : Array Bool} {a : Act} {w : World} {ea : Env} {Bs : Nat → List Blk} (I : Inv C n ds ops sps e0 us0 H0 listed a w ea Bs)
  {u : Un} (hu : u ∈ UAt ops.toList sps us0 ops.size) (hs : Stored sps listed u.slot) : ∀ t ∈ u.deps', ∃ (k : Nat) (ok : Oper), Lst listed k ∧ ops[k]? = some ok ∧ ok.dst = some t := by
 intro t ht
 obtain ⟨j, hj, hsj⟩ := hs
 have hjs : j < ops.size := by rw [← h.len]; exact (List.getElem?_eq_some_iff.1 hsj).1
 have hoj := Array.getElem?_eq_getElem hjs
 obtain ⟨_, _, _, ⟨u', hu', hus, _, hdp, _⟩, _⟩ := h.ob j ops[j] _ hoj hsj
 have huu := h.slot_inj hu (h.up (Nat.le_of_lt hjs) hu') hus.symm
 subst huu
 obtain ⟨hl, _, x, hx, rfl⟩ := hdp t ht
 rcases UAt_mem hx with hx0 | ⟨k, ok, hk, hok, _, hd⟩
 ·exact absurd hl (h.ps.look j _ hoj x.slot (List.mem_map.2 ⟨x, hx0, rfl⟩))
 ·rw [h.listGet] at hok
  exact ⟨k, ok, I.down j k hj (h.ps.before j k _ ok x.slot hoj hok hd hl hk), hok, hd⟩
theorem below_mem {listed : Array Bool} {a : Act} {w : World} {ea : Env} {Bs : Nat → List Blk} (I : Inv C n ds ops sps e0 us0 H0 listed a w ea Bs)
  {i : Nat} (hi : i ≤ ops.size) (ts : List Nat) : St C (selH Bs (selL ts (UAt ops.toList sps us0 i)) H0) w := by
 refine ⟨I.below, selH_ok ?_, I.marks⟩
 obtain ⟨pre, hp⟩ := UAt_suffix (ops := ops.toList) (sps := sps) (us0 := us0) i (ops.size - i)
 rw [show i + (ops.size - i) = ops.size by omega] at hp
 have := I.mem
 rw [hp, List.flatMap_append, List.append_assoc] at this
 exact this.sub (List.sublist_append_right _ _)
theorem flatMap_set {Bs Bs' : Nat → List Blk} {d : Nat} {Hn : List Blk} (hd : Bs d = []) (hd' : Bs' d = Hn) (ho : ∀ t, t ≠ d → Bs' t = Bs t) :
  ∀ {T : List Un}, (T.map (·.slot)).Nodup → (∃ u ∈ T, u.slot = d) → (T.flatMap fun u => Bs' u.slot).Perm (Hn ++ T.flatMap fun u => Bs u.slot)
 | [], _, h => by obtain ⟨u, hu, _⟩ := h; cases hu
 | u :: T, hn, h => by
  simp only [List.map_cons, List.nodup_cons] at hn
  rw [List.flatMap_cons, List.flatMap_cons]
  by_cases hu : u.slot = d
  ·have hT : (T.flatMap fun u => Bs' u.slot) = T.flatMap fun u => Bs u.slot := by
    have : ∀ l : List Un, (∀ x ∈ l, x.slot ≠ d) → (l.flatMap fun u => Bs' u.slot) = l.flatMap fun u => Bs u.slot := by
     intro l
     induction l with
     | nil => intro _; rfl
     | cons x l ih => intro hl; rw [List.flatMap_cons, List.flatMap_cons, ho _ (hl x (List.mem_cons_self ..)), ih fun y hy => hl y (List.mem_cons_of_mem _ hy)]
    exact this T fun x hx he => hn.1 (List.mem_map.2 ⟨x, hx, by rw [he, hu]⟩)
   rw [hT, hu, hd, hd', List.nil_append]
  ·have hT := flatMap_set hd hd' ho hn.2 (by
    obtain ⟨x, hx, hxe⟩ := h
    rcases List.mem_cons.1 hx with rfl | hx
    ·exact absurd hxe hu
    ·exact ⟨x, hx, hxe⟩)
   rw [ho _ hu]
   exact (hT.append_left _).trans (List.perm_append_comm_assoc ..)
theorem looks_of {o : Oper} {d : Nat} (h : ((o.looksAt ops).contains d || ops.all fun o' => o'.dst != some d) = true) {j : Nat} {oj : Oper} (hj : ops[j]? = some oj) (hd : oj.dst = some d) : d ∈ o.looksAt ops := by
 simp only [Bool.or_eq_true] at h
 rcases h with h | h
 ·simpa using h
 ·rw [Array.all_eq_true] at h
  have hlt := (Array.getElem?_eq_some_iff.1 hj).1
  have := h j hlt
  rw [(Array.getElem?_eq_some_iff.1 hj).2, hd] at this
  simp at this
theorem Hyp.more (h : Hyp C n ops sps e0 us0 S H0) {listed : Array Bool} {a : Act} {w w' : World} {ea : Env} {Bs Bs' : Nat → List Blk} (I : Inv C n ds ops sps e0 us0 H0 listed a w ea Bs)
  {i : Nat} {o : Oper} {sp : Sp} (ho : ops[i]? = some o) (hs : sps[i]? = some sp) (hni : ¬ Lst listed i) (hpre : ∀ k, edge ops i k = true → Lst listed k) (v : Value)
  (hdet : ∀ c, sp = .det c → v = c) (hskip : sp = .skip → v = undef)
  (hmem : HOk C.w0.heap.size w' ((UAt ops.toList sps us0 ops.size).flatMap (fun u => Bs' u.slot) ++ H0)) (hbel : Below C.w0.heap.size C.w0 w') (hmk : Mk (C.ds ++ C.out) C.w0.heap.size w')
  (hnew : ∀ deps R deps' R' d, sp = .new deps R deps' R' → o.dst = some d → R (updo ea o.dst v) v (Bs' d)) (hst : ∀ d, sp = .st d → ∀ u ∈ UAt ops.toList sps us0 ops.size, u.slot = d → u.R' (updo ea o.dst v) (ea d) (Bs' d))
  (hB : ∀ t, (∀ deps R deps' R', sp = .new deps R deps' R' → o.dst ≠ some t) → sp ≠ .st t → Bs' t = Bs t) :
  Inv C n ds ops sps e0 us0 H0 (listed.setIfInBounds i true) (a.put o.dst v) w' (updo ea o.dst v) Bs' := by
 have hi : i < ops.size := (Array.getElem?_eq_some_iff.1 ho).1
 have hil : i < listed.size := by rw [I.sz]; exact hi
 have hv : ∀ t, o.dst ≠ some t → updo ea o.dst v t = ea t := fun t ht => by
  cases hd : o.dst with
  | none => rfl
  | some d => exact upd_ne ea v (fun e => ht (by rw [hd, e]))
 have hvd : ∀ t, o.dst = some t → updo ea o.dst v t = v := fun t ht => by rw [ht]; exact upd_same ea t v
 have hsl : ∀ (j : Nat) (oj : Oper) (d : Nat), Lst listed j → ops[j]? = some oj → oj.dst = some d → o.dst ≠ some d := fun j oj d hj hoj hd hd' => by
  have := h.ps.uniq i j o oj d ho hoj hd' hd
  subst this; exact hni hj
 refine ⟨I.rep.put o.dst (h.dok i o ho).1, by simp [I.sz], ?_, ?_, ?_, ?_, ?_, ?_, hmem, hbel, hmk⟩
 ·intro j k hj he
  rw [lst_set hil] at hj ⊢
  rcases hj with rfl | hj
  ·exact .inr (hpre k he)
  ·exact .inr (I.down j k hj he)
 ·intro j oj c d hj hoj hsj hd
  rw [lst_set hil] at hj
  rcases hj with rfl | hj
  ·rw [ho] at hoj; cases hoj
   rw [hs] at hsj; cases hsj
   rw [hvd d hd]; exact hdet c rfl
  ·rw [hv d (hsl j oj d hj hoj hd)]; exact I.det j oj c d hj hoj hsj hd
 ·intro j oj d hj hoj hsj hd
  rw [lst_set hil] at hj
  rcases hj with rfl | hj
  ·rw [ho] at hoj; cases hoj
   rw [hs] at hsj; cases hsj
   rw [hvd d hd]; exact hskip rfl
  ·rw [hv d (hsl j oj d hj hoj hd)]; exact I.skp j oj d hj hoj hsj hd
 ·intro u hu hp
  by_cases hnewi : ∃ deps R deps' R', sp = .new deps R deps' R' ∧ o.dst = some u.slot
  ·obtain ⟨deps, R, deps', R', hsp, hd⟩ := hnewi
   subst hsp
   have hue : u = ⟨u.slot, deps, R, deps', R'⟩ := h.slot_inj hu (mem_UAt (by rw [h.listGet]; exact ho) hs hd ops.size hi) rfl
   have hR : u.R (updo ea o.dst v) v (Bs' u.slot) := by rw [hue]; exact hnew deps R deps' R' u.slot rfl hd
   rw [hvd _ hd]
   obtain ⟨d', hd', hS⟩ := h.spec_new ho hs
   have hdd : d' = u.slot := by rw [hd] at hd'; cases hd'; rfl
   refine ⟨fun ⟨k, hk, hsk⟩ => ?_, fun _ => hR⟩
   rw [lst_set hil] at hk
   rcases hk with rfl | hk
   ·rw [hs] at hsk; cases hsk
   ·-- a store before its slot is made: its operation looks at no such slot unless it is there
    have hkk : k < ops.size := by rw [← h.len]; exact (List.getElem?_eq_some_iff.1 hsk).1
    have hok := Array.getElem?_eq_getElem hkk
    obtain ⟨_, _, ⟨_, hlk⟩, ⟨u', hu', hus, _⟩, _⟩ := h.ob k ops[k] _ hok hsk
    rcases UAt_mem hu' with hu0 | ⟨j, oj, hj, hoj, _, hdj⟩
    ·exact absurd (List.mem_map.2 ⟨u', hu0, hus⟩) (h.ps.us0 i o u.slot ho hd)
    ·rw [h.listGet] at hoj
     have hij := h.ps.uniq i j o oj u.slot ho hoj hd (by rw [hdj, hus])
     subst hij
     exact absurd (I.down k i hk (h.ps.before k i _ o u.slot hok ho hd (looks_of hlk ho hd) hj)) hni
  ·have hd : o.dst ≠ some u.slot := fun hd => by
    rcases UAt_mem hu with hu0 | ⟨j, oj, hj, hoj, hsj, hdj⟩
    ·exact h.ps.us0 i o u.slot ho hd (List.mem_map.2 ⟨u, hu0, rfl⟩)
    ·rw [h.listGet] at hoj
     have hij := h.ps.uniq i j o oj u.slot ho hoj hd hdj
     subst hij
     rw [hs] at hsj; cases hsj
     exact hnewi ⟨_, _, _, _, rfl, hd⟩
   have hp' : Pres ops us0 listed u.slot := by
    rcases hp with hp | ⟨j, oj, hj, hoj, hdj⟩
    ·exact .inl hp
    ·rw [lst_set hil] at hj
     rcases hj with rfl | hj
     ·rw [ho] at hoj; cases hoj; exact absurd hdj hd
     ·exact .inr ⟨j, oj, hj, hoj, hdj⟩
   have hag : ∀ t ∈ u.deps, ea t = updo ea o.dst v t := fun t ht => by
    refine (hv t fun hdt => ?_).symm
    rcases UAt_mem hu with hu0 | ⟨j, oj, _, hoj, hsj, hdj⟩
    ·rw [(h.dep0 u hu0).1] at ht; cases ht
    ·rw [h.listGet] at hoj
     have hLj : Lst listed j := by
      rcases hp' with ⟨u', hu', he⟩ | ⟨k, ok, hk, hok, hdk⟩
      ·exact absurd (List.mem_map.2 ⟨u', hu', he⟩) (h.ps.us0 j oj u.slot hoj hdj)
      ·rw [h.ps.uniq j k oj ok u.slot hoj hok hdj hdk]; exact hk
     obtain ⟨⟨k, ok, hk, hok, hdk⟩, _⟩ := h.good_deps I hLj hoj hsj t ht
     have := h.ps.uniq i k o ok t ho hok hdt hdk
     subst this; exact hni hk
   obtain ⟨hcR, hcR'⟩ := h.dep_cong hu
   rw [hv _ hd]
   by_cases hsti : sp = .st u.slot
   ·subst hsti
    refine ⟨fun _ => hst u.slot rfl u hu rfl, fun hn => absurd ⟨i, (lst_set hil).2 (.inl rfl), hs⟩ hn⟩
   ·rw [hB u.slot (fun deps R deps' R' e he => hd he) hsti]
    have hiff : Stored sps (listed.setIfInBounds i true) u.slot ↔ Stored sps listed u.slot := by
     constructor
     ·rintro ⟨k, hk, hsk⟩
      rw [lst_set hil] at hk
      rcases hk with rfl | hk
      ·rw [hs] at hsk; cases hsk; exact absurd rfl hsti
      ·exact ⟨k, hk, hsk⟩
     ·rintro ⟨k, hk, hsk⟩; exact ⟨k, (lst_set hil).2 (.inr hk), hsk⟩
    rw [hiff]
    exact ⟨fun hs => hcR' ea _ (fun t ht => (hv t fun hdt => by
     obtain ⟨k, ok, hk, hok, hdk⟩ := h.st_deps I hu hs t ht
     have := h.ps.uniq i k o ok t ho hok hdt hdk
     subst this; exact hni hk).symm) _ _ ((I.opn u hu hp').1 hs), fun hs => hcR ea _ hag _ _ ((I.opn u hu hp').2 hs)⟩
 ·intro u hu hp
  have hp' : ¬ Pres ops us0 listed u.slot := fun hp' => hp (by
   rcases hp' with hp' | ⟨j, oj, hj, r⟩
   ·exact .inl hp'
   ·exact .inr ⟨j, oj, (lst_set hil).2 (.inr hj), r⟩)
  rw [hB u.slot (fun deps R deps' R' _ he => hp (.inr ⟨i, o, (lst_set hil).2 (.inl rfl), ho, he⟩)) (fun hsti => by
   subst hsti
   obtain ⟨_, _, ⟨_, hlk⟩, ⟨u', hu', hus, _⟩, _⟩ := h.ob i o _ ho hs
   rcases UAt_mem hu' with hu0 | ⟨j, oj, hj, hoj, _, hdj⟩
   ·exact hp (.inl ⟨u', hu0, hus⟩)
   ·rw [h.listGet] at hoj
    exact hp (.inr ⟨j, oj, (lst_set hil).2 (.inr (hpre j (h.ps.before i j o oj u.slot ho hoj (by rw [hdj, hus]) (looks_of hlk hoj (by rw [hdj, hus])) hj))), hoj, by rw [hdj, hus]⟩))]
  exact I.absn u hu hp'
 ·intro t ht
  have hd : o.dst ≠ some t := ht i o ((lst_set hil).2 (.inl rfl)) ho
  rw [hv t hd]
  exact I.unt t fun j oj hj hoj => ht j oj ((lst_set hil).2 (.inr hj)) hoj
end
end Go.Eng
namespace Go.Eng
open Go.RowKit
section
variable {C : Ctx} {F : Fence} {n : Nat} {ds : List Deferred} {ops : Array Oper} {sps : List Sp} {e0 : Env} {us0 : List Un} {S : List Nat} {H0 : List Blk} {Q : Exit → Env → List Blk → Prop}
theorem ready_mem {listed : Array Bool} {i : Nat} : i ∈ Region.ready .any ops listed ↔ i < ops.size ∧ listed.getD i true = false ∧ ∃ o, ops[i]? = some o ∧ ∀ e ∈ o.after, Region.binds .any e = true → listed.getD e.on false = true := by
 unfold Region.ready
 simp only [List.mem_filter, List.mem_range, Bool.and_eq_true, Bool.not_eq_true']
 constructor
 ·rintro ⟨h1, h2, h3⟩
  refine ⟨h1, h2, ops[i], Array.getElem?_eq_getElem h1, ?_⟩
  rw [Array.getElem?_eq_getElem h1] at h3
  simp only [Option.map_some, Option.getD_some, Array.all_eq_true] at h3
  intro e he hb
  obtain ⟨k, hk, rfl⟩ := Array.mem_iff_getElem.1 he
  have := h3 k hk
  simpa [hb] using this
 ·rintro ⟨h1, h2, o, ho, h3⟩
  refine ⟨h1, h2, ?_⟩
  rw [ho]
  simp only [Option.map_some, Option.getD_some, Array.all_eq_true]
  intro k hk
  by_cases hb : Region.binds .any o.after[k] = true
  ·simp [h3 _ (Array.getElem_mem hk) hb]
  ·simp [hb]
theorem edge_of_ready {listed : Array Bool} {i : Nat} (h : i ∈ Region.ready .any ops listed) : ∀ k, edge ops i k = true → Lst listed k := by
 obtain ⟨_, _, o, ho, h3⟩ := ready_mem.1 h
 intro k hk
 unfold edge at hk
 rw [ho] at hk
 simp only [Option.map_some, Option.getD_some, Array.any_eq_true, Bool.and_eq_true, beq_iff_eq] at hk
 obtain ⟨x, hx, he, hb⟩ := hk
 have := h3 _ (Array.getElem_mem hx) hb
 rw [he] at this
 exact this
theorem all_of_ready_nil (hp : ∀ (i k : Nat), edge ops i k = true → k < i) {listed : Array Bool} (hsz : listed.size = ops.size) (h : Region.ready .any ops listed = []) : ∀ i, i < ops.size → Lst listed i := by
 intro i
 induction i using Nat.strongRecOn with
 | _ i ih =>
  intro hi
  refine Classical.byContradiction fun hn => ?_
  have : i ∈ Region.ready .any ops listed := by
   refine ready_mem.2 ⟨hi, ?_, ops[i], Array.getElem?_eq_getElem hi, fun e he hb => ?_⟩
   ·unfold Lst at hn
    rw [Array.getD_eq_getD_getElem?, Array.getElem?_eq_getElem om0] at hn ⊢
    simpa using hn
   ·have hed : edge ops i e.on = true := by
     unfold edge
     rw [Array.getElem?_eq_getElem hi]
     simp only [Option.map_some, Option.getD_some, Array.any_eq_true]
     obtain ⟨k, hk, rfl⟩ := Array.mem_iff_getElem.1 he
     exact ⟨k, hk, by simp [hb]⟩
    have hlt := hp i e.on hed
    exact ih e.on hlt om0
  rw [h] at this
  cases this
structure HypS (us0 : List Un) (S : List Nat) : Prop where
 us0S : ∀ u ∈ us0, u.slot ∈ S
theorem Hyp.fin (h : Hyp C n ops sps e0 us0 S H0) (hS : HypS us0 S) (hf : OverAll (fun e H => Q .normal e H) (fun _ => True) (UAt ops.toList sps us0 ops.size) (EAt ops.toList sps e0 ops.size) H0)
  {listed : Array Bool} {a : Act} {w : World} {ea : Env} {Bs : Nat → List Blk} (I : Inv C n ds ops sps e0 us0 H0 listed a w ea Bs) (hall : ∀ i, i < ops.size → Lst listed i) : lift C n ds Q .normal a w := by
 have hT : ∀ u ∈ UAt ops.toList sps us0 ops.size, Pres ops us0 listed u.slot := fun u hu => by
  rcases UAt_mem hu with hu0 | ⟨j, o, hj, ho, _, hd⟩
  ·exact .inl ⟨u, hu0, rfl⟩
  ·rw [h.listGet] at ho; exact .inr ⟨j, o, hall j hj, ho, hd⟩
 have hR : ∀ u ∈ UAt ops.toList sps us0 ops.size, u.R' ea (ea u.slot) (Bs u.slot) := fun u hu => by
  have ho := I.opn u hu (hT u hu)
  by_cases hs : Stored sps listed u.slot
  ·exact ho.1 hs
  ·have hns : u.slot ∉ S := fun hm => by
    obtain ⟨i, hi⟩ := h.stS _ hm
    exact hs ⟨i, hall i (by rw [← h.len]; exact (List.getElem?_eq_some_iff.1 hi).1), hi⟩
   have hr := ho.2 hs
   rcases UAt_mem hu with hu0 | ⟨j, o, _, hoj, hsj, hd⟩
   ·exact absurd (hS.us0S u hu0) hns
   ·rw [h.listGet] at hoj
    obtain ⟨d, hd', he⟩ := h.spec_new hoj hsj
    rw [hd] at hd'; cases hd'
    rw [(he hns).1]; exact hr
 have he : allE ea (UAt ops.toList sps us0 ops.size) (EAt ops.toList sps e0 ops.size) = ea := by
  funext t
  by_cases hin : ∃ u ∈ UAt ops.toList sps us0 ops.size, u.slot = t
  ·exact allE_in hin
  ·refine allE_same ?_
   by_cases hex : ∃ (j : Nat) (oj : Oper), ops[j]? = some oj ∧ oj.dst = some t
   ·obtain ⟨j, oj, hj, hd⟩ := hex
    have hjs := (Array.getElem?_eq_some_iff.1 hj).1
    have hsj : sps[j]? = some (sps[j]'(by rw [h.len]; exact hjs)) := List.getElem?_eq_getElem _
    have hE := EAt_at (ops := ops.toList) (sps := sps) (e0 := e0) (t := t) (by rw [h.listGet]; exact hj) hsj
     (fun k o' hk ho' hd' => by rw [h.listGet] at ho'; have := h.ps.uniq k j o' oj t ho' hj hd' hd; omega) (ops.size - (j + 1))
    rw [show j + 1 + (ops.size - (j + 1)) = ops.size by omega] at hE
    rw [hE]
    generalize sps[j]'_ = sp at hsj
    cases sp with
    | det c => rw [I.det j oj c t (hall j hjs) hj hsj hd]; simp only [nextE, hd, updo, upd_same]
    | skip => rw [I.skp j oj t (hall j hjs) hj hsj hd]; simp only [nextE, hd, updo, upd_same]
    | new deps R deps' R' => exact absurd ⟨⟨t, deps, R, deps', R'⟩, mem_UAt (by rw [h.listGet]; exact hj) hsj hd ops.size hjs, rfl⟩ hin
    | st d => have := (h.ob j oj _ hj hsj).1; rw [hd] at this; cases this
   ·rw [I.unt t fun k ok _ hok hdk => hex ⟨k, ok, hok, hdk⟩, EAt_out fun k ok _ hok hdk => hex ⟨k, ok, by rw [h.listGet] at hok; exact hok, hdk⟩]
 exact ⟨ea, _, I.rep, ⟨I.below, allH_ok I.mem, I.marks⟩, OverAll_use (ea := ea) (Bs := Bs) hf trivial hR he⟩
theorem gd_congr {all : Array Oper} {e e' : Env} {o : Oper} (h : ∀ d ∈ gLooks all o, e d = e' d) : gdOf all e o = gdOf all e' o := by
 unfold gdOf
 unfold gLooks at h
 split
 ·rfl
 ·rename_i j want hg
  rw [hg] at h
  split
  ·rename_i d hd
   simp only [hd, Option.toList_some, List.mem_singleton, forall_eq] at h
   rw [h]
  ·rfl
theorem exec_congr {e e' : Env} {o : Oper} (hs : ∀ cs b, o.op ≠ .select cs b) (h : ∀ t ∈ o.looksAt ops, e t = e' t) : execOp (ev e) o = execOp (ev e') o := by
 refine execOp_congr o hs fun x hx => ?_
 cases x with
 | tmp t => exact h t (List.mem_append_left _ (List.mem_filterMap.2 ⟨.tmp t, by simpa using hx, rfl⟩))
 | const => rfl
 | global => rfl
 | func => rfl
theorem swap_ok {N : Nat} {w w' : World} {X Hn Hn' : List Blk} (hs : Swap Hn Hn' w w') (h : HOk N w (Hn ++ X)) : HOk N w' (Hn' ++ X) := by
 have hnd := h.nodup
 rw [List.map_append, List.nodup_append] at hnd
 refine ⟨fun x hx => ?_, ?_, fun x hx => (List.mem_append.1 hx).elim (hs.kind x) fun hx => h.kind x (List.mem_append_right _ hx)⟩
 ·rcases List.mem_append.1 hx with hx | hx
  ·refine ⟨?_, hs.mem x hx⟩
   have : x.1 ∈ Hn.map Prod.fst := by rw [← hs.names]; exact List.mem_map.2 ⟨x, hx, rfl⟩
   obtain ⟨y, hy, hye⟩ := List.mem_map.1 this
   rw [← hye]; exact (h.mem y (List.mem_append_left _ hy)).1
  ·have hm := h.mem x (List.mem_append_right _ hx)
   refine ⟨hm.1, ?_⟩
   rw [hs.other x.1 fun hin => hnd.2.2 _ hin x.1 (List.mem_map.2 ⟨x, hx, rfl⟩) rfl]
   exact hm.2
 ·rw [List.map_append, hs.names, ← List.map_append]; exact h.nodup
theorem swap_below {C : Ctx} {w w' : World} {X Hn Hn' : List Blk} (hs : Swap Hn Hn' w w') (h : HOk C.w0.heap.size w (Hn ++ X)) (hb : Below C.w0.heap.size C.w0 w) : Below C.w0.heap.size C.w0 w' :=
 hb.trans ⟨hs.os, hs.tape, hs.output, by rw [hs.size]; exact Nat.le_refl _, fun k hk => hs.other k fun hin => by
  obtain ⟨y, hy, rfl⟩ := List.mem_map.1 hin
  have := (h.mem y (List.mem_append_left _ hy)).1
  omega⟩
theorem swap_marks {N : Nat} {w w' : World} {X Hn Hn' : List Blk} {ds : List Deferred} (hs : Swap Hn Hn' w w') (h : HOk N w (Hn ++ X)) (hm : Mk ds N w) : Mk ds N w' := ⟨hm.1, fun d hd => by
 obtain ⟨D, h1, h2, h3⟩ := hm.2 d hd
 refine ⟨D, h1, h2, (hs.other D fun hin => ?_).trans h3⟩
 obtain ⟨y, hy, rfl⟩ := List.mem_map.1 hin
 have := (h.mem y (List.mem_append_left _ hy)).2
 rw [h3] at this
 exact h.kind y (List.mem_append_left _ hy) (Option.some.inj this).symm⟩
theorem flatMap_front {Bs : Nat → List Blk} {u : Un} : ∀ {T : List Un}, u ∈ T → (T.map (·.slot)).Nodup → (T.flatMap fun u => Bs u.slot).Perm (Bs u.slot ++ (T.filter fun x => x.slot != u.slot).flatMap fun u => Bs u.slot)
 | [], h, _ => by cases h
 | x :: T, h, hn => by
  simp only [List.map_cons, List.nodup_cons] at hn
  rw [List.flatMap_cons]
  by_cases hx : x = u
  ·subst hx
   have hself : ∀ l : List Un, (∀ y ∈ l, y.slot ≠ x.slot) → (l.filter fun y => y.slot != x.slot) = l := fun l hl => List.filter_eq_self.2 fun y hy => by simp [hl y hy]
   rw [List.filter_cons_of_neg (by simp), hself T fun y hy he => hn.1 (List.mem_map.2 ⟨y, hy, he⟩)]
  ·have hm : u ∈ T := by
    rcases List.mem_cons.1 h with rfl | hm
    ·exact absurd rfl hx
    ·exact hm
   have hne : x.slot ≠ u.slot := fun he => hn.1 (List.mem_map.2 ⟨u, hm, he.symm⟩)
   rw [List.filter_cons_of_pos (by simp [hne]), List.flatMap_cons]
   exact ((flatMap_front (Bs := Bs) hm hn.2).append_left _).trans (List.perm_append_comm_assoc ..)
theorem flatMap_other {Bs Bs' : Nat → List Blk} {d : Nat} (ho : ∀ t, t ≠ d → Bs' t = Bs t) : ∀ T : List Un, ((T.filter fun x => x.slot != d).flatMap fun u => Bs' u.slot) = (T.filter fun x => x.slot != d).flatMap fun u => Bs u.slot
 | [] => rfl
 | x :: T => by
  by_cases hx : x.slot = d
  ·rw [List.filter_cons_of_neg (by simp [hx])]; exact flatMap_other ho T
  ·rw [List.filter_cons_of_pos (by simp [hx]), List.flatMap_cons, List.flatMap_cons, ho _ hx, flatMap_other ho T]
theorem DepsOk_filter {d : Nat} : ∀ {us : List Un}, DepsOk us → (∀ u ∈ us, d ∉ u.deps) → DepsOk (us.filter fun x => x.slot != d)
 | [], _, _ => trivial
 | u :: us, h, hd => by
  have ih := DepsOk_filter h.2 fun u hu => hd u (List.mem_cons_of_mem _ hu)
  by_cases hu : u.slot = d
  ·rw [List.filter_cons_of_neg (by simp [hu])]; exact ih
  ·rw [List.filter_cons_of_pos (by simp [hu])]
   refine ⟨⟨fun t ht => ?_, h.1.2⟩, ih⟩
   obtain ⟨u', hu', he⟩ := h.1.1 t ht
   refine ⟨u', List.mem_filter.2 ⟨hu', ?_⟩, he⟩
   have : t ≠ d := fun e => hd u (List.mem_cons_self ..) (by rw [← e]; exact ht)
   simp [he, this]
theorem Hyp.no_dep (h : Hyp C n ops sps e0 us0 S H0) {d : Nat} (hd : d ∈ S) : ∀ i, i ≤ ops.size → ∀ u ∈ UAt ops.toList sps us0 i, d ∉ u.deps := by
 intro i hi u hu ht
 rcases UAt_mem hu with hu0 | ⟨j, o, _, ho, hs, _⟩
 ·rw [(h.dep0 u hu0).1] at ht; cases ht
 ·rw [h.listGet] at ho
  obtain ⟨_, _, hS, _, _, hdep, _⟩ := h.ob j o _ ho hs
  obtain ⟨hl, u', hu', he⟩ := hdep d ht
  exact hS u' hu' (by rw [he]; exact hl) (by rw [he]; exact hd)
theorem Hyp.openedF (h : Hyp C n ops sps e0 us0 S H0) {listed : Array Bool} {a : Act} {w : World} {ea : Env} {Bs : Nat → List Blk} (I : Inv C n ds ops sps e0 us0 H0 listed a w ea Bs)
  {i : Nat} {o : Oper} (ho : ops[i]? = some o) (hpre : ∀ k, edge ops i k = true → Lst listed k) {d : Nat} (hS : ∀ u ∈ UAt ops.toList sps us0 i, u.slot ≠ d → u.slot ∈ o.looksAt ops → u.slot ∉ S) :
  ∀ u ∈ selL (o.looksAt ops) ((UAt ops.toList sps us0 i).filter fun x => x.slot != d), u.R ea (ea u.slot) (Bs u.slot) := by
 intro u hu
 have hi : i ≤ ops.size := Nat.le_of_lt (Array.getElem?_eq_some_iff.1 ho).1
 have hg : Good ops S listed u.slot := by
  refine h.sel_good I (fun u hu => h.up hi (List.mem_filter.1 hu).1) (fun t ht hex => ?_) u hu
  obtain ⟨u', hu', rfl⟩ := hex
  obtain ⟨hu', hne⟩ := List.mem_filter.1 hu'
  refine ⟨?_, hS u' hu' (by simpa using hne) ht⟩
  rcases UAt_mem hu' with hu0 | ⟨k, ok, hk, hok, _, hd⟩
  ·exact absurd ht (h.ps.look i o ho u'.slot (List.mem_map.2 ⟨u', hu0, rfl⟩))
  ·rw [h.listGet] at hok
   exact ⟨k, ok, hpre k (h.ps.before i k o ok u'.slot ho hok hd ht hk), hok, hd⟩
 obtain ⟨⟨k, ok, hk, hok, hd⟩, hnS⟩ := hg
 refine (I.opn u (h.up hi (List.mem_filter.1 ((selL_sub _ _).mem hu)).1) (.inr ⟨k, ok, hk, hok, hd⟩)).2 ?_
 rintro ⟨k, _, hk⟩
 have hk' : k < ops.size := by rw [← h.len]; exact (List.getElem?_eq_some_iff.1 hk).1
 exact hnS (h.ob k ops[k] _ (Array.getElem?_eq_getElem hk') hk).2.2.1.1
theorem Hyp.run (hF : Wide F) (h : Hyp C n ops sps e0 us0 S H0) (hS : HypS us0 S) (hf : OverAll (fun e H => Q .normal e H) (fun _ => True) (UAt ops.toList sps us0 ops.size) (EAt ops.toList sps e0 ops.size) H0) :
  ∀ (fuel : Nat) (listed : Array Bool) (a : Act) (w : World) (ea : Env) (Bs : Nat → List Blk), Inv C n ds ops sps e0 us0 H0 listed a w ea Bs → (List.range ops.size).countP (fun i => !listed.getD i true) ≤ fuel →
   wpAnyIn F 0 C.P .any ops (lift C n ds Q) fuel listed a w := by
 have huni : ∀ {i : Nat} {o : Oper}, ops[i]? = some o → i < ops.size := fun ho => (Array.getElem?_eq_some_iff.1 ho).1
 intro fuel
 induction fuel with
 | zero =>
  intro listed a w ea Bs I hc
  have hall : Region.ready .any ops listed = [] := by
   refine List.eq_nil_iff_forall_not_mem.2 fun i hi => ?_
   obtain ⟨h1, h2, _⟩ := ready_mem.1 hi
   have : 0 < (List.range ops.size).countP (fun i => !listed.getD i true) := List.countP_pos_iff.2 ⟨i, List.mem_range.2 h1, by simp [h2]⟩
   omega
  exact ⟨hall, h.fin hS hf I (all_of_ready_nil h.ps.down I.sz hall)⟩
 | succ fuel ih =>
  intro listed a w ea Bs I hc
  refine ⟨fun hr => h.fin hS hf I (all_of_ready_nil h.ps.down I.sz hr), fun i hi => ?_⟩
  obtain ⟨hlt, hun, o, ho, _⟩ := ready_mem.1 hi
  have hpre := edge_of_ready hi
  have hni : ¬ Lst listed i := fun hl => by
   unfold Lst at hl
   rw [Array.getD_eq_getD_getElem?, Array.getElem?_eq_getElem (by rw [I.sz]; exact hlt)] at hl hun
   simp only [Option.getD_some] at hl hun
   rw [hl] at hun; cases hun
  have hcnt : (List.range ops.size).countP (fun j => !(listed.setIfInBounds i true).getD j true) ≤ fuel := by
   have := countP_lt (l := List.range ops.size) (x := i) (p := fun j => !listed.getD j true) (p' := fun j => !(listed.setIfInBounds i true).getD j true) (List.mem_range.2 hlt) (by simp [hun])
    (by simp only [Array.getD_eq_getD_getElem?, Array.getElem?_setIfInBounds]; simp [I.sz, hlt])
    (fun y hy => by
     simp only [Array.getD_eq_getD_getElem?, Array.getElem?_setIfInBounds] at hy ⊢
     by_cases hiy : i = y
     ·subst hiy; simp [I.sz, hlt] at hy
     ·rwa [if_neg hiy] at hy)
   omega
  have hs : sps[i]? = some (sps[i]'(by rw [h.len]; exact hlt)) := List.getElem?_eq_getElem _
  generalize sps[i]'_ = sp at hs
  have hob := h.ob i o sp ho hs
  have hgo := (h.dok i o ho).2
  unfold wpOpIn
  rw [ho]
  simp only []
  -- the guard sees what it saw
  have hgd : (∀ u ∈ UAt ops.toList sps us0 i, u.slot ∉ gLooks ops o) → gdOf ops ea o = gdOf ops (EAt ops.toList sps e0 i) o := fun hu =>
   gd_congr fun d hd => h.agree I ho hni hpre (List.mem_append_right _ hd) fun u hu' he => hu u hu' (by rw [he]; exact hd)
  -- the operation's own run
  have hsame : ∀ t ∈ o.looksAt ops, selE ea (selL (o.looksAt ops) (UAt ops.toList sps us0 i)) (EAt ops.toList sps e0 i) t = ea t := fun t ht => by
   by_cases hin : ∃ u ∈ UAt ops.toList sps us0 i, u.slot = t
   ·exact selE_in (selL_mem ht hin)
   ·exact selE_same (h.agree I ho hni hpre ht fun u hu he => hin ⟨u, hu, he⟩).symm
  have hrun : (∀ u ∈ UAt ops.toList sps us0 i, u.slot ∈ o.looksAt ops → u.slot ∉ S) → ∀ R : Env → Value → List Blk → Prop, Over (o.looksAt ops) (fun e H => YR C o e H (R e)) (UAt ops.toList sps us0 i) (EAt ops.toList sps e0 i) H0 →
    OutRes C.P (R (selE ea (selL (o.looksAt ops) (UAt ops.toList sps us0 i)) (EAt ops.toList sps e0 i))) w ((execOp (ev ea) o).run C.P w) := fun hS' R hov => by
   have hy := Over_use (ea := ea) (Bs := Bs) hov (h.depsOk i (Nat.le_of_lt hlt)) (h.opened I ho hpre hS')
   have := hy w (below_mem I (Nat.le_of_lt hlt) _)
   rwa [exec_congr (ops := ops) (e' := ea) (h.ps.sel i o ho) hsame] at this
  have hgrow : ∀ {w' : World} {Hn : List Blk}, Below w.heap.size w w' → HOk w.heap.size w' Hn → HOk C.w0.heap.size w' (Hn ++ ((UAt ops.toList sps us0 ops.size).flatMap (fun u => Bs u.slot) ++ H0)) := fun h1 h2 => I.mem.grow I.below.size h1 h2
  cases sp with
  | skip =>
   obtain ⟨hg, hu⟩ := hob
   have hwant := gd_wanted I.rep ((hgd hu).trans hg) (gOk_lt hgo)
   rw [if_neg (by simp [hwant])]
   refine ⟨fun f _ => hF.fn f, ih _ _ _ _ _ (h.more I ho hs hni hpre undef (fun c e => (by cases e)) (fun _ => rfl) I.mem I.below I.marks (fun deps R deps' R' d e => (by cases e)) (fun d e => (by cases e)) (fun t _ _ => rfl)) hcnt⟩
  | det c =>
   obtain ⟨hg, hu, hS', hov⟩ := hob
   have hwant := gd_wanted I.rep ((hgd hu).trans hg) (gOk_lt hgo)
   rw [if_pos hwant]
   refine ⟨fun f _ => hF.fn f, ?_⟩
   rw [semAt_of (h.ps.ndef i o ho), I.rep.eval]
   refine uponIn_of hF (hrun hS' (fun _ v _ => v = c) hov) ?_
   rintro v w' ⟨Hn, h1, h2, rfl⟩
   exact ih _ _ _ _ _ (h.more I ho hs hni hpre v (fun c e => (by cases e; rfl)) (fun e => (by cases e)) ((hgrow h1 h2).sub (List.sublist_append_right _ _)) (I.below.trans (h1.mono I.below.size)) (I.marks.below h1)
    (fun deps R deps' R' d e => (by cases e)) (fun d e => (by cases e)) (fun t _ _ => rfl)) hcnt
  | new deps R deps' R' =>
   obtain ⟨hg, hu, hS', ⟨d, hd, _⟩, hov, hdep, hcg, _⟩ := hob
   have hwant := gd_wanted I.rep ((hgd hu).trans hg) (gOk_lt hgo)
   rw [if_pos hwant]
   refine ⟨fun f _ => hF.fn f, ?_⟩
   rw [semAt_of (h.ps.ndef i o ho), I.rep.eval]
   refine uponIn_of hF (hrun hS' R hov) ?_
   rintro v w' ⟨Hn, h1, h2, hR⟩
   have hR := hcg _ (updo ea o.dst v) (fun t ht => by
    rw [hsame t (hdep t ht).1, hd]
    exact (upd_ne ea v fun he => h.ps.self i o d ho hd (by rw [← he]; exact (hdep t ht).1)).symm) _ _ hR
   have huT := mem_UAt (us0 := us0) (by rw [h.listGet]; exact ho) hs hd ops.size hlt
   have hnp : ¬ Pres ops us0 listed d := by
    rintro (⟨u, hu0, he⟩ | ⟨j, oj, hj, hoj, hdj⟩)
    ·exact h.ps.us0 i o d ho hd (List.mem_map.2 ⟨u, hu0, he⟩)
    ·have := h.ps.uniq i j o oj d ho hoj hd hdj; subst this; exact hni hj
   have hBd : Bs d = [] := I.absn _ huT hnp
   let Bs' : Nat → List Blk := fun t => if t = d then Hn else Bs t
   have hB1 : Bs' d = Hn := if_pos rfl
   have hB2 : ∀ t, t ≠ d → Bs' t = Bs t := fun t ht => if_neg ht
   have hp := flatMap_set hBd hB1 hB2 (h.slots_nodup ops.size (Nat.le_refl _)) ⟨_, huT, rfl⟩
   refine ih _ _ _ _ Bs' (h.more I ho hs hni hpre v (fun c e => (by cases e)) (fun e => (by cases e)) ((hgrow h1 h2).perm ?_) (I.below.trans (h1.mono I.below.size)) (I.marks.below h1)
    (fun deps R deps' R' d' e hd' => ?_) (fun d e => (by cases e)) (fun t ht _ => hB2 t fun e => ht deps R deps' R' rfl (by rw [e]; exact hd))) hcnt
   ·rw [← List.append_assoc]; exact hp.append_right _
   ·cases e; rw [hd] at hd'; cases hd'; rw [hB1]; exact hR
  | st d =>
   obtain ⟨hd0, hg0, ⟨hdS, hlk⟩, ⟨u, hu, hus, hud0, hdp, hst⟩, hno⟩ := hob
   have hwant : Region.wanted o (yielded ops a.tmps) = true := by unfold Region.wanted; rw [hg0]
   rw [if_pos hwant]
   refine ⟨fun f _ => hF.fn f, ?_⟩
   rw [semAt_of (h.ps.ndef i o ho), I.rep.eval]
   have hil : i ≤ ops.size := Nat.le_of_lt hlt
   have huT : u ∈ UAt ops.toList sps us0 ops.size := h.up hil hu
   have hpr : Pres ops us0 listed u.slot := by
    rcases UAt_mem hu with hu0 | ⟨j, oj, hj, hoj, _, hdj⟩
    ·exact .inl ⟨u, hu0, rfl⟩
    ·rw [h.listGet] at hoj
     exact .inr ⟨j, oj, hpre j (h.ps.before i j o oj u.slot ho hoj hdj (by rw [hus]; exact looks_of hlk hoj (by rw [hdj, hus])) hj), hoj, hdj⟩
   have hRu := (I.opn u huT hpr).2 fun ⟨k, hk, hsk⟩ => hni (by rw [h.st1 i k d hs (by rw [← hus]; exact hsk)]; exact hk)
   have hX := flatMap_front (Bs := Bs) huT (h.slots_nodup ops.size (Nat.le_refl _))
   have hm : HOk C.w0.heap.size w (Bs u.slot ++ (((UAt ops.toList sps us0 ops.size).filter fun x => x.slot != u.slot).flatMap (fun u => Bs u.slot) ++ H0)) := I.mem.perm (by rw [← List.append_assoc]; exact (hX.append_right H0).symm)
   have hsubT : (selL (o.looksAt ops) ((UAt ops.toList sps us0 i).filter fun x => x.slot != d)).Sublist ((UAt ops.toList sps us0 ops.size).filter fun x => x.slot != u.slot) := by
    refine (selL_sub _ _).trans ?_
    rw [hus]
    obtain ⟨pre, hp⟩ := UAt_suffix (ops := ops.toList) (sps := sps) (us0 := us0) i (ops.size - i)
    rw [show i + (ops.size - i) = ops.size by omega] at hp
    rw [hp, List.filter_append]; exact List.sublist_append_right _ _
   have hSt : St C (Bs u.slot ++ selH Bs (selL (o.looksAt ops) ((UAt ops.toList sps us0 i).filter fun x => x.slot != d)) H0) w :=
    ⟨I.below, hm.sub (List.Sublist.append_left (List.Sublist.append_right (selH_ok.flatMap_sub _ hsubT) _) _), I.marks⟩
   obtain ⟨hcu, hcu'⟩ := h.dep_cong huT
   rw [hud0] at hcu
   have hst := Over_use (ea := ea) (Bs := Bs) hst (DepsOk_filter (h.depsOk i hil) (h.no_dep hdS i hil)) (h.openedF I ho hpre hno)
   obtain ⟨w', Hn', hrun', hsw, hR'⟩ := hst _ _ (hcu ea _ (fun t ht => (by cases ht)) _ _ hRu) w hSt
   have hin : ∀ u' ∈ UAt ops.toList sps us0 i, u'.slot ≠ d → u'.slot ∈ o.looksAt ops → selE ea (selL (o.looksAt ops) ((UAt ops.toList sps us0 i).filter fun x => x.slot != d)) (EAt ops.toList sps e0 i) u'.slot = ea u'.slot := fun u' hu' hne hl =>
    selE_in (selL_mem hl ⟨u', List.mem_filter.2 ⟨hu', by simp [hne]⟩, rfl⟩)
   rw [exec_congr (ops := ops) (e' := ea) (h.ps.sel i o ho) fun t ht => ?_] at hrun'
   ·rw [hrun']
    let Bs' : Nat → List Blk := fun t => if t = d then Hn' else Bs t
    have hB1 : Bs' d = Hn' := if_pos rfl
    have hB2 : ∀ t, t ≠ d → Bs' t = Bs t := fun t ht => if_neg ht
    have hp := flatMap_front (Bs := Bs') huT (h.slots_nodup ops.size (Nat.le_refl _))
    rw [hus, flatMap_other hB2, hB1] at hp
    have hupd : updo ea o.dst undef = ea := by rw [hd0]; rfl
    rw [hus] at hsw hm
    refine ih _ _ _ (updo ea o.dst undef) Bs' (h.more I ho hs hni hpre undef (fun c e => (by cases e)) (fun e => (by cases e)) ((swap_ok hsw hm).perm ?_) (swap_below hsw hm I.below) (swap_marks hsw hm I.marks)
     (fun deps R deps' R' d e => (by cases e)) (fun d' e u' hu' he => ?_) (fun t _ ht => hB2 t fun e => ht (by rw [e]))) hcnt
    ·rw [← List.append_assoc]
     exact List.Perm.append_right _ hp
    ·cases e
     have := h.slot_inj hu' huT (by rw [he, hus])
     subst this
     rw [hB1, ← hus, hupd]
     refine hcu' _ _ (fun t ht => ?_) _ _ hR'
     obtain ⟨hl, hne, x, hx, rfl⟩ := hdp t ht
     exact hin x hx hne hl
   ·by_cases htd : t = u.slot
    ·subst htd; exact upd_same ..
    ·rw [upd_ne _ _ htd]
     by_cases hex : ∃ u' ∈ UAt ops.toList sps us0 i, u'.slot = t
     ·obtain ⟨u', hu', rfl⟩ := hex
      exact hin u' hu' (by rw [← hus]; exact htd) ht
     ·exact selE_same (h.agree I ho hni hpre ht fun u' hu' he => hex ⟨u', hu', he⟩).symm
structure Pre where
 slot : Nat
 b : Nat
 o : Obj
 deps' : List Nat
 R' : Env → Value → List Blk → Prop
 cong : Cong deps' R'
def Pre.un (p : Pre) : Un := ⟨p.slot, [], fun _ _ Hn => Hn = [(p.b, p.o)], p.deps', p.R'⟩
theorem draw_any {e : Env} {H : List Blk} (hF : Wide F) (pres : List Pre) (S : List Nat)
  (hH : ∀ w, St C H w → St C (pres.map (fun p => (p.b, p.o)) ++ H0) w) (hph : phased ops (pres.map (·.slot)) = true) (hdk : (ops.all fun o => dOk n o.dst && gOk n ops o) = true)
  (hsub : (pres.all fun p => S.contains p.slot) = true) (hnd : (pres.map (·.slot)).Nodup)
  (hp : PW C ops S (fun us e => OverAll (fun e H => Q .normal e H) (fun _ => True) us e H0) H0 ops.toList [] (pres.map Pre.un) e) : (∀ w, St C H w → ∀ a, Rep n ds a e → wpAnyIn F 0 C.P .any ops (lift C n ds Q) ops.size (Array.replicate ops.size false) a w.drew) := fun w hw a ha => by
 obtain ⟨sps, h1, h2, h3, _, h5, h6⟩ := PW_specs hp
 have hslots : (pres.map Pre.un).map (·.slot) = pres.map (·.slot) := by rw [List.map_map]; rfl
 have hyp : Hyp C n ops sps e (pres.map Pre.un) S H0 := by
  refine ⟨by rw [hslots]; exact phased_spec hph, fun i o ho => ?_, by rw [h1, Array.length_toList], fun i o sp ho hs => h2 i o sp (by rw [Array.getElem?_toList]; exact ho) hs, h3,
   fun d hd => (h5 d hd).resolve_left (by simp), by rw [hslots]; exact hnd, fun u hu => ?_⟩
  rotate_left
  ·obtain ⟨p, _, rfl⟩ := List.mem_map.1 hu
   exact ⟨rfl, fun _ _ _ _ _ h => h, p.cong⟩
  rw [Array.all_eq_true] at hdk
  have := hdk i (Array.getElem?_eq_some_iff.1 ho).1
  rw [(Array.getElem?_eq_some_iff.1 ho).2] at this
  simpa using this
 have hS : HypS (pres.map Pre.un) S := ⟨fun u hu => by
  obtain ⟨p, hp, rfl⟩ := List.mem_map.1 hu
  have := List.all_eq_true.1 hsub p hp
  simpa [Pre.un] using this⟩
 let Bs : Nat → List Blk := fun t => match pres.find? (fun p => p.slot == t) with | some p => [(p.b, p.o)] | none => []
 have hBs : ∀ p ∈ pres, Bs p.slot = [(p.b, p.o)] := fun p hpm => by
  have : pres.find? (fun q => q.slot == p.slot) = some p := by
   clear hp h2 h6 hyp hS hH hph hdk hsub hslots h3 h5 h1
   induction pres with
   | nil => cases hpm
   | cons q l ih =>
    simp only [List.map_cons, List.nodup_cons] at hnd
    rcases List.mem_cons.1 hpm with rfl | hpm
    ·simp
    ·rw [List.find?_cons_of_neg, ih hnd.2 hpm]
     simp only [beq_iff_eq]
     exact fun he => hnd.1 (List.mem_map.2 ⟨p, hpm, he.symm⟩)
  simp only [Bs, this]
 have hB0 : ∀ t, (∀ p ∈ pres, p.slot ≠ t) → Bs t = [] := fun t ht => by
  have : pres.find? (fun q => q.slot == t) = none := List.find?_eq_none.2 fun p hpm => by simp [ht p hpm]
  simp only [Bs, this]
 have hw' := (hH w hw).drew
 have hTmem : ∀ u ∈ UAt ops.toList sps (pres.map Pre.un) ops.size, ¬ Pres ops (pres.map Pre.un) (Array.replicate ops.size false) u.slot → Bs u.slot = [] := fun u _ hnp =>
  hB0 _ fun p hpm he => hnp (.inl ⟨p.un, List.mem_map.2 ⟨p, hpm, rfl⟩, he⟩)
 have hnl : ∀ i, ¬ Lst (Array.replicate ops.size false) i := fun i hl => by
  unfold Lst at hl
  rw [Array.getD_eq_getD_getElem?, Array.getElem?_replicate] at hl
  split at hl <;> cases hl
 have hmemT : HOk C.w0.heap.size w.drew ((UAt ops.toList sps (pres.map Pre.un) ops.size).flatMap (fun u => Bs u.slot) ++ H0) := by
  have hkey : ∀ i, i ≤ ops.size → (UAt ops.toList sps (pres.map Pre.un) i).flatMap (fun u => Bs u.slot) = pres.map (fun p => (p.b, p.o)) := by
   intro i
   induction i with
   | zero =>
    intro _
    show (pres.map Pre.un).flatMap _ = _
    have : ∀ l : List Pre, (∀ p ∈ l, Bs p.slot = [(p.b, p.o)]) → (l.map Pre.un).flatMap (fun u => Bs u.slot) = l.map (fun p => (p.b, p.o)) := by
     intro l
     induction l with
     | nil => intro _; rfl
     | cons p l ih =>
      intro hl
      rw [List.map_cons, List.flatMap_cons, ih fun q hq => hl q (List.mem_cons_of_mem _ hq), List.map_cons]
      show Bs p.slot ++ _ = _
      rw [hl p (List.mem_cons_self ..)]; rfl
    exact this pres hBs
   | succ i ih =>
    intro hi
    have ih := ih om0
    have ho : ops[i]? = some ops[i] := Array.getElem?_eq_getElem om0
    have hs : sps[i]? = some (sps[i]'(by rw [hyp.len]; omega)) := List.getElem?_eq_getElem _
    simp only [UAt, hyp.listGet, ho, hs]
    unfold nextU
    split
    ·rename_i deps R deps' R' d _ hd
     rw [List.flatMap_cons, ih]
     show Bs d ++ _ = _
     rw [hB0 d fun p hpm he => hyp.ps.us0 i _ d ho hd (by rw [hslots]; exact List.mem_map.2 ⟨p, hpm, he⟩)]
     rfl
    ·exact ih
  rw [hkey ops.size (Nat.le_refl _)]
  exact hw'.2
 refine hyp.run hF hS (by rw [Array.length_toList] at h6; exact h6) ops.size _ a w.drew e Bs ⟨ha, by simp, fun j k hj => absurd hj (hnl j), fun i o c d hi => absurd hi (hnl i), fun i o d hi => absurd hi (hnl i), fun u hu hpr => ?_, hTmem, fun t _ => rfl, hmemT, hw'.1, hw'.3⟩ ?_
 ·refine ⟨fun ⟨k, hk, _⟩ => absurd hk (hnl k), fun _ => ?_⟩
  rcases hpr with ⟨u0, hu0, he⟩ | ⟨i, o, hi, _⟩
  ·have huu := hyp.slot_inj hu (mem_UAt0 hu0 _) he.symm
   subst huu
   obtain ⟨p, hpm, rfl⟩ := List.mem_map.1 hu0
   exact hBs p hpm
  ·exact absurd hi (hnl i)
 ·refine Nat.le_trans List.countP_le_length ?_
  rw [List.length_range]; exact Nat.le_refl _
theorem W_draw {id : Nat} {e : Env} {H : List Blk} (hF : Wide F) (hm : C.P.follows .mixedOrders = true) (pres : List Pre) (S : List Nat)
  (hH : ∀ N w, HOk N w H → HOk N w (pres.map (fun p => (p.b, p.o)) ++ H0)) (hph : phased ops (pres.map (·.slot)) = true) (hdk : (ops.all fun o => dOk n o.dst && gOk n ops o) = true)
  (hsub : (pres.all fun p => S.contains p.slot) = true) (hnd : (pres.map (·.slot)).Nodup)
  (hp : ∀ ds, PW (C.at ds) ops S (fun us e => OverAll (fun e H => Q .normal e H) (fun _ => True) us e H0) H0 ops.toList [] (pres.map Pre.un) e) : W C F n ds (.region id ops true) Q e H := fun dd w hw a ha =>
 wpIn_mono (wpIn_region_any hm (draw_any (C := C.at dd) (ds := dd) hF pres S (fun _ hw => ⟨hw.1, hH _ _ hw.2, hw.3⟩) hph hdk hsub hnd (hp dd) w hw a ha)) fun _ _ _ h => lift_M h
end
end Go.Eng
namespace Go.Eng
open Go.RowKit
def CB (vs : List Value) (T : TypeId) : Obj := .cells vs.toArray T (0, 0)
def I64 (x : Int) : Prop := -9223372036854775808 ≤ x ∧ x ≤ 9223372036854775807
def At (w : World) (b o : Nat) : List Value → Prop
 | [] => True
 | v :: vs => w.cell? ⟨b, o, none⟩ = some v ∧ At w b (o + 1) vs
def Mem (C : Ctx) (H : List Blk) (b o : Nat) (us : List Value) : Prop := ∀ w, St C H w → At w b o us
theorem at_block {w : World} {b : Nat} {vs : List Value} {T : TypeId} (h : w.heap[b]? = some (CB vs T)) : ∀ {us : List Value} {o : Nat} {rest : List Value}, vs.drop o = us ++ rest → At w b o us
 | [], _, _, _ => trivial
 | u :: us, o, rest, hd => by
  have hg : vs[o]? = some u := by
   have := congrArg (fun l => l[0]?) hd
   simpa using this
  have hd' : vs.drop (o + 1) = us ++ rest := by
   have := congrArg (fun l => l.drop 1) hd
   simpa [List.drop_drop, Nat.add_comm 1 o] using this
  refine ⟨?_, at_block h hd'⟩
  unfold World.cell?
  simp only [h, CB]
  simpa using hg
theorem Mem.own {C : Ctx} {H : List Blk} {b o : Nat} {vs us rest : List Value} {T : TypeId} (i : Nat) (hi : H[i]? = some (b, CB vs T)) (hd : vs.drop o = us ++ rest) : Mem C H b o us :=
 fun _ hw => at_block (hw.get hi) hd
theorem Mem.own1 {C : Ctx} {H : List Blk} {b o : Nat} {vs : List Value} {u : Value} {T : TypeId} (i : Nat) (hi : H[i]? = some (b, CB vs T)) (hd : vs[o]? = some u) : Mem C H b o [u] :=
 fun w hw => ⟨by unfold World.cell?; simp only [hw.get hi, CB]; simpa using hd, trivial⟩
theorem At.old {w w' : World} {b : Nat} (hb : Below w.heap.size w w') : ∀ {us : List Value} {o : Nat}, At w b o us → At w' b o us
 | [], _, _ => trivial
 | _ :: _, _, h => ⟨(hb.cell (p := ⟨b, _, none⟩) (World.block_lt_of_cell? _ _ h.1)).trans h.1, At.old hb h.2⟩
theorem Mem.old {C : Ctx} {H : List Blk} {b o : Nat} {us : List Value} (h : At C.w0 b o us) : Mem C H b o us := fun _ hw => At.old hw.1 h
theorem Mem.old1 {C : Ctx} {H : List Blk} {b o : Nat} {u : Value} (h : C.w0.cell? ⟨b, o, none⟩ = some u) : Mem C H b o [u] := Mem.old ⟨h, trivial⟩
section
variable {C : Ctx} {e : Env} {H : List Blk} {d : Option Tmp} {ty : TypeId} {pos : String} {af : Array Edge} {g : Option (Nat × Bool)}
def YD (C : Ctx) (o : Oper) (e : Env) (H : List Blk) (c : Value) : Prop := YR C o e H fun v _ => v = c
theorem yd_of {o : Oper} {c : Value} (h : ∀ w, St C H w → (execOp (ev e) o).run C.P w = .ok (.value c) w) : YD C o e H c := fun w hw => by
 rw [h w hw]; exact ⟨[], Below.refl _ _, HOk.nil _ _, rfl⟩
theorem YR.mono {o : Oper} {R R' : Value → List Blk → Prop} (h : YR C o e H R) (hr : ∀ v Hn, R v Hn → R' v Hn) : YR C o e H R' := fun w hw => by
 have := h w hw
 generalize (execOp (ev e) o).run C.P w = r at *
 cases r with
 | ok x w' =>
  cases x <;> simp only [OutRes] at this ⊢
  case value v => obtain ⟨Hn, h1, h2, h3⟩ := this; exact ⟨Hn, h1, h2, hr _ _ h3⟩
  case skip => obtain ⟨Hn, h1, h2, h3⟩ := this; exact ⟨Hn, h1, h2, hr _ _ h3⟩
  case enter f args =>
   refine ⟨this.1, Calls.mono this.2 ?_⟩
   rintro en w'' ⟨v, he, Hn, h1, h2, h3⟩
   exact ⟨v, he, Hn, h1, h2, hr _ _ h3⟩
 | halt => exact this
theorem y_move {x : Operand} {c : Value} (h : ev e x = c) : YD C ⟨d, .move x, ty, pos, af, g⟩ e H c := yd_of fun w _ => by simp [execOp, h]
theorem y_assign {x : Operand} {c : Value} (h : ev e x = c) : YD C ⟨d, .assign x, ty, pos, af, g⟩ e H c := yd_of fun w _ => by simp [execOp, h]
theorem y_pick_t {x y z : Operand} {c : Value} (hx : ev e x = .bool true) (h : ev e y = c) : YD C ⟨d, .pick x y z, ty, pos, af, g⟩ e H c := yd_of fun w _ => by simp [execOp, hx, h, asBool]
theorem y_pick_f {x y z : Operand} {c : Value} (hx : ev e x = .bool false) (h : ev e z = c) : YD C ⟨d, .pick x y z, ty, pos, af, g⟩ e H c := yd_of fun w _ => by simp [execOp, hx, h, asBool]
section
variable {x y : Operand} {t t' : TypeId} {m n : Int} {k : IntKind}
theorem wrapI {x : Int} (h : I64 x) : IntKind.i64.wrap x = x := IntWalk.i64_in x (by unfold I64 at h; omega)
theorem y_add (hx : ev e x = .int .i64 m) (hy : ev e y = .int .i64 n) (h : I64 (m + n)) : YD C ⟨d, .binOp .add t x y t', ty, pos, af, g⟩ e H (.int .i64 (m + n)) :=
 yd_of fun w _ => by simp [execOp, hx, hy, eqGuard, binOp, Op.intArith, wrapI h]
theorem y_sub (hx : ev e x = .int .i64 m) (hy : ev e y = .int .i64 n) (h : I64 (m - n)) : YD C ⟨d, .binOp .sub t x y t', ty, pos, af, g⟩ e H (.int .i64 (m - n)) :=
 yd_of fun w _ => by simp [execOp, hx, hy, eqGuard, binOp, Op.intArith, wrapI h]
theorem y_mul (hx : ev e x = .int .i64 m) (hy : ev e y = .int .i64 n) (h : I64 (m * n)) : YD C ⟨d, .binOp .mul t x y t', ty, pos, af, g⟩ e H (.int .i64 (m * n)) :=
 yd_of fun w _ => by simp [execOp, hx, hy, eqGuard, binOp, Op.intArith, wrapI h]
theorem y_lss (hx : ev e x = .int k m) (hy : ev e y = .int k n) : YD C ⟨d, .binOp .lss t x y t', ty, pos, af, g⟩ e H (.bool (decide (m < n))) :=
 yd_of fun w _ => by simp [execOp, hx, hy, eqGuard, binOp, Op.intCmp]
theorem y_leq (hx : ev e x = .int k m) (hy : ev e y = .int k n) : YD C ⟨d, .binOp .leq t x y t', ty, pos, af, g⟩ e H (.bool (decide (m ≤ n))) :=
 yd_of fun w _ => by simp [execOp, hx, hy, eqGuard, binOp, Op.intCmp]
theorem y_gtr (hx : ev e x = .int k m) (hy : ev e y = .int k n) : YD C ⟨d, .binOp .gtr t x y t', ty, pos, af, g⟩ e H (.bool (decide (n < m))) :=
 yd_of fun w _ => by simp [execOp, hx, hy, eqGuard, binOp, Op.intCmp]
theorem y_geq (hx : ev e x = .int k m) (hy : ev e y = .int k n) : YD C ⟨d, .binOp .geq t x y t', ty, pos, af, g⟩ e H (.bool (decide (n ≤ m))) :=
 yd_of fun w _ => by simp [execOp, hx, hy, eqGuard, binOp, Op.intCmp]
theorem y_eql (hx : ev e x = .int k m) (hy : ev e y = .int k n) : YD C ⟨d, .binOp .eql t x y t', ty, pos, af, g⟩ e H (.bool (decide (m = n))) :=
 yd_of fun w _ => by
  have : (m == n) = decide (m = n) := by by_cases h : m = n <;> simp [h]
  simp [execOp, hx, hy, eqGuard, binOp, Op.intCmp, this]
theorem y_neq (hx : ev e x = .int k m) (hy : ev e y = .int k n) : YD C ⟨d, .binOp .neq t x y t', ty, pos, af, g⟩ e H (.bool (decide (m ≠ n))) :=
 yd_of fun w _ => by
  have : (m != n) = decide (m ≠ n) := by by_cases h : m = n <;> simp [h]
  simp [execOp, hx, hy, eqGuard, binOp, Op.intCmp, this]
theorem y_not {b : Bool} (hx : ev e x = .bool b) : YD C ⟨d, .unOp .not t x, ty, pos, af, g⟩ e H (.bool (!b)) :=
 yd_of fun w _ => by simp [execOp, hx, Op.unary]
end
theorem y_extract {x : Operand} {i : Nat} {vs : Array Value} {c : Value} (hx : ev e x = .tuple vs) (hi : vs[i]? = some c) : YD C ⟨d, .extract x i, ty, pos, af, g⟩ e H c :=
 yd_of fun w _ => by simp [execOp, hx, Instr.extract, hi]
theorem y_makeFunc {fn : Fn} {first captured : Array Operand} {a b : Array Value} (ha : first.map (ev e) = a) (hb : captured.map (ev e) = b) : YD C ⟨d, .makeFunc fn first captured, ty, pos, af, g⟩ e H (.func fn a b) :=
 yd_of fun w _ => by simp [execOp, ha, hb, Instr.makeFunc]
theorem out_new {w : World} {o : Obj} {R : Value → List Blk → Prop} {v : Value} (hk : o ≠ .deferred (some [])) (h : R v [(w.heap.size, o)]) : Out R v w (w.alloc o) := by
 refine ⟨[(w.heap.size, o)], (Below.refl _ _).alloc (Nat.le_refl _) _, ⟨fun x hx => ?_, by simp, fun x hx => ?_⟩, h⟩
 ·simp only [List.mem_singleton] at hx
  subst hx
  exact ⟨Nat.le_refl _, heap_alloc_new w _⟩
 ·simp only [List.mem_singleton] at hx
  subst hx
  exact hk
def NewPtr (o : Obj) (v : Value) (Hn : List Blk) : Prop := ∃ b, v = .pointer (some ⟨b, 0, none⟩) ∧ Hn = [(b, o)]
theorem y_box {x : Operand} {T : TypeId} {vs : List Value} (hx : (ev e x).cells = vs.toArray) : YR C ⟨d, .box T x, ty, pos, af, g⟩ e H (NewPtr (CB vs T)) := fun w _ => by
 have : (execOp (ev e) ⟨d, .box T x, ty, pos, af, g⟩).run C.P w = .ok (.value (.pointer (some ⟨w.heap.size, 0, none⟩))) (w.alloc (CB vs T)) := by
  simp [execOp, Instr.box, newVar, newRow, newObj, hx, CB]; rfl
 rw [this]; exact out_new (fun h => by cases h) ⟨_, rfl, rfl⟩
theorem y_alloc {T : TypeId} {z : Value} {vs : List Value} (hz : ∀ w, (zeroValue T).run C.P w = .ok z w) (hc : z.cells = vs.toArray) : YR C ⟨d, .alloc T, ty, pos, af, g⟩ e H (NewPtr (CB vs T)) := fun w _ => by
 have : (execOp (ev e) ⟨d, .alloc T, ty, pos, af, g⟩).run C.P w = .ok (.value (.pointer (some ⟨w.heap.size, 0, none⟩))) (w.alloc (CB vs T)) := by
  simp [execOp, Instr.alloc, hz, newVar, newRow, newObj, hc, CB]; rfl
 rw [this]; exact out_new (fun h => by cases h) ⟨_, rfl, rfl⟩
theorem y_build {T : TypeId} {parts : Array (Nat × Operand)} {ps : Array (Nat × Value)} {c : Value} (hp : parts.map (fun x => (x.1, ev e x.2)) = ps) (hb : ∀ w, (Instr.build T ps).run C.P w = .ok c w) :
  YD C ⟨d, .build T parts, ty, pos, af, g⟩ e H c := yd_of fun w _ => by simp [execOp, hp, hb]
def NewSlice (o : Obj) (n : Nat) (v : Value) (Hn : List Blk) : Prop := ∃ b, v = .slice (some ⟨b, 0, none⟩) n n ∧ Hn = [(b, o)]
theorem y_buildSlice {T E : TypeId} {n : Nat} {parts : Array (Nat × Operand)} {ps : Array (Nat × Value)} {vs : List Value} (hp : parts.map (fun x => (x.1, ev e x.2)) = ps)
  (hb : ∀ w, (Instr.buildSlice T n ps).run C.P w = .ok (.slice (some ⟨w.heap.size, 0, none⟩) n n) (w.alloc (CB vs E))) :
  YR C ⟨d, .buildSlice T n parts, ty, pos, af, g⟩ e H (NewSlice (CB vs E) n) := fun w _ => by
 have : (execOp (ev e) ⟨d, .buildSlice T n parts, ty, pos, af, g⟩).run C.P w = .ok (.value (.slice (some ⟨w.heap.size, 0, none⟩) n n)) (w.alloc (CB vs E)) := by simp [execOp, hp, hb]
 rw [this]; exact out_new (fun h => by cases h) ⟨_, rfl, rfl⟩
theorem run_load1 {P : Program} {w : World} {a : Addr} {v : Value} (h : w.cell? a = some v) : (load a).run P w = .ok v w := by simp [load, Sem.run, h]
theorem run_loads {P : Program} {w : World} {b o : Nat} : ∀ {us : List Value} {i : Nat} {acc : Array Value}, At w b (o + i) us → (loadCellsFrom ⟨b, o, none⟩ i us.length acc).run P w = .ok (acc ++ us.toArray) w
 | [], i, acc, _ => by simp [loadCellsFrom]
 | u :: us, i, acc, h => by
  have ha : (⟨b, o, none⟩ : Addr).add i = ⟨b, o + i, none⟩ := by unfold Addr.add; split <;> simp_all
  have ih := run_loads (P := P) (us := us) (i := i + 1) (acc := acc.push u) (by rw [← Nat.add_assoc]; exact h.2)
  simp only [List.length_cons, loadCellsFrom, ha]
  simp [run_load1 h.1, ih]
theorem y_load1 {x : Operand} {T : TypeId} {b o : Nat} {v : Value} (hx : ev e x = .pointer (some ⟨b, o, none⟩)) (hT : ∀ w, (isAgg T).run C.P w = .ok false w) (hm : Mem C H b o [v]) :
  YD C ⟨d, .load T x, ty, pos, af, g⟩ e H v := yd_of fun w hw => by
 have := (hm w hw).1
 simp [execOp, hx, Instr.loadAt, Instr.sureAddr, loadVar, hT, this]
theorem y_loadN {x : Operand} {T : TypeId} {b o n : Nat} {us : List Value} (hx : ev e x = .pointer (some ⟨b, o, none⟩)) (hT : ∀ w, (isAgg T).run C.P w = .ok true w) (hs : ∀ w, (sizeOf T).run C.P w = .ok n w)
  (hm : Mem C H b o us) (hn : us.length = n) : YD C ⟨d, .load T x, ty, pos, af, g⟩ e H (.agg us.toArray) := yd_of fun w hw => by
 subst hn
 have := run_loads (P := C.P) (i := 0) (acc := #[]) (by simpa using hm w hw)
 simp [execOp, hx, Instr.loadAt, Instr.sureAddr, loadVar, hT, hs, loadCells, this]
theorem y_fieldAddr {x : Operand} {T : TypeId} {f b o o' : Nat} (hx : ev e x = .pointer (some ⟨b, o, none⟩)) (hf : ∀ b o w, (Instr.fieldAt T (.pointer (some ⟨b, o, none⟩)) f).run C.P w = .ok (.pointer (some ⟨b, o + o', none⟩)) w) :
  YD C ⟨d, .fieldAddr T x f, ty, pos, af, g⟩ e H (.pointer (some ⟨b, o + o', none⟩)) := yd_of fun w _ => by simp [execOp, hx, hf]
theorem y_index {x i : Operand} {T E : TypeId} {b o len cap sz k : Nat} {n : Int} {kk : IntKind} (hx : ev e x = .slice (some ⟨b, o, none⟩) len cap) (hi : ev e i = .int kk n) (hn : n = (k : Int)) (hk : k < len)
  (hT : ∀ w, (underlying T).run C.P w = .ok (.slice E) w) (hE : ∀ w, (sizeOf E).run C.P w = .ok sz w) : YD C ⟨d, .indexAddr T x i, ty, pos, af, g⟩ e H (.pointer (some ⟨b, o + k * sz, none⟩)) := yd_of fun w _ => by
 subst hn
 have h3 : (⟨b, o, none⟩ : Addr).add (k * sz) = ⟨b, o + k * sz, none⟩ := by unfold Addr.add; split <;> simp_all
 simp [execOp, hx, hi, Instr.indexAt, asIntOf, hT, hE, h3]
 exact fun h => absurd h om0
theorem y_indexA {x i : Operand} {T E : TypeId} {b o len sz k : Nat} {n : Int} {kk : IntKind} (hx : ev e x = .pointer (some ⟨b, o, none⟩)) (hi : ev e i = .int kk n) (hn : n = (k : Int)) (hk : k < len)
  (hT : ∀ w, (underlying T).run C.P w = .ok (.array len E) w) (hE : ∀ w, (sizeOf E).run C.P w = .ok sz w) : YD C ⟨d, .indexAddr T x i, ty, pos, af, g⟩ e H (.pointer (some ⟨b, o + k * sz, none⟩)) := yd_of fun w _ => by
 subst hn
 have h3 : (⟨b, o, none⟩ : Addr).add (k * sz) = ⟨b, o + k * sz, none⟩ := by unfold Addr.add; split <;> simp_all
 simp [execOp, hx, hi, Instr.indexAt, Instr.sureAddr, asIntOf, hT, hE, h3]
 exact fun h => absurd h om0
theorem y_len {x : Operand} {T E : TypeId} {a : Option Addr} {len cap : Nat} (hx : ev e x = .slice a len cap) (hT : ∀ w, (underlying T).run C.P w = .ok (.slice E) w) :
  YD C ⟨d, .call ⟨.builtin .len, #[x], #[T]⟩, ty, pos, af, g⟩ e H (.int .i64 len) := yd_of fun w _ => by
 simp [execOp, resolve, invoke, builtin, Builtin.len_, hx, hT, goInt]
theorem y_call {x : Operand} {args : Array Operand} {ats : Array TypeId} {f : FuncId} {first captured vs : Array Value} {R : Value → List Blk → Prop} (hx : ev e x = .func (.func f) first captured)
  (ha : first ++ args.map (ev e) ++ captured = vs) (hc : ∀ args w, (callFunc f args).run C.P w = .ok (.enter f args) w) (hR : ∀ w, St C H w → Ct C.P f vs w R) :
  YR C ⟨d, .call ⟨.value x, args, ats⟩, ty, pos, af, g⟩ e H R := fun w hw => by
 have : (execOp (ev e) ⟨d, .call ⟨.value x, args, ats⟩, ty, pos, af, g⟩).run C.P w = .ok (.enter f vs) w := by
  simp only [execOp, resolve, hx, Deferred.ofValue]
  simp [invoke, ha, hc]
 rw [this]
 exact ⟨rfl, hR w hw⟩
end
end Go.Eng
namespace Go.Eng
open Go.RowKit
def splice (vs : List Value) (o : Nat) (us : List Value) : List Value := vs.take o ++ us ++ vs.drop (o + us.length)
section
variable {C : Ctx} {F : Fence} {n : Nat} {ds : List Deferred} {all : Array Oper} {Q : Exit → Env → List Blk → Prop} {rest : List Oper} {e : Env} {H : List Blk}
variable {d : Option Tmp} {ty : TypeId} {pos : String} {af : Array Edge} {g : Option (Nat × Bool)}
theorem run_store {x v : Operand} {T Tb : TypeId} {b off k : Nat} {vs us : List Value} {w : World} (hp : ev e x = .pointer (some ⟨b, off, none⟩)) (hv : (ev e v).cells = us.toArray) (hs : ∀ w, (sizeOf T).run C.P w = .ok k w)
  (hl : us.length = k) (hone : us.all Value.oneCell' = true) (hfit : off + us.length ≤ vs.length) (hb : w.heap[b]? = some (CB vs Tb)) :
  (execOp (ev e) ⟨d, .store T x v, ty, pos, af, g⟩).run C.P w = .ok .skip (w.setRow b (splice vs off us).toArray) := by
 subst hl
 have h := run_storeCells_at (P := C.P) b off Tb us 0 vs.toArray w hb (by simpa using hfit) (fun v hv => List.all_eq_true.1 hone v hv)
 simp only [Nat.add_zero] at h
 have h' : (storeCells ⟨b, off, none⟩ us).run C.P w = .ok () (w.setRow b (splice vs off us).toArray) := h
 simp [execOp, Instr.storeAt, Instr.sureAddr, storeVar, hp, hv, hs, h']
theorem setRow_CB {w : World} {b : Nat} {vs vs' : List Value} {T : TypeId} (hb : w.heap[b]? = some (CB vs T)) : (w.setRow b vs'.toArray).heap[b]? = some (CB vs' T) := setRow_heap w b _ _ _ _ hb
theorem swap_setRow {w : World} {b : Nat} {vs vs' : List Value} {T : TypeId} (hb : w.heap[b]? = some (CB vs T)) : Swap [(b, CB vs T)] [(b, CB vs' T)] w (w.setRow b vs'.toArray) :=
 ⟨rfl, rfl, rfl, rfl, size_setRow .., fun k hk => setRow_other _ _ _ _ (by simpa using hk), fun x hx => by
  simp only [List.mem_singleton] at hx
  subst hx
  exact setRow_CB hb, fun x hx h => by
  simp only [List.mem_singleton] at hx
  subst hx
  cases h⟩
theorem perm_erase {x : Blk} : ∀ {H : List Blk} {i : Nat}, H[i]? = some x → H.Perm (x :: H.eraseIdx i)
 | [], _, h => by simp at h
 | y :: H, 0, h => by
  simp only [List.getElem?_cons_zero, Option.some.injEq] at h
  subst h
  exact List.Perm.refl _
 | y :: H, i + 1, h => by
  have ih := perm_erase (H := H) (i := i) (by simpa using h)
  rw [List.eraseIdx_cons_succ]
  exact (ih.cons y).trans (List.Perm.swap ..)
theorem perm_set {y : Blk} : ∀ {H : List Blk} {i : Nat}, i < H.length → (H.set i y).Perm (y :: H.eraseIdx i)
 | [], _, h => by simp at h
 | x :: H, 0, _ => List.Perm.refl _
 | x :: H, i + 1, h => by
  have ih := perm_set (y := y) (H := H) (i := i) (by simpa using h)
  rw [List.set_cons_succ, List.eraseIdx_cons_succ]
  exact (ih.cons x).trans (List.Perm.swap ..)
theorem St.set {C : Ctx} {H : List Blk} {w w' : World} {i b : Nat} {o o' : Obj} (hw : St C H w) (hi : H[i]? = some (b, o)) (hs : Swap [(b, o)] [(b, o')] w w') : St C (H.set i (b, o')) w' := by
 have hlt : i < H.length := (List.getElem?_eq_some_iff.1 hi).1
 have hp : H.Perm ((b, o) :: H.eraseIdx i) := perm_erase hi
 have hp' : (H.set i (b, o')).Perm ((b, o') :: H.eraseIdx i) := perm_set hlt
 have h1 := hw.2.perm hp.symm
 exact ⟨swap_below (X := H.eraseIdx i) (Hn := [(b, o)]) hs h1 hw.1, (swap_ok (X := H.eraseIdx i) (Hn := [(b, o)]) hs h1).perm hp', swap_marks (X := H.eraseIdx i) (Hn := [(b, o)]) hs h1 hw.3⟩
theorem WS_store (hF : Wide F) {x v : Operand} {T Tb : TypeId} {b off k i : Nat} {vs us : List Value} (hp : ev e x = .pointer (some ⟨b, off, none⟩)) (hv : (ev e v).cells = us.toArray)
  (hs : ∀ w, (sizeOf T).run C.P w = .ok k w) (hl : us.length = k) (hone : us.all Value.oneCell' = true) (hi : H[i]? = some (b, CB vs Tb)) (hfit : off + us.length ≤ vs.length)
  (hk : WS C F n ds all Q rest e (H.set i (b, CB (splice vs off us) Tb))) : WS C F n ds all Q (⟨none, .store T x v, ty, pos, af, none⟩ :: rest) e H := fun w hw a ha => by
 have hb := hw.get hi
 unfold wpListIn
 rw [if_pos rf]
 refine ⟨fun f _ => hF.fn f, ?_⟩
 rw [semAt_of rfl, ha.eval, run_store hp hv hs hl hone hfit hb]
 exact hk _ (hw.set hi (swap_setRow hb)) _ ha
def LV (C : Ctx) (e : Env) (H : List Blk) (t : Tmp) (T : TypeId) (v : Value) : Prop := ∀ w, St C H w → ∃ a, e t = .pointer (some a) ∧ (loadVar T a).run C.P w = .ok v w
theorem lv1 {t : Tmp} {T : TypeId} {b o : Nat} {v : Value} (hx : e t = .pointer (some ⟨b, o, none⟩)) (hT : ∀ w, (isAgg T).run C.P w = .ok false w) (hm : Mem C H b o [v]) : LV C e H t T v := fun w hw => by
 have := (hm w hw).1
 exact ⟨_, hx, by simp [loadVar, hT, this]⟩
theorem lvN {t : Tmp} {T : TypeId} {b o n : Nat} {us : List Value} (hx : e t = .pointer (some ⟨b, o, none⟩)) (hT : ∀ w, (isAgg T).run C.P w = .ok true w) (hs : ∀ w, (sizeOf T).run C.P w = .ok n w)
  (hm : Mem C H b o us) (hn : us.length = n) : LV C e H t T (.agg us.toArray) := fun w hw => by
 subst hn
 have := run_loads (P := C.P) (i := 0) (acc := #[]) (by simpa using hm w hw)
 exact ⟨_, hx, by simp [loadVar, hT, hs, loadCells, this]⟩
def RVs (C : Ctx) (e : Env) (H : List Blk) : List ResultVar → List Value → Prop
 | [], [] => True
 | .tmp t :: rs, v :: vs => e t = v ∧ RVs C e H rs vs
 | .cell t T :: rs, v :: vs => LV C e H t T v ∧ RVs C e H rs vs
 | _, _ => False
def tupOf (vs : List Value) : Value := match vs with | [v] => v | vs => .tuple vs.toArray
theorem run_RVs {w : World} {f : ResultVar → Sem Value} (ht : ∀ t, f (.tmp t) = pure (e t)) (hc : ∀ a t, f (.cell a t) = (do loadVar t (← asAddr (e a)))) (hw : St C H w) :
  ∀ {rs : List ResultVar} {vs : List Value}, RVs C e H rs vs → (rs.mapM f).run C.P w = .ok vs w
 | [], [], _ => by simp
 | .tmp t :: rs, v :: vs, h => by
  have ih := run_RVs ht hc hw h.2
  have h1 := h.1
  subst h1
  rw [List.mapM_cons, ht]
  simp [ih]
 | .cell t T :: rs, v :: vs, h => by
  have ih := run_RVs ht hc hw h.2
  obtain ⟨a, ha, hr⟩ := h.1 w hw
  have hA : (asAddr (e t)).run C.P w = .ok a w := by rw [ha]; rfl
  rw [List.mapM_cons, hc]
  simp [ih, hA, hr]
 | [], _ :: _, h => h.elim
 | .tmp _ :: _, [], h => h.elim
 | .cell _ _ :: _, [], h => h.elim
theorem run_results' {w : World} {f : ResultVar → Sem Value} (ht : ∀ t, f (.tmp t) = pure (e t)) (hc : ∀ a t, f (.cell a t) = (do loadVar t (← asAddr (e a)))) (hw : St C H w) {rs : Array ResultVar} {vs : List Value}
  (h : RVs C e H rs.toList vs) : (do let vs ← rs.mapM f; pure (if h : vs.size = 1 then vs[0] else .tuple vs) : Sem Value).run C.P w = .ok (tupOf vs) w := by
 have h1 : (rs.mapM f).run C.P w = .ok vs.toArray w := by
  rw [Array.mapM_eq_mapM_toList]
  simp only [Sem.run_map, run_RVs ht hc hw h]
  rfl
 simp only [Sem.run_bind, h1]
 unfold tupOf
 split
 ·rfl
 ·rename_i hv
  simp only [Result.andThen, Sem.run_pure]
  rw [dif_neg]
  intro hl
  match vs, hl with
  | [v], _ => exact hv v rfl
theorem run_results {fn : Func} {tmps : Array Value} {w : World} {vs : List Value} (ht : ∀ t, tmps.getD t undef = e t) (hw : St C H w) (h : RVs C e H fn.results.toList vs) : (results fn tmps).run C.P w = .ok (tupOf vs) w := by
 unfold results
 exact run_results' (fun t => by simp only [ht]) (fun a t => by simp only [ht]) hw h
def HSub (H Hn : List Blk) : Prop := ∀ N w, HOk N w H → HOk N w Hn
theorem HSub.nil : HSub H [] := fun N w _ => HOk.nil N w
theorem HSub.refl : HSub H H := fun _ _ h => h
theorem HSub.sub {Hn : List Blk} (h : Hn.Sublist H) : HSub H Hn := fun _ _ h' => h'.sub h
theorem HSub.perm {Hn Hm : List Blk} (h : HSub H Hn) (p : Hm.Perm Hn) : HSub H Hm := fun N w h' => (h N w h').perm p
def Fin (C : Ctx) (fn : Func) (R : Value → List Blk → Prop) : Exit → Env → List Blk → Prop
 | .normal, e, H | .ret, e, H => ∃ vs Hn, RVs C e H fn.results.toList vs ∧ HSub H Hn ∧ R (tupOf vs) Hn
 | _, _, _ => False
def start (l : List Value) : Env := fun t => l.getD t undef
theorem calls_of_W {C : Ctx} {f : FuncId} {args : List Value} {w : World} {fn : Func} {c : Code} {R : Value → List Blk → Prop} {H : List Blk} (hf : C.P.funcs[f]? = some fn) (hb : fn.body = some c) (hl : Nat.ble args.length fn.ntmps = true)
  (hds : C.ds = []) (h : W C Fence.wide fn.ntmps [] c (Fin C fn R) (start args) H) (hw : St C H w) : Calls C.P f args.toArray w fun en w' => ∃ v Hn, en = .returned v ∧ St C Hn w' ∧ R v Hn := by
 have hl' : args.length ≤ fn.ntmps := Nat.le_of_ble_eq_true hl
 refine calls_of_in wide_wide (k := 0) (callsIn_of_wp_marks hf hb trivial ?_ rfl)
 have hrep : Rep fn.ntmps [] { tmps := args.toArray ++ Array.replicate (fn.ntmps - args.toArray.size) undef, defers := [] } (start args) := by
  refine ⟨by simp; omega, rfl, fun t => ?_⟩
  simp only [start, Array.getD_eq_getD_getElem?, List.getD_eq_getElem?_getD]
  rw [Array.getElem?_append]
  split
  ·simp
  ·rename_i hlt
   have hlt : args.length ≤ t := by simpa using hlt
   rw [List.getElem?_eq_none hlt, Array.getElem?_replicate]
   split <;> rfl
 refine wpIn_mono (h [] w ⟨hw.1, hw.2, by have := hw.3; rw [hds] at this; exact this⟩ _ hrep) ?_
 -- the marks are taken off, one by one
 have fin : ∀ (ds : List Deferred) {a : Act} {w' : World} {e : Env} {H : List Blk}, (∀ t, a.tmps.getD t undef = e t) → St (C.at ds) H w' → (∃ vs Hn, RVs C e H fn.results.toList vs ∧ HSub H Hn ∧ R (tupOf vs) Hn) →
   LeavesInM Fence.wide 0 C.P fn a.tmps (fun en w' => ∃ v Hn, en = .returned v ∧ St C Hn w' ∧ R v Hn) ds .returning w' := by
  intro ds
  induction ds with
  | nil =>
   rintro a w' e H ha hw ⟨vs, Hn, h1, h2, h3⟩
   have hw' : St C H w' := ⟨hw.1, hw.2, by rw [hds]; exact hw.3⟩
   exact ⟨_, run_results (C := C) ha hw' h1, _, Hn, rfl, ⟨hw'.1, h2 _ _ hw'.2, hw'.3⟩, h3⟩
  | cons d ds ih =>
   rintro a w' e H ha hw hq
   obtain ⟨D, rfl, hD, hK⟩ := hw.3.2 d (List.mem_cons_self ..)
   change C.w0.heap.size ≤ D at hD
   have hnd : { target := .collected D, args := #[] } ∉ ds ++ C.out ∧ (ds ++ C.out).Nodup := List.nodup_cons.1 hw.3.1
   refine ⟨by simp, .inl ⟨D, _, rfl, run_takeDeferred hK, ih ha ⟨?_, ⟨fun x hx => ?_, hw.2.nodup, hw.2.kind⟩, hnd.2, fun d' hd' => ?_⟩ hq⟩⟩
   ·refine hw.1.trans ⟨rfl, rfl, rfl, by rw [World.putObj_size]; exact Nat.le_refl _, fun k hk => World.putObj_heap_other ?_⟩
    change k < C.w0.heap.size at hk
    omega
   ·have hm := hw.2.mem x hx
    refine ⟨hm.1, (World.putObj_heap_other fun he => ?_).trans hm.2⟩
    have h2 := hm.2
    rw [he, hK] at h2
    exact hw.2.kind x hx (Option.some.inj h2).symm
   ·obtain ⟨D', rfl, hD', hK'⟩ := hw.3.2 d' (List.mem_cons_of_mem _ hd')
    refine ⟨D', rfl, hD', (World.putObj_heap_other fun he => ?_).trans hK'⟩
    subst he
    exact hnd.1 hd'
 rintro x a w' ⟨ds, e, H, ha, hw, hq⟩
 cases x with
 | normal =>
  have h := fin ds ha.val hw hq
  rw [← ha.defers] at h; exact h
 | ret =>
  have h := fin ds ha.val hw hq
  rw [← ha.defers] at h; exact h
 | exit i => exact hq.elim
 | goto l => exact hq.elim
 | panic ch => exact hq.elim
 | outgrown => exact hq.elim
theorem Ct_of_W {P : Program} {f : FuncId} {args : List Value} {w : World} {fn : Func} {c : Code} {R : Value → List Blk → Prop} (hf : P.funcs[f]? = some fn) (hb : fn.body = some c) (hl : Nat.ble args.length fn.ntmps = true)
  (h : W ⟨P, w, [], []⟩ Fence.wide fn.ntmps [] c (Fin ⟨P, w, [], []⟩ fn R) (start args) []) : Ct P f args.toArray w R :=
 Calls.mono (calls_of_W (C := ⟨P, w, [], []⟩) hf hb hl rfl h ⟨Below.refl _ _, HOk.nil _ _, Mk.nil⟩) fun _ _ ⟨v, Hn, he, hw, hr⟩ => ⟨v, he, Hn, hw.1, hw.2, hr⟩
def Cs (C : Ctx) (f : FuncId) (args : Array Value) (H : List Blk) (R : Value → List Blk → Prop) : Prop :=
 ∀ w, St C H w → Calls C.P f args w fun en w' => ∃ v Hn, en = .returned v ∧ St C Hn w' ∧ R v Hn
theorem Cs_of_W {C : Ctx} {f : FuncId} {args : List Value} {fn : Func} {c : Code} {R : Value → List Blk → Prop} {H : List Blk} (hf : C.P.funcs[f]? = some fn) (hb : fn.body = some c) (hl : Nat.ble args.length fn.ntmps = true)
  (h : W C.inner Fence.wide fn.ntmps [] c (Fin C.inner fn R) (start args) H) : Cs C f args.toArray H R := fun w hw =>
 Calls.mono (calls_of_W (C := C.inner) hf hb hl rfl h ⟨hw.1, hw.2, hw.3⟩) fun _ _ ⟨v, Hn, he, hw, hr⟩ => ⟨v, Hn, he, ⟨hw.1, hw.2, hw.3⟩, hr⟩
def gFree (all : Array Oper) (o : Oper) (us : List Un) : Bool := us.all fun u => !(gLooks all o).contains u.slot
def sFree (all : Array Oper) (S : List Nat) (o : Oper) (us : List Un) : Bool := us.all fun u => !(o.looksAt all).contains u.slot || !S.contains u.slot
theorem gFree_spec {o : Oper} {us : List Un} (h : gFree all o us = true) : ∀ u ∈ us, u.slot ∉ gLooks all o := fun u hu => by
 have := List.all_eq_true.1 h u hu
 simpa using this
theorem sFree_spec {S : List Nat} {o : Oper} {us : List Un} (h : sFree all S o us = true) : ∀ u ∈ us, u.slot ∈ o.looksAt all → u.slot ∉ S := fun u hu hl => by
 have := List.all_eq_true.1 h u hu
 have hc : (o.looksAt all).contains u.slot = true := by simpa using hl
 simp only [hc, Bool.not_true, Bool.false_or] at this
 simpa using this
theorem Over_nil {ts : List Nat} {K : Env → List Blk → Prop} (h : K e H) : Over ts K [] e H := h
theorem Cong0 {R : Value → List Blk → Prop} : Cong [] (fun _ => R) := fun _ _ _ _ _ h => h
variable {S : List Nat} {KK : List Un → Env → Prop} {done : List Nat} {us : List Un} {o : Oper}
theorem PW_det (c : Value) (hg : gdOf all e o = some true) (hu : gFree all o us = true) (hS : sFree all S o us = true) (hy : Over (o.looksAt all) (fun e H => YD C o e H c) us e H)
  (k : PW C all S KK H rest done us (updo e o.dst c)) : PW C all S KK H (o :: rest) done us e :=
 ⟨.det c, ⟨hg, gFree_spec hu, sFree_spec hS, hy⟩, fun d h => (by cases h), k⟩
def depB (all : Array Oper) (o : Oper) (us : List Un) (deps : List Nat) : Bool := deps.all fun t => (o.looksAt all).contains t && us.any fun u => Nat.beq u.slot t
theorem PW_skip (hg : gdOf all e o = some false) (hu : gFree all o us = true) (k : PW C all S KK H rest done us (updo e o.dst undef)) : PW C all S KK H (o :: rest) done us e :=
 ⟨.skip, ⟨hg, gFree_spec hu⟩, fun d h => (by cases h), k⟩
def dropU (d : Nat) : List Un → List Un
 | [] => []
 | u :: us => match Nat.beq u.slot d with
  | true => dropU d us
  | false => u :: dropU d us
def sdepB (all : Array Oper) (o : Oper) (us : List Un) (d : Nat) (deps : List Nat) : Bool := deps.all fun t => !Nat.beq t d && ((o.looksAt all).contains t && us.any fun u => Nat.beq u.slot t)
theorem PW_end (hall : (S.all fun d => done.contains d) = true) (k : KK us e) : PW C all S KK H [] done us e := ⟨fun d hd => by
 have := List.all_eq_true.1 hall d hd
 simpa using this, k⟩
theorem OverAll_nil {K : Env → List Blk → Prop} {G : Env → Prop} (h : G e → K e H) : OverAll K G [] e H := h
def cellsL (v : Value) : List Value := v.cells.toList
def stR (t b off : Nat) (vs : List Value) (Tb : TypeId) : Env → Value → List Blk → Prop := fun e _ Hn => Hn = [(b, CB (splice vs off (cellsL (e t))) Tb)]
theorem stR_cong {t b off : Nat} {vs : List Value} {Tb : TypeId} : Cong [t] (stR t b off vs Tb) := fun e e' h v Hn hh => by
 unfold stR at hh ⊢
 rw [← h t (List.mem_singleton.2 rfl)]; exact hh
def stN (t : Nat) (vs : List Value) (Tb : TypeId) : Env → Value → List Blk → Prop := fun e => NewPtr (CB (splice vs 0 (cellsL (e t))) Tb)
def Pre.con (slot b : Nat) (o : Obj) (R' : Value → List Blk → Prop) : Pre := ⟨slot, b, o, [], fun _ => R', Cong0⟩
def Pre.dep (slot b off t : Nat) (vs : List Value) (Tb : TypeId) : Pre := ⟨slot, b, CB vs Tb, [t], stR t b off vs Tb, stR_cong⟩
end
end Go.Eng
namespace Go.Eng
open Go.RowKit
def chk (n : Nat) (all : Array Oper) (e : Env) (o : Oper) : Bool := noDefer o && (match gdOf all e o with | some b => b | none => false) && gOk n all o && dOk n o.dst
def chkS (n : Nat) (all : Array Oper) (e : Env) (o : Oper) : Bool := (match gdOf all e o with | some b => !b | none => false) && gOk n all o && dOk n o.dst
theorem chk_spec {n : Nat} {all : Array Oper} {e : Env} {o : Oper} (h : chk n all e o = true) : noDefer o = true ∧ gdOf all e o = some true ∧ gOk n all o = true ∧ dOk n o.dst = true := by
 unfold chk at h
 simp only [Bool.and_eq_true] at h
 obtain ⟨⟨⟨h1, h2⟩, h3⟩, h4⟩ := h
 refine ⟨h1, ?_, h3, h4⟩
 cases hg : gdOf all e o with
 | none => rw [hg] at h2; cases h2
 | some b => rw [hg] at h2; simp only at h2; rw [h2]
theorem chkS_spec {n : Nat} {all : Array Oper} {e : Env} {o : Oper} (h : chkS n all e o = true) : gdOf all e o = some false ∧ gOk n all o = true ∧ dOk n o.dst = true := by
 unfold chkS at h
 simp only [Bool.and_eq_true] at h
 obtain ⟨⟨h2, h3⟩, h4⟩ := h
 refine ⟨?_, h3, h4⟩
 cases hg : gdOf all e o with
 | none => rw [hg] at h2; cases h2
 | some b => rw [hg] at h2; simp only [Bool.not_eq_true'] at h2; rw [h2]
section
variable {C : Ctx} {F : Fence} {n : Nat} {ds : List Deferred} {all : Array Oper} {Q : Exit → Env → List Blk → Prop} {rest : List Oper} {e : Env} {H : List Blk} {o : Oper}
variable {d : Option Tmp} {ty : TypeId} {pos : String} {af : Array Edge} {g : Option (Nat × Bool)}
theorem WS_gen (hF : Wide F) (hc : chk n all e o = true) {R : Value → List Blk → Prop} (hy : YR C o e H R) (hk : ∀ v Hn, R v Hn → WS C F n ds all Q rest (updo e o.dst v) (Hn ++ H)) : WS C F n ds all Q (o :: rest) e H :=
 let h := chk_spec hc
 WS_step hF h.1 h.2.1 h.2.2.1 h.2.2.2 hy hk
theorem WS_det (hF : Wide F) {c : Value} (hc : chk n all e o = true) (hy : YD C o e H c) (hk : WS C F n ds all Q rest (updo e o.dst c) H) : WS C F n ds all Q (o :: rest) e H :=
 WS_gen hF hc hy fun v Hn h => by subst h; exact WS_weak (List.sublist_append_right _ _) hk
theorem WS_new (hF : Wide F) {ob : Obj} (hc : chk n all e o = true) (hy : YR C o e H (NewPtr ob)) (hk : ∀ b, WS C F n ds all Q rest (updo e o.dst (.pointer (some ⟨b, 0, none⟩))) ((b, ob) :: H)) : WS C F n ds all Q (o :: rest) e H :=
 WS_gen hF hc hy fun v Hn h => by obtain ⟨b, rfl, rfl⟩ := h; exact hk b
theorem WS_newS (hF : Wide F) {ob : Obj} {m : Nat} (hc : chk n all e o = true) (hy : YR C o e H (NewSlice ob m)) (hk : ∀ b, WS C F n ds all Q rest (updo e o.dst (.slice (some ⟨b, 0, none⟩) m m)) ((b, ob) :: H)) :
  WS C F n ds all Q (o :: rest) e H :=
 WS_gen hF hc hy fun v Hn h => by obtain ⟨b, rfl, rfl⟩ := h; exact hk b
theorem WS_no (hF : Wide F) (hc : chkS n all e o = true) (hk : WS C F n ds all Q rest (updo e o.dst undef) H) : WS C F n ds all Q (o :: rest) e H :=
 let h := chkS_spec hc
 WS_skip hF h.1 h.2.1 h.2.2 hk
theorem y_callL {x : Operand} {args : List Operand} {ats : Array TypeId} {f : FuncId} {first captured vs : List Value} {R : Value → List Blk → Prop} (hx : ev e x = .func (.func f) first.toArray captured.toArray)
  (ha : first ++ (args.map (ev e) ++ captured) = vs) (hc : ∀ args w, (callFunc f args).run C.P w = .ok (.enter f args) w) (hR : ∀ w, St C H w → Ct C.P f vs.toArray w R) :
  YR C ⟨d, .call ⟨.value x, args.toArray, ats⟩, ty, pos, af, g⟩ e H R :=
 y_call (vs := vs.toArray) hx (by subst ha; simp) hc hR
theorem y_buildL {T : TypeId} {parts : List (Nat × Operand)} {ps : List (Nat × Value)} {c : Value} (hb : ∀ w, (Instr.build T ps.toArray).run C.P w = .ok c w) (hp : parts.map (fun x => (x.1, ev e x.2)) = ps) :
  YD C ⟨d, .build T parts.toArray, ty, pos, af, g⟩ e H c := y_build (ps := ps.toArray) (by subst hp; simp) hb
theorem y_buildSliceL {T E : TypeId} {n : Nat} {parts : List (Nat × Operand)} {ps : List (Nat × Value)} {vs : List Value}
  (hb : ∀ w, (Instr.buildSlice T n ps.toArray).run C.P w = .ok (.slice (some ⟨w.heap.size, 0, none⟩) n n) (w.alloc (CB vs E))) (hp : parts.map (fun x => (x.1, ev e x.2)) = ps) :
  YR C ⟨d, .buildSlice T n parts.toArray, ty, pos, af, g⟩ e H (NewSlice (CB vs E) n) := y_buildSlice (ps := ps.toArray) (by subst hp; simp) hb
theorem y_makeFuncL {fn : Go.Fn} {first captured : List Operand} {a b : List Value} (ha : first.map (ev e) = a) (hb : captured.map (ev e) = b) : YD C ⟨d, .makeFunc fn first.toArray captured.toArray, ty, pos, af, g⟩ e H (.func fn a.toArray b.toArray) :=
 y_makeFunc (by subst ha; simp) (by subst hb; simp)
def chkP (all : Array Oper) (S : List Nat) (us : List Un) (e : Env) (o : Oper) : Bool := (match gdOf all e o with | some b => b | none => false) && gFree all o us && sFree all S o us
def chkPS (all : Array Oper) (us : List Un) (e : Env) (o : Oper) : Bool := (match gdOf all e o with | some b => !b | none => false) && gFree all o us
variable {S : List Nat} {KK : List Un → Env → Prop} {done : List Nat} {us : List Un}
theorem chkP_spec (h : chkP all S us e o = true) : gdOf all e o = some true ∧ gFree all o us = true ∧ sFree all S o us = true := by
 unfold chkP at h
 simp only [Bool.and_eq_true] at h
 obtain ⟨⟨h2, h3⟩, h4⟩ := h
 refine ⟨?_, h3, h4⟩
 cases hg : gdOf all e o with
 | none => rw [hg] at h2; cases h2
 | some b => rw [hg] at h2; simp only at h2; rw [h2]
theorem P_det {c : Value} (hc : chkP all S us e o = true) (hy : Over (o.looksAt all) (fun e H => YD C o e H c) us e H) (k : PW C all S KK H rest done us (updo e o.dst c)) : PW C all S KK H (o :: rest) done us e :=
 let h := chkP_spec hc
 PW_det c h.1 h.2.1 h.2.2 hy k
theorem P_no (hc : chkPS all us e o = true) (k : PW C all S KK H rest done us (updo e o.dst undef)) : PW C all S KK H (o :: rest) done us e := by
 unfold chkPS at hc
 simp only [Bool.and_eq_true] at hc
 refine PW_skip ?_ hc.2 k
 have h2 := hc.1
 cases hg : gdOf all e o with
 | none => rw [hg] at h2; cases h2
 | some b => rw [hg] at h2; simp only [Bool.not_eq_true'] at h2; rw [h2]
def YD0 (C : Ctx) (o : Oper) (e : Env) (H : List Blk) (c : Value) : Prop := YR C o e H fun v Hn => v = c ∧ Hn = []
def alR (f : Env → Value) : Env → Value → List Blk → Prop := fun e v Hn => v = f e ∧ Hn = []
def partV (e : Env) : Value ⊕ Nat → Value
 | .inl c => c
 | .inr t => e t
def aggP (ps : List (Value ⊕ Nat)) (e : Env) : Value := .agg (ps.map (partV e)).toArray
def partIn (deps : List Nat) : Value ⊕ Nat → Bool
 | .inl _ => true
 | .inr t => deps.contains t
theorem P_split (s : Nat) {b : Bool} (hb : e s = .bool b) (ht : b = true → PW C all S KK H rest done us (upd e s (.bool true))) (hf : b = false → PW C all S KK H rest done us (upd e s (.bool false))) :
  PW C all S KK H rest done us e := by
 cases b with
 | true => have := ht rfl; rw [← hb, upd_eta] at this; exact this
 | false => have := hf rfl; rw [← hb, upd_eta] at this; exact this
def stOkB (all : Array Oper) (S : List Nat) (us : List Un) (done : List Nat) (o : Oper) (d : Nat) : Bool :=
 (match o.dst with | none => true | some _ => false) && (match o.guard with | none => true | some _ => false) && S.contains d && ((o.looksAt all).contains d || all.toList.all fun o' => match o'.dst with | some d' => !Nat.beq d' d | none => true) &&
 (us.all fun u => u.slot == d || !((o.looksAt all).contains u.slot && S.contains u.slot)) && !done.contains d
theorem W_drawL {id : Nat} {l : List Oper} {H0 : List Blk} (hF : Wide F) (hm : C.P.follows .mixedOrders = true) (pres : List Pre) (S : List Nat)
  (hH : HSub H (pres.map (fun p => (p.b, p.o)) ++ H0))
  (hph : (phased l.toArray (pres.map (·.slot)) && (l.all fun o => dOk n o.dst && gOk n l.toArray o) && (pres.all fun p => S.contains p.slot)) = true) (hnd : (pres.map (·.slot)).Nodup)
  (hp : ∀ ds, PW (C.at ds) l.toArray S (fun us e => OverAll (fun e H => Q .normal e H) (fun _ => True) us e H0) H0 l [] (pres.map Pre.un) e) : W C F n ds (.region id l.toArray true) Q e H := by
 simp only [Bool.and_eq_true] at hph
 exact W_draw hF hm pres S hH hph.1.1 (by simpa using hph.1.2) hph.2 hnd (fun ds => by simpa using hp ds)
theorem Ct_start {P : Program} {f : FuncId} {args : List Value} {w : World} {fn : Func} {c : Code} {k : Nat} {R : Value → List Blk → Prop} (hf : P.funcs[f]? = some fn) (hb : fn.body = some c) (hn : fn.ntmps = k) (hl : Nat.ble args.length k = true)
  (h : W ⟨P, w, [], []⟩ Fence.wide k [] c (Fin ⟨P, w, [], []⟩ fn R) (start args) []) : Ct P f args.toArray w R := by
 subst hn
 exact Ct_of_W hf hb hl h
theorem Fin_ret {fn : Func} {rs : List ResultVar} {R : Value → List Blk → Prop} (vs : List Value) (Hn : List Blk) (hr : fn.results = rs.toArray) (h1 : RVs C e H rs vs) (h2 : HSub H Hn) (h3 : R (tupOf vs) Hn) : Fin C fn R .ret e H :=
 ⟨vs, Hn, by rw [hr]; exact h1, h2, h3⟩
theorem Then_normal {K : Env → List Blk → Prop} (h : K e H) : Then K Q .normal e H := h
theorem Then_exit {K : Env → List Blk → Prop} {i : Nat} (h : Q (.exit i) e H) : Then K Q (.exit i) e H := h
theorem Then_ret {K : Env → List Blk → Prop} (h : Q .ret e H) : Then K Q .ret e H := h
theorem InB_normal {i : Nat} (h : Q .normal e H) : InB i Q .normal e H := h
theorem InB_ret {i : Nat} (h : Q .ret e H) : InB i Q .ret e H := h
theorem InB_same {i : Nat} (h : Q .normal e H) : InB i Q (.exit i) e H := by simp only [InB, if_true]; exact h
section
variable {γ : Type} {I : γ → Prop} {L : γ → List (Nat × Value)} {B : γ → List Blk} {μ : γ → Nat} {m : Nat}
theorem Loop_ret (h : Q .ret e H) : LoopPost I L B μ m Q .ret e H := h
theorem Loop_exit {i : Nat} (h : Q (.exit i) e H) : LoopPost I L B μ m Q (.exit i) e H := h
theorem Loop_next (g : γ) (hI : I g) (hL : Slots e (L g)) (hB : (B g).Sublist H) (hm : μ g < m) : LoopPost I L B μ m Q .normal e H := ⟨g, hI, hL, hB, hm⟩
end
theorem At.get {w : World} {b : Nat} : ∀ {vs : List Value} {o : Nat}, At w b o vs → ∀ (j : Nat) (v : Value), vs[j]? = some v → w.cell? ⟨b, o + j, none⟩ = some v
 | [], _, _, j, v, h => by simp at h
 | u :: vs, o, h, 0, v, hv => by
  simp only [List.getElem?_cons_zero, Option.some.injEq] at hv
  subst hv; exact h.1
 | u :: vs, o, h, j + 1, v, hv => by
  have := At.get h.2 j v (by simpa using hv)
  rwa [show o + 1 + j = o + (j + 1) by omega] at this
theorem At.of {w : World} {b : Nat} : ∀ {vs : List Value} {o : Nat}, (∀ (j : Nat) (v : Value), vs[j]? = some v → w.cell? ⟨b, o + j, none⟩ = some v) → At w b o vs
 | [], _, _ => trivial
 | u :: vs, o, h => ⟨h 0 u (by simp), At.of fun j v hv => by
  have := h (j + 1) v (by simpa using hv)
  rwa [show o + (j + 1) = o + 1 + j by omega] at this⟩
theorem At.sub {w : World} {b o k : Nat} {vs us rest : List Value} (h : At w b o vs) (hd : vs.drop k = us ++ rest) : At w b (o + k) us := At.of fun j v hv => by
 have hj : vs[k + j]? = some v := by
  rw [← List.getElem?_drop, hd, List.getElem?_append_left (List.getElem?_eq_some_iff.1 hv).1]; exact hv
 have := h.get (k + j) v hj
 rwa [← Nat.add_assoc] at this
theorem Mem.oldAt1 {b o k : Nat} {vs : List Value} {u : Value} (h : At C.w0 b o vs) (hd : vs[k]? = some u) : Mem C H b (o + k) [u] := Mem.old (h.sub (rest := vs.drop (k + 1)) (by
 have hlt : k < vs.length := (List.getElem?_eq_some_iff.1 hd).1
 rw [List.drop_eq_getElem_cons hlt, (List.getElem?_eq_some_iff.1 hd).2]; rfl))
theorem W_draw0 {id : Nat} {l : List Oper} (hF : Wide F) (hm : C.P.follows .mixedOrders = true) (S : List Nat)
  (hph : (phased l.toArray [] && (l.all fun o => dOk n o.dst && gOk n l.toArray o)) = true)
  (hp : ∀ ds, PW (C.at ds) l.toArray S (fun us e => OverAll (fun e H => Q .normal e H) (fun _ => True) us e H) H l [] [] e) : W C F n ds (.region id l.toArray true) Q e H :=
 W_drawL (H0 := H) hF hm [] S HSub.refl (by simpa using hph) (by simp) hp
def shiftA (a : Option Addr) (l sz cap : Nat) : Option Addr := if cap = l then a else a.map (·.add (l * sz))
end
universe u
section
variable {C C2 : Ctx} {F F2 : Fence} {n n2 : Nat} {ds d2 : List Deferred} {all : Array Oper} {Q Q2 Q3 : Exit → Env → List Blk → Prop} {rest : List Oper} {e : Env} {H : List Blk} {o : Oper} {d : Option Tmp} {ty : TypeId} {pos : String} {af : Array Edge} {g : Option (Nat × Bool)} {id : Nat} {l : List Oper} {y : Code}
theorem zN {K : Env → List Blk → Prop} (h : K e H) : WS C F n ds all (Then K Q2) [] e H := WS_nil (Then_normal h)
theorem zO {x : Code} (h : W C2 F2 n2 d2 x (Then (W C2 F2 n2 d2 y Q2) Q2) e H) : WS C F n ds all (Then (W C2 F2 n2 d2 (.seq x y) Q2) Q3) [] e H := WS_nil (Then_normal (W_seq h))
theorem zP (h : ∀ ds, WS (C2.at ds) F2 n2 ds l.toArray (Then (W C2 F2 n2 d2 y Q2) Q2) l e H) : WS C F n ds all (Then (W C2 F2 n2 d2 (.seq (.region id l.toArray false) y) Q2) Q3) [] e H := WS_nil (Then_normal (W_seq (W_region_lit h)))
theorem zQ (h : ∀ ds, WS (C2.at ds) F2 n2 ds l.toArray Q2 l e H) : WS C F n ds all (Then (W C2 F2 n2 d2 (.region id l.toArray false) Q2) Q3) [] e H := WS_nil (Then_normal (W_region_lit h))
theorem zR (h : ∀ ds, WS (C.at ds) F n ds l.toArray (Then (W C F n d2 y Q) Q) l e H) : W C F n d2 (.seq (.region id l.toArray false) y) Q e H := W_seq (W_region_lit h)
theorem zS (h : ∀ ds, WS (C.at ds) F n ds l.toArray (Then (W C F n d2 y Q) Q) l e H) : Then (W C F n d2 (.seq (.region id l.toArray false) y) Q) Q3 .normal e H := Then_normal (W_seq (W_region_lit h))
theorem zT (h : ∀ ds, WS (C.at ds) F n ds l.toArray Q l e H) : Then (W C F n d2 (.region id l.toArray false) Q) Q3 .normal e H := Then_normal (W_region_lit h)
theorem zU {K : Env → List Blk → Prop} (h : K e H) : W C F n ds .skip (Then K Q2) e H := W_skip (Then_normal h)
theorem zD (hF : Wide F) {c : Value} (hy : YD C o e H c) (hk : WS C F n ds all Q rest (updo e o.dst c) H) (hc : chk n all e o = true := by rfl) : WS C F n ds all Q (o :: rest) e H := WS_det hF hc hy hk
theorem zm (c : Value) {x : Operand} (hF : Wide F) (hk : WS C F n ds all Q rest (updo e d c) H) (h : ev e x = c := by rfl) (hc : chk n all e ⟨d, .move x, ty, pos, af, g⟩ = true := by rfl) : WS C F n ds all Q (⟨d, .move x, ty, pos, af, g⟩ :: rest) e H := WS_det hF hc (y_move h) hk
theorem za (c : Value) {x : Operand} (hF : Wide F) (hk : WS C F n ds all Q rest (updo e d c) H) (h : ev e x = c := by rfl) (hc : chk n all e ⟨d, .assign x, ty, pos, af, g⟩ = true := by rfl) : WS C F n ds all Q (⟨d, .assign x, ty, pos, af, g⟩ :: rest) e H := WS_det hF hc (y_assign h) hk
theorem zno (hF : Wide F) (hk : WS C F n ds all Q rest (updo e o.dst undef) H) (hc : chkS n all e o = true := by rfl) : WS C F n ds all Q (o :: rest) e H := WS_no hF hc hk
theorem zpk (c : Value) {x y z : Operand} (h : YD C ⟨d, .pick x y z, ty, pos, af, g⟩ e H c := by first | exact y_pick_t (by rfl) (by rfl) | exact y_pick_f (by rfl) (by rfl)) : YD C ⟨d, .pick x y z, ty, pos, af, g⟩ e H c := h
theorem znk {x : Operand} {c : Value} (h : YD C ⟨d, .nilCheck x, ty, pos, af, g⟩ e H c := by first | exact y_nilCheck (by rfl) | exact y_nilCheckF (by rfl)) : YD C ⟨d, .nilCheck x, ty, pos, af, g⟩ e H c := h
end
theorem qz1 (b : Bool) : ((!b) = true) = (b = false) := Bool.not_eq_true' b
theorem qz2 (b : Bool) : ((!b) = false) = (b = true) := Bool.not_eq_false' b
theorem qz3 {p : Prop} [Decidable p] : (decide p = true) = p := decide_eq_true_eq
theorem qz4 {p : Prop} [Decidable p] : (decide p = false) ↔ ¬p := decide_eq_false_iff_not
theorem qz5 {α : Sort u} (a b : α) : (a ≠ b) = ¬(a = b) := ne_eq a b
theorem qz6 {p : Prop} : (¬¬p) ↔ p := Classical.not_not
theorem qz7 {a b : Int} : (¬a < b) ↔ b ≤ a := Int.not_lt
theorem qz8 {a b : Int} : (¬a ≤ b) ↔ b < a := Int.not_le
end Go.Eng
namespace Go.Proofs.Ytmpanejghmgoaaa.T
open Go.RowKit Go.Eng
structure Ints (w : World) (a : Option Addr) (n cap : Nat) (xs : List Int) : Prop where
 len : xs.length = n
 le : n ≤ cap
 cell : ∀ k, k < n → ∃ b o, a = some ⟨b, o, none⟩ ∧ At w b (o + k * 1) [.int .i64 (xs.getD k 0)]
theorem Ints.below {w w' : World} {a : Option Addr} {n cap : Nat} {xs : List Int} (h : Ints w a n cap xs) (hb : Below w.heap.size w w') : Ints w' a n cap xs :=
 ⟨h.len, h.le, fun k hk => by obtain ⟨b, o, h1, h2⟩ := h.cell k hk; exact ⟨b, o, h1, At.old hb h2⟩⟩
theorem Ints.st {C : Ctx} {H : List Blk} {a : Option Addr} {n cap : Nat} {xs : List Int} (h : Ints C.w0 a n cap xs) (w : World) (hw : St C H w) : Ints w a n cap xs := h.below hw.1
theorem Ints.at {w : World} {b o n cap : Nat} {xs : List Int} (h : Ints w (some ⟨b, o, none⟩) n cap xs) {k : Nat} (hk : k < n) : At w b (o + k * 1) [.int .i64 (xs.getD k 0)] := by
 obtain ⟨b', o', h1, h2⟩ := h.cell k hk
 simp only [Option.some.injEq, Addr.mk.injEq] at h1
 obtain ⟨rfl, rfl, _⟩ := h1
 exact h2
theorem Ints.adr {w : World} {a : Option Addr} {n cap : Nat} {xs : List Int} (h : Ints w a n cap xs) (hn : 0 < n) : ∃ b o, a = some ⟨b, o, none⟩ := by
 obtain ⟨b, o, h1, _⟩ := h.cell 0 hn
 exact ⟨b, o, h1⟩
theorem Ints.mem {C : Ctx} {H : List Blk} {b n cap T : Nat} {xs : List Int} {rest : List Value} (i : Nat) (hi : H[i]? = some (b, CB (xs.map (Value.int .i64) ++ rest) T)) (hn : xs.length = n) (hc : n ≤ cap) (w : World) (hw : St C H w) :
  Ints w (some ⟨b, 0, none⟩) n cap xs := by
 refine ⟨hn, hc, fun k hk => ⟨b, 0, rfl, ?_⟩⟩
 have hb := hw.get hi
 refine at_block (rest := (xs.map (Value.int .i64) ++ rest).drop (k + 1)) hb ?_
 have hlt : k < (xs.map (Value.int .i64) ++ rest).length := by simp; omega
 rw [show 0 + k * 1 = k by omega, List.drop_eq_getElem_cons hlt]
 simp [hn, hk, List.getD_eq_getElem?_getD]
theorem Ints.one {C : Ctx} {H : List Blk} {b T : Nat} {x : Int} (i : Nat) (hi : H[i]? = some (b, CB [.int .i64 x] T)) (w : World) (hw : St C H w) : Ints w (some ⟨b, 0, none⟩) 1 1 [x] := Ints.mem (xs := [x]) (rest := []) i hi rfl (Nat.le_refl _) w hw
theorem Ints.two {C : Ctx} {H : List Blk} {b T : Nat} {x y : Int} (i : Nat) (hi : H[i]? = some (b, CB [.int .i64 x, .int .i64 y] T)) (w : World) (hw : St C H w) : Ints w (some ⟨b, 0, none⟩) 2 2 [x, y] := Ints.mem (xs := [x, y]) (rest := []) i hi rfl (Nat.le_refl _) w hw
theorem Ints.nil (w : World) (a : Option Addr) (cap : Nat) : Ints w a 0 cap [] := ⟨rfl, Nat.zero_le _, fun k hk => by omega⟩
theorem Ints.drop {w : World} {a : Option Addr} {n cap l : Nat} {xs : List Int} (h : Ints w a n cap xs) (hl : l < n) : Ints w (shiftA a l 1 cap) (n - l) (cap - l) (xs.drop l) := by
 have hle := h.le
 have hlen := h.len
 refine ⟨by simp [h.len], by omega, fun k hk => ?_⟩
 obtain ⟨b, o, rfl⟩ := h.adr om0
 have h2 := h.at (k := l + k) om0
 have h3 : (⟨b, o, none⟩ : Addr).add (l * 1) = ⟨b, o + l, none⟩ := by unfold Addr.add; split <;> simp_all
 refine ⟨b, o + l, by unfold shiftA; rw [if_neg om0]; simp only [Option.map_some, h3], ?_⟩
 rw [show o + l + k * 1 = o + (l + k) * 1 by omega]
 rw [show (xs.drop l).getD k 0 = xs.getD (l + k) 0 by simp [List.getD_eq_getElem?_getD]]
 exact h2
def outB (lo hi n : Int) : Bool := decide (n < lo) || decide (hi < n)
def inB (lo hi : Int) (xs : List Int) : Bool := xs.all fun n => !outB lo hi n
def firstOut (lo hi : Int) : List Int → Nat → Int
 | [], _ => -1
 | x :: l, k => if outB lo hi x then (k : Int) else firstOut lo hi l (k + 1)
theorem inB_any {lo hi : Int} {xs : List Int} : inB lo hi xs = !xs.any (outB lo hi) := by
 unfold inB; induction xs with
 | nil => rfl
 | cons x l ih => simp only [List.all_cons, List.any_cons, ih, Bool.not_or]
theorem outB_iff {lo hi n : Int} : outB lo hi n = false ↔ lo ≤ n ∧ n ≤ hi := by unfold outB; simp
theorem inB1 {lo hi n : Int} : inB lo hi [n] = true ↔ lo ≤ n ∧ n ≤ hi := by unfold inB; simp [outB_iff]
theorem inB2 {lo hi m n : Int} : inB lo hi [m, n] = true ↔ (lo ≤ m ∧ m ≤ hi) ∧ lo ≤ n ∧ n ≤ hi := by unfold inB; simp [outB_iff]
theorem inB1f {lo hi n : Int} : inB lo hi [n] = false ↔ ¬ (lo ≤ n ∧ n ≤ hi) := by rw [← inB1]; simp
structure Tk where
 pints : List Int
 leak : Int
 foot : Int
def Tk.n (t : Tk) : Nat := t.pints.length
def Tk.p (t : Tk) (k : Nat) : Int := t.pints.getD k 0
def Tk.full (t : Tk) : Int := t.p (t.n - 1)
def Tk.height (t : Tk) : Int := 8 * ((t.n : Int) - 1)
def Tk.incB (t : Tk) (m : Nat) : Bool := (List.range m).all fun k => inB (t.p k + 1) 600 [t.p (k + 1)]
def Tk.okB (t : Tk) : Bool := inB 2 21 [(t.n : Int)] && decide (t.p 0 = 0) && inB 0 50 [t.leak] && t.incB (t.n - 1) && inB 0 t.height [t.foot]
structure Tk.Ok (t : Tk) : Prop where
 n2 : 2 ≤ t.n
 n21 : t.n ≤ 21
 p0 : t.p 0 = 0
 leak0 : 0 ≤ t.leak
 leak1 : t.leak ≤ 50
 inc : ∀ k, k + 1 < t.n → t.p k + 1 ≤ t.p (k + 1) ∧ t.p (k + 1) ≤ 600
 foot0 : 0 ≤ t.foot
 foot1 : t.foot ≤ t.height
theorem Tk.Ok.mono {t : Tk} (h : t.Ok) {j : Nat} : ∀ {k : Nat}, j < k → k < t.n → t.p j < t.p k
 | 0, hj, _ => by omega
 | k + 1, hj, hk => by
  have h1 := h.inc k hk
  by_cases hjk : j = k
  ·subst hjk; omega
  ·have := Tk.Ok.mono h (j := j) (k := k) om0 om0; omega
def Tk.seg (t : Tk) (x : Int) : Nat := (min (x / 8) ((t.n : Int) - 2)).toNat
def Tk.eight (t : Tk) (x : Int) : Int := 8 * t.p (t.seg x) + (x - 8 * (t.seg x : Int)) * (t.p (t.seg x + 1) - t.p (t.seg x))
def Tk.up (t : Tk) (x : Int) : Int := (t.eight x + 7) / 8
def Tk.down (t : Tk) (x : Int) : Int := t.eight x / 8
theorem Tk.Ok.seg {t : Tk} (h : t.Ok) {x : Int} (h0 : 0 ≤ x) (h1 : x ≤ t.height) : min (x / 8) ((t.n : Int) - 2) = (t.seg x : Int) ∧ t.seg x + 1 < t.n ∧ 0 ≤ x - 8 * (t.seg x : Int) ∧ x - 8 * (t.seg x : Int) ≤ 8 := by
 have := h.n2
 unfold Tk.height at h1
 unfold Tk.seg
 omega
end Go.Proofs.Ytmpanejghmgoaaa.T
namespace Go.Eng
open Go.RowKit
section
variable {C : Ctx} {F : Fence} {n : Nat} {ds : List Deferred} {all : Array Oper} {Q : Exit → Env → List Blk → Prop} {rest : List Oper} {e : Env} {H : List Blk} {o : Oper}
variable {d : Option Tmp} {ty : TypeId} {pos : String} {af : Array Edge} {g : Option (Nat × Bool)}
def Src (C : Ctx) (H : List Blk) (a : Option Addr) (m : Nat) (us : List Value) : Prop := m = 0 ∧ us = [] ∨ ∃ b o, a = some ⟨b, o, none⟩ ∧ Mem C H b o us
def NewRow (T : TypeId) (sz m : Nat) (us : List Value) (v : Value) (Hn : List Blk) : Prop :=
 ∃ a cap, v = .slice a m cap ∧ m ≤ cap ∧ ((0 < m ∧ ∃ b junk, a = some ⟨b, 0, none⟩ ∧ Hn = [(b, CB (us ++ junk) T)] ∧ (us ++ junk).length = cap * sz) ∨ (m = 0 ∧ Hn = [] ∧ cap = 0))
theorem out_new_drew {w : World} {o : Obj} {R : Value → List Blk → Prop} {v : Value} (hk : o ≠ .deferred (some [])) (h : R v [(w.heap.size, o)]) : Out R v w (w.drew.alloc o) := by
 refine ⟨[(w.heap.size, o)], (Below.refl _ _).drew.alloc (Nat.le_refl _) _, ⟨fun x hx => ?_, by simp, fun x hx => ?_⟩, h⟩
 ·simp only [List.mem_singleton] at hx
  subst hx
  exact ⟨Nat.le_refl _, heap_alloc_new w.drew _⟩
 ·simp only [List.mem_singleton] at hx
  subst hx
  exact hk
theorem addr_add (b o j : Nat) : (⟨b, o, none⟩ : Addr).add j = ⟨b, o + j, none⟩ := by unfold Addr.add; split <;> simp_all
theorem exec_append {x y : Operand} {T : TypeId} {s t v : Value} {w w' : World} {P : Program} (hx : ev e x = s) (hy : ev e y = t) (h : (Builtin.append_ #[T, T] ty #[s, t]).run P w = .ok v w') :
  (execOp (ev e) ⟨d, .call ⟨.builtin .append, #[x, y], #[T, T]⟩, ty, pos, af, g⟩).run P w = .ok (.value v) w' := by
 simp [execOp, resolve, invoke, builtin, hx, hy, h]
theorem run_append_none {P : Program} {w : World} {T E : TypeId} {i : TypeInfo} {s a : Option Addr} {n cap c : Nat} (hT : P.underlying T = some (.slice E)) (hE : P.info? E = some i) :
  (Builtin.append_ #[T, T] ty #[.slice s n cap, .slice a 0 c]).run P w = if n ≤ cap then .ok (.slice s n cap) w else (Builtin.append_ #[T, T] ty #[.slice s n cap, .slice a 0 c]).run P w := by
 split
 ·rename_i hle
  cases s with
  | none => cases a with
   | none => simp [Builtin.append_, run_underlying hT, sizeOf, typeInfo, hE, Builtin.lenOf, Builtin.firstCells, hle]
   | some a => simp [Builtin.append_, run_underlying hT, sizeOf, typeInfo, hE, Builtin.lenOf, Builtin.firstCells, loadCells, loadCellsFrom, hle]
  | some s => cases a with
   | none => simp [Builtin.append_, run_underlying hT, sizeOf, typeInfo, hE, Builtin.lenOf, Builtin.firstCells, hle, storeCells]
   | some a => simp [Builtin.append_, run_underlying hT, sizeOf, typeInfo, hE, Builtin.lenOf, Builtin.firstCells, loadCells, loadCellsFrom, hle, storeCells]
 ·rfl
theorem src_get {w : World} {a : Addr} {b o : Nat} {us : List Value} (ha : a = ⟨b, o, none⟩) (h : At w b o us) : ∀ j v, us[j]? = some v → w.cell? (a.add j) = some v := fun j v hv => by
 subst ha; rw [addr_add]; exact h.get j v hv
theorem y_append0 {x y : Operand} {T E : TypeId} {a0 a : Option Addr} {m cap sz by_ : Nat} {us : List Value} {z : Value} (hx : ev e x = .slice a0 0 0) (hy : ev e y = .slice a m cap)
  (hT : C.P.underlying T = some (.slice E)) (hinf : (C.P.info? E).map (fun i => (i.zero, i.size, i.bytes)) = some (some z, sz, by_))
  (hzs : z.cells.size = sz) (hs : Src C H a m us) (hl : us.length = m * sz) (hb : m * by_ ≤ 140737488355328) (hm : m ≤ 140737488355328) :
  YR C ⟨d, .call ⟨.builtin .append, #[x, y], #[T, T]⟩, ty, pos, af, g⟩ e H (NewRow E sz m us) := fun w hw => by
 obtain ⟨i, hi, hz, hsz, hby⟩ := info_parts hinf
 by_cases h0 : m = 0
 ·subst h0
  have hus : us = [] := by simpa using hl
  subst hus
  have h1 := run_append_none (ty := ty) (w := w) (s := a0) (a := a) (n := 0) (cap := 0) (c := cap) hT hi
  rw [if_pos (Nat.le_refl _)] at h1
  rw [exec_append hx hy h1]
  exact ⟨[], Below.refl _ _, HOk.nil _ _, a0, 0, rfl, Nat.le_refl _, .inr ⟨rfl, rfl, rfl⟩⟩
 ·obtain ⟨b, o, rfl, hmem⟩ := hs.resolve_left fun h => h0 h.1
  have hat := src_get rfl (hmem w hw)
  subst hsz hby
  have hge := grownCap_ge w m 0 E
  have hlen : ∀ (l : List Value), l.length = m * i.size → (l ++ (Builtin.zeroCells z.cells (grownCap w m 0 E - m)).toList).length = grownCap w m 0 E * i.size := fun l hl => by
   rw [List.length_append, hl, Array.length_toList, size_zeroCells, hzs, ← Nat.add_mul]
   congr 1; omega
  have key : (Builtin.append_ #[T, T] ty #[.slice a0 0 0, .slice (some ⟨b, o, none⟩) m cap]).run C.P w =
    .ok (.slice (some ⟨w.heap.size, 0, none⟩) m (grownCap w m 0 E)) (w.drew.alloc (CB (us ++ (Builtin.zeroCells z.cells (grownCap w m 0 E - m)).toList) E)) := by
   have hobj : CB (us ++ (Builtin.zeroCells z.cells (grownCap w m 0 E - m)).toList) E = .cells (us.toArray ++ Builtin.zeroCells z.cells (grownCap w m 0 E - m)) E := by
    unfold CB; congr 1; simp
   rw [hobj]
   cases a0 with
   | none => exact run_append_nil (P := C.P) w T ty E i z hT hi hz ⟨b, o, none⟩ m cap us hl hat om0 om0 om0
   | some a0 =>
    have := run_append_grow (P := C.P) w T ty E i z hT hi hz a0 0 0 [] (by simp) (by simp) ⟨b, o, none⟩ m cap us hl hat om0 om0 (growslice_fits om0 (by rw [Nat.zero_add]; exact hb))
    simpa using this
  rw [exec_append hx hy key]
  exact out_new_drew (fun h => by cases h) ⟨_, _, rfl, hge, .inl ⟨by omega, _, _, rfl, rfl, hlen us hl⟩⟩
def Row (E : TypeId) (sz : Nat) (a : Option Addr) (n cap : Nat) (us : List Value) (Hn : List Blk) : Prop :=
 (a = none ∧ n = 0 ∧ cap = 0 ∧ us = [] ∧ Hn = []) ∨ ∃ b junk, a = some ⟨b, 0, none⟩ ∧ Hn = [(b, CB (us ++ junk) E)] ∧ us.length = n * sz ∧ (us ++ junk).length = cap * sz ∧ n ≤ cap
theorem Row.nil (E : TypeId) (sz : Nat) : Row E sz none 0 0 [] [] := .inl ⟨rfl, rfl, rfl, rfl, rfl⟩
theorem NewRow.row {E : TypeId} {sz m : Nat} {us : List Value} {v : Value} {Hn : List Blk} (h : NewRow E sz m us v Hn) (hl : us.length = m * sz) (hm : 0 < m) : ∃ a cap, v = .slice a m cap ∧ Row E sz a m cap us Hn := by
 obtain ⟨a, cap, rfl, hle, ⟨_, b, junk, rfl, rfl, hlen⟩ | ⟨h0, _⟩⟩ := h
 ·exact ⟨_, _, rfl, .inr ⟨b, junk, rfl, rfl, hl, hlen, hle⟩⟩
 ·omega
theorem WS_append (hF : Wide F) {x y : Operand} {T E : TypeId} {a a' : Option Addr} {n' m cap cap' sz by_ : Nat} {us news : List Value} {z : Value} {H1 Hn H2 : List Blk} (hc : chk n all e ⟨d, .call ⟨.builtin .append, #[x, y], #[T, T]⟩, ty, pos, af, g⟩ = true)
  (hx : ev e x = .slice a n' cap) (hy : ev e y = .slice a' m cap') (hT : C.P.underlying T = some (.slice E)) (hinf : (C.P.info? E).map (fun i => (i.zero, i.size, i.bytes)) = some (some z, sz, by_))
  (hzs : z.cells.size = sz) (hH : H = H1 ++ (Hn ++ H2)) (hrow : Row E sz a n' cap us Hn) (hs : Src C H a' m news) (hl : news.length = m * sz) (hone : news.all Value.oneCell' = true) (hb : (n' + m) * by_ ≤ 140737488355328) (hm : n' + m ≤ 140737488355328)
  (hk : ∀ a' cap' Hn', Row E sz a' (n' + m) cap' (us ++ news) Hn' → WS C F n ds all Q rest (updo e d (.slice a' (n' + m) cap')) (H1 ++ (Hn' ++ H2))) :
  WS C F n ds all Q (⟨d, .call ⟨.builtin .append, #[x, y], #[T, T]⟩, ty, pos, af, g⟩ :: rest) e H := fun w hw act ha => by
 have hck := chk_spec hc
 have hwant := gd_wanted ha hck.2.1 (gOk_lt hck.2.2.1)
 unfold wpListIn
 rw [if_pos hwant]
 refine ⟨fun f _ => hF.fn f, ?_⟩
 rw [semAt_of hck.1, ha.eval]
 obtain ⟨i, hi, hz, hsz, hby⟩ := info_parts hinf
 have hput := fun v => ha.put (v := v) d hck.2.2.2
 have nil_sub : St C (H1 ++ (Hn ++ H2)) w := by rw [← hH]; exact hw
 by_cases h0 : m = 0
 ·subst h0
  have hn : news = [] := by simpa using hl
  subst hn
  have hle : n' ≤ cap := by rcases hrow with ⟨_, h1, h2, _⟩ | ⟨_, _, _, _, _, _, h⟩ <;> omega
  have h1 := run_append_none (ty := ty) (w := w) (s := a) (a := a') (n := n') (cap := cap) (c := cap') hT hi
  rw [if_pos hle] at h1
  rw [exec_append hx hy h1]
  refine hk a cap Hn (by simpa using hrow) w nil_sub _ (hput _)
 ·obtain ⟨b', o', rfl, hmem⟩ := hs.resolve_left fun h => h0 h.1
  have hat := src_get rfl (hmem w hw)
  subst hsz hby
  -- a new row
  have grow : ∀ old, old < n' + m → us.length = n' * i.size → ∀ X : List Blk, St C (Hn ++ X) w → X = H1 ++ H2 →
    (Builtin.append_ #[T, T] ty #[.slice a n' cap, .slice (some ⟨b', o', none⟩) m cap']).run C.P w = .ok (.slice (some ⟨w.heap.size, 0, none⟩) (n' + m) (grownCap w (n' + m) old E)) (w.drew.alloc (.cells (us.toArray ++ news.toArray ++ Builtin.zeroCells z.cells (grownCap w (n' + m) old E - (n' + m))) E)) →
    Oper.uponIn F 0 C.P ⟨d, .call ⟨.builtin .append, #[x, y], #[T, T]⟩, ty, pos, af, g⟩ act (wpListIn F 0 C.P all (lift C n ds Q) rest) (lift C n ds Q)
     ((execOp (ev e) ⟨d, .call ⟨.builtin .append, #[x, y], #[T, T]⟩, ty, pos, af, g⟩).run C.P w) := by
   intro old hold hul X hX hXe hr
   rw [exec_append hx hy hr]
   have hge := grownCap_ge w (n' + m) old E
   have hobj : (Obj.cells (us.toArray ++ news.toArray ++ Builtin.zeroCells z.cells (grownCap w (n' + m) old E - (n' + m))) E) = CB ((us ++ news) ++ (Builtin.zeroCells z.cells (grownCap w (n' + m) old E - (n' + m))).toList) E := by
    unfold CB; congr 1; simp
   rw [hobj]
   have hlen : ((us ++ news) ++ (Builtin.zeroCells z.cells (grownCap w (n' + m) old E - (n' + m))).toList).length = grownCap w (n' + m) old E * i.size := by
    rw [List.length_append, List.length_append, hul, hl, Array.length_toList, size_zeroCells, hzs, ← Nat.add_mul, ← Nat.add_mul]
    congr 1; omega
   refine hk _ _ [(w.heap.size, _)] (.inr ⟨_, _, rfl, rfl, by rw [List.length_append, hul, hl, Nat.add_mul], hlen, hge⟩) _ ?_ _ (hput _)
   have h1 : St C ([(w.heap.size, CB ((us ++ news) ++ (Builtin.zeroCells z.cells (grownCap w (n' + m) old E - (n' + m))).toList) E)] ++ (Hn ++ X)) (w.drew.alloc (CB ((us ++ news) ++ (Builtin.zeroCells z.cells (grownCap w (n' + m) old E - (n' + m))).toList) E)) :=
    hX.grow ((Below.refl _ _).drew.alloc (Nat.le_refl _) _) ⟨fun x hx => by simp only [List.mem_singleton] at hx; subst hx; exact ⟨Nat.le_refl _, heap_alloc_new w.drew _⟩, by simp, fun x hx h => by simp only [List.mem_singleton] at hx; subst hx; cases h⟩
   subst hXe
   have h2 := h1.sub (H' := [(w.heap.size, CB ((us ++ news) ++ (Builtin.zeroCells z.cells (grownCap w (n' + m) old E - (n' + m))).toList) E)] ++ (H1 ++ H2)) (List.Sublist.append_left (List.sublist_append_right _ _) _)
   exact h2.perm (List.perm_append_comm_assoc ..)
  have hX : St C (Hn ++ (H1 ++ H2)) w := nil_sub.perm (List.perm_append_comm_assoc ..)
  rcases hrow with ⟨rfl, rfl, rfl, rfl, rfl⟩ | ⟨b, junk, rfl, rfl, hul, hcl, hle⟩
  ·refine grow 0 om0 (by simp) (H1 ++ H2) hX rfl ?_
   have := run_append_nil (P := C.P) w T ty E i z hT hi hz ⟨b', o', none⟩ m cap' news hl hat om0 om0 (by rw [Nat.zero_add] at hb; omega)
   simpa using this
  ·have hbk : w.heap[b]? = some (CB (us ++ junk) E) := hX.get (i := 0) rfl
   by_cases hroom : n' + m ≤ cap
   ·have hr := run_append_room (P := C.P) w T ty E i hT hi b n' cap (us ++ junk).toArray hbk ⟨b', o', none⟩ m cap' news hl hat (fun u hu => List.all_eq_true.1 hone u hu) hroom (by
     rw [hl, List.size_toArray, hcl, ← Nat.add_mul]; exact Nat.mul_le_mul_right _ hroom)
    rw [exec_append hx hy hr]
    have hsp : (us ++ junk).toArray.toList.take (n' * i.size) ++ news ++ (us ++ junk).toArray.toList.drop (n' * i.size + news.length) = (us ++ news) ++ junk.drop news.length := by
     rw [← hul, List.take_left, List.append_assoc, List.append_assoc, ← List.drop_drop, List.drop_left]
    rw [hsp]
    refine hk _ _ [(b, CB ((us ++ news) ++ junk.drop news.length) E)] (.inr ⟨b, _, rfl, rfl, by rw [List.length_append, hul, hl, Nat.add_mul], ?_, hroom⟩) _ ?_ _ (hput _)
    ·have h1 : news.length ≤ junk.length := by
      have h2 : n' * i.size + m * i.size ≤ cap * i.size := by rw [← Nat.add_mul]; exact Nat.mul_le_mul_right _ hroom
      rw [List.length_append, hul] at hcl
      omega
     simp only [List.length_append, List.length_drop] at hcl ⊢
     omega
    ·have h3 := hX.set (i := 0) (o' := CB ((us ++ news) ++ junk.drop news.length) E) rfl (swap_setRow hbk)
     exact h3.perm (List.perm_append_comm_assoc ..)
   ·refine grow cap om0 hul (H1 ++ H2) hX rfl ?_
    exact run_append_grow (P := C.P) w T ty E i z hT hi hz ⟨b, 0, none⟩ n' cap us hul (fun j u hu => by
     rw [addr_add]; exact (at_block (rest := junk) hbk (by simp)).get j u hu) ⟨b', o', none⟩ m cap' news hl hat om0 om0 (growslice_fits om0 hb)
end
end Go.Eng
namespace Go.Eng
open Go.RowKit
def ieq (a b : Int) : Bool := decide (a = b)
theorem eq_int {P : Program} {d t : Nat} {k k' : IntKind} {x y : Int} (hT : ∀ w, (underlying t).run P w = .ok (.int k') w) : ∀ w, (Op.equalIn (d + 1) t (.int k x) (.int k y)).run P w = .ok (ieq x y) w := fun w => by
 unfold Op.equalIn
 have : (x == y) = ieq x y := by unfold ieq; by_cases h : x = y <;> simp [h]
 simp [hT, this]
theorem eq_topN {P : Program} {T : Nat} {x y : Operand} {xs ys : Array Value} {b : Bool} (hg : ∀ w, (eqGuard .neq T x y (.agg xs) (.agg ys)).run P w = .ok () w) (he : ∀ w, (Op.equalIn Op.maxDepth T (.agg xs) (.agg ys)).run P w = .ok b w) :
  ∀ w, ((do eqGuard .neq T x y (.agg xs) (.agg ys); binOp .neq T (.agg xs) (.agg ys)) : Sem Value).run P w = .ok (.bool (!b)) w := fun w => by
 simp [hg, binOp, Op.equal, he]
section
variable {C : Ctx} {e : Env} {H : List Blk} {d : Option Tmp} {ty : TypeId} {pos : String} {af : Array Edge} {g : Option (Nat × Bool)}
theorem y_shr {x y : Operand} {t t' : TypeId} {k k' : IntKind} {m s r : Int} (hx : ev e x = .int k m) (hy : ev e y = .int k' s) (hs : 0 ≤ s) (hr : m.fdiv (2 ^ min s.toNat k.bits) = r) :
  YD C ⟨d, .binOp .shr t x y t', ty, pos, af, g⟩ e H (.int k r) := yd_of fun w _ => by
 subst hr
 simp [execOp, hx, hy, eqGuard, binOp, Op.shift, Int.not_lt.2 hs]
theorem y_shl {x y : Operand} {t t' : TypeId} {k k' : IntKind} {m s r : Int} (hx : ev e x = .int k m) (hy : ev e y = .int k' s) (hs : 0 ≤ s) (hr : k.wrap (m * 2 ^ min s.toNat k.bits) = r) :
  YD C ⟨d, .binOp .shl t x y t', ty, pos, af, g⟩ e H (.int k r) := yd_of fun w _ => by
 subst hr
 simp [execOp, hx, hy, eqGuard, binOp, Op.shift, Int.not_lt.2 hs]
theorem y_eqlT {x y : Operand} {T T' : TypeId} {k : IntKind} {m : Int} (hx : ev e x = .int k m) (hy : ev e y = .int k m) : YD C ⟨d, .binOp .eql T x y T', ty, pos, af, g⟩ e H (.bool true) :=
 (y_eql hx hy).mono fun v Hn h => h.trans (by simp)
theorem y_neqlA {x y : Operand} {T T' : TypeId} {xs ys : Array Value} {b : Bool} (hx : ev e x = .agg xs) (hy : ev e y = .agg ys)
  (hr : ∀ w, ((do eqGuard .neq T x y (.agg xs) (.agg ys); binOp .neq T (.agg xs) (.agg ys)) : Sem Value).run C.P w = .ok (.bool b) w) : YD C ⟨d, .binOp .neq T x y T', ty, pos, af, g⟩ e H (.bool b) :=
 yd_of fun w _ => by
  have := hr w
  simp only [execOp, hx, hy]
  simp only [Sem.run_bind, this]
  rfl
end
section
variable {C : Ctx} {F : Fence} {n : Nat} {ds : List Deferred} {all : Array Oper} {Q : Exit → Env → List Blk → Prop} {rest : List Oper} {e : Env} {H Hn : List Blk}
theorem WS_back (h : WS C F n ds all Q rest e (H ++ Hn)) : WS C F n ds all Q rest e (Hn ++ H) := fun w hw a ha => h w ⟨hw.1, hw.2.perm List.perm_append_comm, hw.3⟩ a ha
end
end Go.Eng
namespace Go.Eng
open Go.RowKit
section
variable {C : Ctx} {F : Fence} {n : Nat} {ds : List Deferred} {all : Array Oper} {Q : Exit → Env → List Blk → Prop} {rest : List Oper} {e : Env} {H : List Blk}
variable {d : Option Tmp} {ty : TypeId} {pos : String} {af : Array Edge} {g : Option (Nat × Bool)}
theorem run_call {x : Operand} {args : Array Operand} {ats : Array TypeId} {f : FuncId} {first captured vs : Array Value} {w : World} (hx : ev e x = .func (.func f) first captured)
  (ha : first ++ args.map (ev e) ++ captured = vs) (hc : ∀ args w, (callFunc f args).run C.P w = .ok (.enter f args) w) :
  (execOp (ev e) ⟨d, .call ⟨.value x, args, ats⟩, ty, pos, af, g⟩).run C.P w = .ok (.enter f vs) w := by
 simp only [execOp, resolve, hx, Deferred.ofValue]
 simp [invoke, ha, hc]
theorem WS_callS (hF : Wide F) {x : Operand} {args : List Operand} {ats : Array TypeId} {f : FuncId} {first captured vs : List Value} {R : Value → List Blk → Prop} (hck : chk n all e ⟨d, .call ⟨.value x, args.toArray, ats⟩, ty, pos, af, g⟩ = true)
  (hx : ev e x = .func (.func f) first.toArray captured.toArray) (ha : first ++ (args.map (ev e) ++ captured) = vs) (hc : ∀ args w, (callFunc f args).run C.P w = .ok (.enter f args) w) (hR : Cs C f vs.toArray H R)
  (hk : ∀ v H', R v H' → WS C F n ds all Q rest (updo e d v) H') : WS C F n ds all Q (⟨d, .call ⟨.value x, args.toArray, ats⟩, ty, pos, af, g⟩ :: rest) e H := fun w hw a hra => by
 have hs := chk_spec hck
 have hwant := gd_wanted hra hs.2.1 (gOk_lt hs.2.2.1)
 unfold wpListIn
 rw [if_pos hwant]
 refine ⟨fun f _ => hF.fn f, ?_⟩
 rw [semAt_of hs.1, hra.eval, run_call (vs := vs.toArray) hx (by subst ha; simp) hc]
 refine ⟨fun hd => (by rw [hF.depth] at hd; cases hd), calls_in hF (Calls.mono (hR w hw) ?_)⟩
 rintro en w' ⟨v, H', rfl, hw', hr⟩
 exact hk v H' hr w' hw' _ (hra.put d hs.2.2.2)
def Yi (C : Ctx) (l : Nat) (args : List Value) (H : List Blk) (R : Bool → List Blk → Prop) : Prop :=
 ∀ w, St C H w → YieldAt Fence.wide 0 C.P l args.toArray w fun en w' => ∃ b H', en = .returned (.bool b) ∧ St C H' w' ∧ R b H'
theorem WS_yield {x : Operand} {args : List Operand} {ats : Array TypeId} {l : Nat} {vs : List Value} {R : Bool → List Blk → Prop} (hck : chk n all e ⟨d, .call ⟨.value x, args.toArray, ats⟩, ty, pos, af, g⟩ = true)
  (hx : ev e x = .func (.yield l) #[] #[]) (ha : args.map (ev e) = vs) (hY : Yi C l vs H R)
  (hk : ∀ b H', R b H' → WS C Fence.wide n ds all Q rest (updo e d (.bool b)) H') : WS C Fence.wide n ds all Q (⟨d, .call ⟨.value x, args.toArray, ats⟩, ty, pos, af, g⟩ :: rest) e H := fun w hw a hra => by
 have hs := chk_spec hck
 have hwant := gd_wanted hra hs.2.1 (gOk_lt hs.2.2.1)
 unfold wpListIn
 rw [if_pos hwant]
 obtain ⟨fn, tmps, assign, body, hy, hR⟩ := hY w hw
 have hrun : (execOp (ev e) ⟨d, .call ⟨.value x, args.toArray, ats⟩, ty, pos, af, g⟩).run C.P w = .ok (.round l fn tmps assign body) w := by
  have hm : args.toArray.map (ev e) = vs.toArray := by subst ha; simp
  simp only [execOp, resolve, hx, Deferred.ofValue]
  simp [invoke, hm, hy]
 refine ⟨fun f _ => trivial, ?_⟩
 rw [semAt_of hs.1, hra.eval, hrun]
 refine ⟨fun hd => (by cases hd), RoundIn.mono hR ?_⟩
 rintro en w' ⟨b, H', rfl, hw', hr⟩
 exact hk b H' hr w' hw' _ (hra.put d hs.2.2.2)
def It (C : Ctx) (gf : FuncId) (lb : List Value) (encs : Nat → List Value) (N : Nat) (H0 : List Blk) : Prop :=
 ∀ (l : Nat) (J Jx : Nat → List Blk → Prop),
  (∀ k, k < N → ∀ ds H G, J k G → Yi (C.inner.at ds) l (encs k) (H ++ G) fun b H' => ∃ G', H' = H ++ G' ∧ (b = true ∧ J (k + 1) G' ∨ b = false ∧ Jx (k + 1) G')) →
  ∀ G, J 0 G → Cs C gf (.func (.yield l) #[] #[] :: lb).toArray (H0 ++ G) fun _ H' => ∃ G', H' = H0 ++ G' ∧ (J N G' ∨ ∃ k, k < N ∧ Jx (k + 1) G')
def setz (e : Env) : List Nat → List Value → Env
 | p :: ps, v :: vs => setz (upd e p v) ps vs
 | _, _ => e
theorem Rep.setz {n : Nat} {ds : List Deferred} : ∀ {ps : List Nat} {vs : List Value} {t : Array Value} {e : Env}, Rep n ds { tmps := t, defers := ds } e → (ps.all fun p => Nat.blt p n) = true →
  Rep n ds { tmps := (ps.zip vs).foldl (fun t x => t.setIfInBounds x.1 x.2) t, defers := ds } (setz e ps vs)
 | [], _, _, _, h, _ => h
 | p :: ps, [], _, _, h, _ => h
 | p :: ps, v :: vs, t, e, h, hp => by
  simp only [List.all_cons, Bool.and_eq_true] at hp
  exact Rep.setz (ps := ps) (vs := vs) (h.put (some p) hp.1) hp.2
theorem Mk.right {ds out : List Deferred} {N : Nat} {w : World} (h : Mk (ds ++ out) N w) : Mk out N w := ⟨(List.nodup_append.1 h.1).2.1, fun d hd => h.2 d (List.mem_append_right _ hd)⟩
theorem swap_put {w : World} {l : Nat} {o o' : Obj} (h : w.heap[l]? = some o) (hk : o' ≠ .deferred (some [])) : Swap [(l, o)] [(l, o')] w (w.putObj l o') :=
 ⟨rfl, rfl, rfl, rfl, World.putObj_size, fun k hk => World.putObj_heap_other (by simpa using hk), fun x hx => by
  simp only [List.mem_singleton] at hx
  subst hx
  exact World.putObj_heap_same (Array.getElem?_eq_some_iff.1 h).1, fun x hx => by
  simp only [List.mem_singleton] at hx
  subst hx
  exact hk⟩
theorem St.put {C : Ctx} {X : List Blk} {w : World} {l : Nat} {o o' : Obj} (h : St C ((l, o) :: X) w) (hk : o' ≠ .deferred (some [])) : St C ((l, o') :: X) (w.putObj l o') := by
 have hl := h.get (i := 0) rfl
 have hs := swap_put hl hk
 exact ⟨swap_below (X := X) hs h.2 h.1, swap_ok (X := X) hs h.2, swap_marks (X := X) hs h.2 h.3⟩
def RoundQ (J : Nat → List Blk → Prop) (Jx : Code → Nat → List Blk → Prop) (k : Nat) (R : List Blk) : Exit → Env → List Blk → Prop
 | .normal, _, H => ∃ G, HSub H (G ++ R) ∧ J (k + 1) G
 | .ret, _, H => ∃ G, HSub H (G ++ R) ∧ Jx .ret (k + 1) G
 | .exit i, _, H => ∃ G, HSub H (G ++ R) ∧ Jx (.exit i) (k + 1) G
 | _, _, _ => False
theorem W_range (hF : Wide F) (hro : F.round = none) {g : Operand} {ps : List Tmp} {assign body : Code} {gf : FuncId} {lb : List Value} {encs : Nat → List Value} {N : Nat} {H0 G0 : List Blk}
  (J : Nat → List Blk → Prop) (Jx : Code → Nat → List Blk → Prop)
  (hg : ev e g = .func (.func gf) #[] lb.toArray) (eg : ∀ args w, (callFunc gf args).run C.P w = .ok (.enter gf args) w) (hps : (ps.all fun p => Nat.blt p n) = true) (hN : ∀ k, (encs k).length = ps.length)
  (hit : ∀ ds, It (C.at ds) gf lb encs N H0) (h0 : J 0 G0) (hH : HSub H (H0 ++ G0))
  (hbody : ∀ k, k < N → ∀ G, J k G → ∀ out l R R', W ⟨C.P, C.w0, [], out⟩ (Fence.wide.inRound l) n [] assign
   (Then (fun e1 H1 => ∃ A, H1 = A ++ R ∧ W ⟨C.P, C.w0, [], out⟩ (Fence.wide.inRound l) n [] body (RoundQ J Jx k R') e1 (A ++ R')) (fun _ _ _ => False)) (setz e ps (encs k)) (G ++ R))
  (hdone : ∀ G, J N G → Q .normal e (H0 ++ G))
  (hstop : ∀ c k G, k < N → Jx c (k + 1) G → W C F n [] c Q e (H0 ++ G)) : W C F n ds (.rangeFunc g ps.toArray assign body) Q e H := fun dd w hw a ha => by
 refine wpIn_rangeFunc ?_
 intro fn hfn
 rw [hro]
 obtain ⟨rec, hrec⟩ : ∃ rec : LoopState → Option Code → Loop, rec = fun st pe => { state := st, pending := pe, fn, tmps := a.tmps, params := ps.toArray, assign, body, defers := w.heap.size } := ⟨_, rfl⟩
 obtain ⟨W1, hW1⟩ : ∃ W1, (w.alloc (.deferred (some []))).alloc (.loop (rec .ready none)) = W1 := ⟨_, rfl⟩
 obtain ⟨mk, hmk⟩ : ∃ mk : Deferred, mk = { target := .collected w.heap.size, args := #[] } := ⟨_, rfl⟩
 have hL1 : W1.heap[w.heap.size + 1]? = some (.loop (rec .ready none)) := by
  rw [← hW1]; have := World.alloc_heap_new (w.alloc (.deferred (some []))) (.loop (rec .ready none)); rwa [World.size_alloc] at this
 have hK1 : W1.heap[w.heap.size]? = some (.deferred (some [])) := by
  rw [← hW1]; exact (Below.heap_alloc _ _ _ (by simp)).trans (World.alloc_heap_new w _)
 have hb1 : Below w.heap.size w W1 := by
  rw [← hW1]; exact ((Below.refl _ w).alloc (Nat.le_refl _) _).alloc (by simp) _
 have hn : ∀ {o : Loop}, (Obj.loop o) ≠ .deferred (some []) := fun h => by cases h
 have hst1 : St (C.at (mk :: dd)) (H0 ++ (w.heap.size + 1, .loop (rec .ready none)) :: G0) W1 := by
  have hg := hw.grow hb1 (Hn := [(w.heap.size + 1, .loop (rec .ready none))]) ⟨fun x hx => by
   simp only [List.mem_singleton] at hx
   subst hx
   exact ⟨by simp, hL1⟩, by simp, fun x hx => by
   simp only [List.mem_singleton] at hx
   subst hx
   exact hn⟩
  have hnew : HOk w.heap.size W1 [(w.heap.size + 1, .loop (rec .ready none))] := ⟨fun x hx => by
   simp only [List.mem_singleton] at hx
   subst hx
   exact ⟨by simp, hL1⟩, by simp, fun x hx => by
   simp only [List.mem_singleton] at hx
   subst hx
   exact hn⟩
  refine ⟨hg.1, ((hH _ _ hw.2).grow hw.1.size hb1 hnew).perm List.perm_middle, ⟨?_, fun d hd => ?_⟩⟩
  ·refine List.nodup_cons.2 ⟨fun hin => ?_, hw.3.1⟩
   obtain ⟨D, hD, _, hD2⟩ := hw.3.2 mk hin
   rw [hmk] at hD
   have : D = w.heap.size := by cases hD; rfl
   have := (Array.getElem?_eq_some_iff.1 hD2).1
   omega
  ·rcases List.mem_cons.1 hd with rfl | hd
   ·exact ⟨_, hmk, hw.1.size, hK1⟩
   ·exact hg.3.2 d hd
 refine ⟨w.heap.size + 1, [mk], W1, { target := .fn (.func gf) lb.toArray, args := #[.func (.yield (w.heap.size + 1)) #[] #[]] }, W1, gf,
  (.func (.yield (w.heap.size + 1)) #[] #[] :: lb).toArray, W1, ?_, ?_, ?_, ?_, fun hd => (by rw [hF.depth] at hd; cases hd), ?_⟩
 ·rw [← hW1, hrec, hmk]; exact run_enterLoop_outer _ _ _ _ _
 ·have hgg : a.eval g = .func (.func gf) #[] lb.toArray := by rw [ha.eval]; exact hg
  simp only [resolve, hgg]
  simp [go_sem]
 ·intro f' hf'; simp [Target.leads] at hf'; subst hf'; exact hF.fn _
 ·simp [invoke, go_sem, eg]
 obtain ⟨l, hl⟩ : ∃ l, l = w.heap.size + 1 := ⟨_, rfl⟩
 rw [← hl] at hst1 hL1 ⊢
 have hcs := hit (mk :: dd) l (fun k G => ∃ G1, G = (l, .loop (rec .ready none)) :: G1 ∧ J k G1) (fun k G => ∃ c G1, G = (l, .loop (rec .done (some c))) :: G1 ∧ Jx c k G1) ?_ _ ⟨G0, rfl, h0⟩ W1 hst1
 ·refine calls_in hF (Calls.mono hcs ?_)
  rintro en w2 ⟨v, H', rfl, hw2, G', rfl, ⟨G1, rfl, hj⟩ | ⟨k, hk, c, G1, rfl, hj⟩⟩
  ·have hp := hw2.perm List.perm_middle.symm
   have hl2 := hp.get (i := 0) rfl
   have := run_endLoop (P := C.P) hl2 (by rw [hrec]; simp)
   refine ⟨_, _, this, ?_⟩
   rw [hrec]
   exact ⟨mk :: dd, e, H0 ++ G1, ⟨ha.size, by simp [ha.defers], ha.val⟩, (hp.put hn).sub (List.sublist_cons_self _ _), hdone G1 hj⟩
  ·have hp := hw2.perm List.perm_middle.symm
   have hl2 := hp.get (i := 0) rfl
   have := run_endLoop (P := C.P) hl2 (by rw [hrec]; simp)
   refine ⟨_, _, this, ?_⟩
   rw [hrec]
   exact hstop c k G1 hk hj (mk :: dd) _ ((hp.put hn).sub (List.sublist_cons_self _ _)) _ ⟨ha.size, by simp [ha.defers], ha.val⟩
 ·rintro k hk ds' H G ⟨G1, rfl, hj⟩ w3 hw3
  have hl3 := (hw3.perm List.perm_middle.symm).get (i := 0) rfl
  have hy := run_yield (P := C.P) (args := (encs k).toArray) hl3 (by rw [hrec]; simpa using hN k)
  rw [hrec] at hy
  refine ⟨fn, _, assign, body, hy, roundIn_of_wpIn trivial ?_⟩
  have hr0 : Rep n [] { tmps := (ps.toArray.zip (encs k).toArray).foldl (fun t x => t.setIfInBounds x.1 x.2) a.tmps, defers := [] } (setz e ps (encs k)) := by
   have := Rep.setz (ds := []) (ps := ps) (vs := encs k) (t := a.tmps) (e := e) ⟨ha.size, rfl, ha.val⟩ hps
   simpa using this
  have hw4 : St (Ctx.at ⟨C.P, C.w0, [], ds' ++ ((mk :: dd) ++ C.out)⟩ []) (G1 ++ (l, .loop (rec .ready none)) :: H) w3 := by
   have := hw3.perm (H' := G1 ++ (l, .loop (rec .ready none)) :: H) (List.perm_middle.trans ((List.Perm.cons _ List.perm_append_comm).trans List.perm_middle.symm))
   exact ⟨this.1, this.2, this.3⟩
  have hb := hbody k hk G1 hj (ds' ++ ((mk :: dd) ++ C.out)) l ((l, .loop (rec .ready none)) :: H) ((l, .loop { rec .ready none with state := .busy }) :: H) [] w3 hw4 _ hr0
  refine wpIn_mono hb ?_
  rintro x a4 w4 ⟨ds4, e4, H4, hr4, hs4, hq4⟩
  cases x with
  | normal =>
   obtain ⟨A, rfl, hb5⟩ := hq4
   have hp4 := hs4.perm (H' := (l, .loop (rec .ready none)) :: (A ++ H)) List.perm_middle.symm
   refine ⟨_, run_beginRound (hp4.get (i := 0) rfl) (by rw [hrec]), ?_⟩
   have hp5 := (hp4.put (o' := .loop { rec .ready none with state := .busy }) hn).perm (H' := A ++ (l, .loop { rec .ready none with state := .busy }) :: H) List.perm_middle
   refine wpIn_mono (hb5 ds4 _ hp5 a4 hr4) ?_
   rintro x a6 w6 ⟨ds6, e6, H6, hr6, hs6, hq6⟩
   have fin : ∀ (jump : Option Code) {G2 : List Blk}, HSub H6 (G2 ++ (l, .loop { rec .ready none with state := .busy }) :: H) →
     ∃ v w', (Instr.endRound l jump).run C.P w6 = .ok v w' ∧ v = .bool jump.isNone ∧ St (((C.at (mk :: dd)).inner).at ds') (H ++ (l, .loop (rec (if jump.isNone then .ready else .done) jump)) :: G2) w' := fun jump G2 hsub => by
    have h6 : St (Ctx.at ⟨C.P, C.w0, [], ds' ++ ((mk :: dd) ++ C.out)⟩ ds6) (G2 ++ (l, .loop { rec .ready none with state := .busy }) :: H) w6 := ⟨hs6.1, hsub _ _ hs6.2, hs6.3⟩
    have h7 := h6.perm (H' := (l, .loop { rec .ready none with state := .busy }) :: (G2 ++ H)) List.perm_middle.symm
    have he : ({ { rec .ready none with state := .busy } with state := if jump.isNone then .ready else .done, pending := jump } : Loop) = rec (if jump.isNone then .ready else .done) jump := by rw [hrec]
    have hr : (Instr.endRound l jump).run C.P w6 = .ok (.bool jump.isNone) (w6.putObj l (.loop (rec (if jump.isNone then .ready else .done) jump))) := by
     rw [← he]; exact run_endRound (P := C.P) jump (h7.get (i := 0) rfl)
    refine ⟨_, _, hr, rfl, ?_⟩
    have h8 := (h7.put (o' := .loop (rec (if jump.isNone then .ready else .done) jump)) hn).perm
     (H' := H ++ (l, .loop (rec (if jump.isNone then .ready else .done) jump)) :: G2) (List.perm_middle.trans (List.Perm.cons _ List.perm_append_comm)).symm.symm
    exact ⟨h8.1, h8.2, h8.3.right⟩
   cases x with
   | normal =>
    obtain ⟨G2, hsub, hj2⟩ := hq6
    obtain ⟨v, w', h1, rfl, h2⟩ := fin none hsub
    exact ⟨_, _, h1, true, _, rfl, h2, _, rfl, .inl ⟨rfl, G2, rfl, hj2⟩⟩
   | ret =>
    obtain ⟨G2, hsub, hj2⟩ := hq6
    obtain ⟨v, w', h1, rfl, h2⟩ := fin (some .ret) hsub
    exact ⟨_, _, h1, false, _, rfl, h2, _, rfl, .inr ⟨rfl, .ret, G2, rfl, hj2⟩⟩
   | exit i =>
    obtain ⟨G2, hsub, hj2⟩ := hq6
    obtain ⟨v, w', h1, rfl, h2⟩ := fin (some (.exit i)) hsub
    exact ⟨_, _, h1, false, _, rfl, h2, _, rfl, .inr ⟨rfl, .exit i, G2, rfl, hj2⟩⟩
   | goto _ => exact hq6.elim
   | panic _ => exact hq6.elim
   | outgrown => exact hq6.elim
  | ret => exact hq4.elim
  | exit _ => exact hq4.elim
  | goto _ => exact hq4.elim
  | panic _ => exact hq4.elim
  | outgrown => exact hq4.elim
end
end Go.Eng
namespace Go.Eng
open Go.RowKit
section
variable {P : Program} {F : Fence}
theorem uponIn_to {o : Oper} {a : Act} {K K' : Act → World → Prop} {Q Q' : Exit → Act → World → Prop} (hk : ∀ a w, K a w → K' a w) (hq : ∀ x, x ≠ .normal → ∀ a w, Q x a w → Q' x a w) :
  ∀ {r : Result Next}, o.uponIn F 0 P a K Q r → o.uponIn F 0 P a K' Q' r := by
 have hl : LetsOut Q → LetsOut Q' := fun ⟨a, w, h⟩ => ⟨a, w, hq _ (by simp) _ _ h⟩
 intro r h
 cases r with
 | ok x w =>
  cases x
  case value v => exact hk _ _ h
  case skip => exact hk _ _ h
  case defer d => exact hk _ _ h
  case enter f args =>
   refine ⟨h.1, CallsIn.mono h.2 fun en w' h => ?_⟩
   cases en with
   | returned v => exact hk _ _ h
   | panicked c => exact hq _ (by simp) _ _ h
   | outgrown => exact hl h
  case round l f tmps asg b =>
   refine ⟨h.1, RoundIn.mono h.2 fun en w' h => ?_⟩
   cases en with
   | returned v => exact hk _ _ h
   | panicked c => exact hq _ (by simp) _ _ h
   | outgrown => exact hl h
  case row r args => exact ⟨h.1, RowsIn.mono h.2 fun _ _ h => hk _ _ h⟩
  all_goals exact h.elim
 | halt x w =>
  cases x
  case panic v => exact hq _ (by simp) _ _ h
  all_goals exact h.elim
theorem wpIn_to {o : Oper} {a : Act} {w : World} {K K' : Act → World → Prop} {Q Q' : Exit → Act → World → Prop} (hk : ∀ a w, K a w → K' a w) (hq : ∀ x, x ≠ .normal → ∀ a w, Q x a w → Q' x a w)
  (h : o.wpIn F 0 P a w K Q) : o.wpIn F 0 P a w K' Q' := ⟨h.1, uponIn_to hk hq h.2⟩
structure Tail (ops : Array Oper) (m : Nat) : Prop where
 down : ∀ i k, edge ops i k = true → k < i
 chain : ∀ i, m < i → i < ops.size → edge ops i (i - 1) = true
 all : ∀ j, j < m → ∃ k, j < k ∧ k ≤ m ∧ edge ops k j = true
 guard : ∀ (i : Nat) (o : Oper), i < m → ops[i]? = some o → ∀ j b, o.guard = some (j, b) → j < m
def tailB (ops : Array Oper) (m : Nat) : Bool :=
 ((List.range ops.size).all fun i => (ops[i]?.map fun o => o.after.all fun e => !Region.binds .any e || Nat.blt e.on i).getD true) &&
 ((List.range ops.size).all fun i => !Nat.blt m i || edge ops i (i - 1)) &&
 ((List.range m).all fun j => (List.range (m + 1)).any fun k => Nat.blt j k && edge ops k j) &&
 ((List.range m).all fun i => (ops[i]?.map fun o => match o.guard with | some (j, _) => Nat.blt j m | none => true).getD true)
theorem edge_lt {ops : Array Oper} {i k : Nat} (h : edge ops i k = true) : i < ops.size := by
 unfold edge at h
 cases ho : ops[i]? with
 | none => rw [ho] at h; cases h
 | some o => exact (Array.getElem?_eq_some_iff.1 ho).1
theorem tail_of {ops : Array Oper} {m : Nat} (h : tailB ops m = true) : Tail ops m := by
 unfold tailB at h
 simp only [Bool.and_eq_true, List.all_eq_true, List.mem_range] at h
 obtain ⟨⟨⟨h1, h2⟩, h3⟩, h4⟩ := h
 refine ⟨fun i k hk => ?_, fun i hi hs => ?_, fun j hj => ?_, fun i o hi ho j b hg => ?_⟩
 ·have hi := edge_lt hk
  have := h1 i hi
  unfold edge at hk
  rw [Array.getElem?_eq_getElem hi] at hk this
  simp only [Option.map_some, Option.getD_some, Array.any_eq_true, Array.all_eq_true, Bool.and_eq_true, beq_iff_eq] at hk this
  obtain ⟨x, hx, he, hb⟩ := hk
  have := this x hx
  rw [he, hb] at this
  simpa using this
 ·have := h2 i hs
  have hb : Nat.blt m i = true := by rw [Nat.blt_eq]; exact hi
  simpa [hb] using this
 ·have := h3 j hj
  simp only [List.any_eq_true, List.mem_range, Bool.and_eq_true, Nat.blt_eq] at this
  obtain ⟨k, hk, hjk, he⟩ := this
  exact ⟨k, hjk, by omega, he⟩
 ·have := h4 i hi
  rw [ho] at this
  simp only [Option.map_some, Option.getD_some, hg, Nat.blt_eq] at this
  exact this
theorem tail_run {ops : Array Oper} {m : Nat} {Q : Exit → Act → World → Prop} (ht : Tail ops m) : ∀ (rest : List Oper) (i fuel : Nat) (listed : Array Bool) (a : Act) (w : World),
  (∀ j, rest[j]? = ops[i + j]?) → m ≤ i → i + rest.length = ops.size → listed.size = ops.size → (∀ j, Lst listed j ↔ j < i) → rest.length ≤ fuel → wpListIn F 0 P ops Q rest a w →
  wpAnyIn F 0 P .any ops Q fuel listed a w := by
 intro rest
 induction rest with
 | nil =>
  intro i fuel listed a w _ _ hsz hls hl _ h
  have hr : Region.ready .any ops listed = [] := by
   refine List.eq_nil_iff_forall_not_mem.2 fun j hj => ?_
   obtain ⟨h1, h2, _⟩ := ready_mem.1 hj
   have : Lst listed j := (hl j).2 (by simp at hsz; omega)
   unfold Lst at this
   rw [Array.getD_eq_getD_getElem?, Array.getElem?_eq_getElem (by rw [hls]; exact h1)] at this h2
   simp only [Option.getD_some] at this h2
   rw [this] at h2; cases h2
  cases fuel with
  | zero => exact ⟨hr, h⟩
  | succ f => exact ⟨fun _ => h, fun j hj => (by rw [hr] at hj; cases hj)⟩
 | cons o rest ih =>
  intro i fuel listed a w hget hm hsz hls hl hf h
  obtain ⟨f, rfl⟩ : ∃ f, fuel = f + 1 := ⟨fuel - 1, by simp at hf; omega⟩
  have hi : i < ops.size := by simp at hsz; omega
  have ho : ops[i]? = some o := by have := hget 0; simpa using this.symm
  have hni : listed.getD i true = false := by
   cases hb : listed.getD i true with
   | false => rfl
   | true =>
    have : Lst listed i := by
     unfold Lst
     rw [Array.getD_eq_getD_getElem?, Array.getElem?_eq_getElem (by rw [hls]; exact hi)] at hb ⊢
     exact hb
    have := (hl i).1 this
    omega
  have hin : i ∈ Region.ready .any ops listed := ready_mem.2 ⟨hi, hni, o, ho, fun e he hb => by
   have hed : edge ops i e.on = true := by
    unfold edge
    rw [ho]
    simp only [Option.map_some, Option.getD_some, Array.any_eq_true]
    obtain ⟨k, hk, rfl⟩ := Array.mem_iff_getElem.1 he
    exact ⟨k, hk, by simp [hb]⟩
   exact (hl e.on).2 (ht.down i e.on hed)⟩
  refine ⟨fun hr => (by rw [hr] at hin; cases hin), fun j hj => ?_⟩
  have hji : j = i := by
   obtain ⟨h1, h2, _⟩ := ready_mem.1 hj
   have hnl : ¬ Lst listed j := fun hlj => by
    unfold Lst at hlj
    rw [Array.getD_eq_getD_getElem?, Array.getElem?_eq_getElem (by rw [hls]; exact h1)] at hlj h2
    simp only [Option.getD_some] at hlj h2
    rw [hlj] at h2; cases h2
   rw [hl] at hnl
   refine Classical.byContradiction fun hne => ?_
   have := edge_of_ready hj (j - 1) (ht.chain j om0 h1)
   rw [hl] at this
   omega
  subst hji
  unfold wpOpIn
  rw [ho]
  simp only []
  have hrec : ∀ a w, wpListIn F 0 P ops Q rest a w → wpAnyIn F 0 P .any ops Q f (listed.setIfInBounds j true) a w := fun a w h => by
   refine ih (j + 1) f _ a w (fun t => ?_) om0 (by simp at hsz ⊢; omega) (by simp [hls]) (fun t => ?_) (by simp at hf; omega) h
   ·have := hget (t + 1)
    rw [List.getElem?_cons_succ] at this
    rw [this]; congr 1; omega
   ·rw [lst_set (by rw [hls]; exact hi), hl]; omega
  unfold wpListIn at h
  split at h
  ·rename_i hw
   rw [if_pos hw]
   exact wpIn_to hrec (fun _ _ _ _ h => h) h
  ·rename_i hw
   rw [if_neg hw]
   exact ⟨h.1, hrec _ _ h.2⟩
theorem tail_any {pre post : List Oper} {Q Q' : Exit → Act → World → Prop} (ht : Tail (pre ++ post).toArray pre.length) (hd : ∀ i k, edge pre.toArray i k = true → k < i)
  (hq : ∀ x, x ≠ .normal → ∀ a w, Q' x a w → Q x a w) (hn : ∀ a w, Q' .normal a w → wpListIn F 0 P (pre ++ post).toArray Q post a w) :
  ∀ (fuel fuel2 : Nat) (listed : Array Bool) (a : Act) (w : World), listed.size = pre.length → (∀ j k, Lst listed j → edge pre.toArray j k = true → Lst listed k) → fuel + post.length ≤ fuel2 →
   wpAnyIn F 0 P .any pre.toArray Q' fuel listed a w → wpAnyIn F 0 P .any (pre ++ post).toArray Q fuel2 (listed ++ Array.replicate post.length false) a w := by
 have hgetl : ∀ (listed : Array Bool) (j : Nat) (b : Bool), listed.size = pre.length → j < pre.length → (listed ++ Array.replicate post.length false).getD j b = listed.getD j b := fun listed j b hs hj => by
  rw [Array.getD_eq_getD_getElem?, Array.getD_eq_getD_getElem?, Array.getElem?_append_left om0]
 have hgetr : ∀ (listed : Array Bool) (j : Nat), listed.size = pre.length → pre.length ≤ j → (listed ++ Array.replicate post.length false).getD j false = false := fun listed j hs hj => by
  rw [Array.getD_eq_getD_getElem?, Array.getElem?_append_right om0, Array.getElem?_replicate]
  split <;> rfl
 have hop : ∀ j, j < pre.length → (pre ++ post).toArray[j]? = pre.toArray[j]? := fun j hj => by simp [List.getElem?_append_left hj]
 have hedge : ∀ j k, j < pre.length → edge (pre ++ post).toArray j k = edge pre.toArray j k := fun j k hj => by unfold edge; rw [hop j hj]
 -- all that is ahead is done
 have full : ∀ (fuel2 : Nat) (listed : Array Bool) (a : Act) (w : World), listed.size = pre.length → (∀ j, j < pre.length → Lst listed j) → post.length ≤ fuel2 → Q' .normal a w →
   wpAnyIn F 0 P .any (pre ++ post).toArray Q fuel2 (listed ++ Array.replicate post.length false) a w := fun fuel2 listed a w hs hl hf h => by
  refine tail_run ht post pre.length fuel2 _ a w (fun j => by simp [List.getElem?_append_right]) (Nat.le_refl _) (by simp) (by simp [hs]) (fun j => ?_) hf (hn a w h)
  unfold Lst
  by_cases hj : j < pre.length
  ·rw [hgetl listed j false hs hj]; exact ⟨fun _ => hj, fun _ => hl j hj⟩
  ·rw [hgetr listed j hs om0]; exact ⟨fun h => (by cases h), fun h => absurd h hj⟩
 intro fuel
 induction fuel with
 | zero =>
  intro fuel2 listed a w hs _ hf h
  exact full fuel2 listed a w hs (fun j hj => all_of_ready_nil hd (by simp [hs]) h.1 j (by simpa using hj)) om0 h.2
 | succ fuel ih =>
  intro fuel2 listed a w hs hdc hf h
  by_cases hr : Region.ready .any pre.toArray listed = []
  ·exact full fuel2 listed a w hs (fun j hj => all_of_ready_nil hd (by simp [hs]) hr j (by simpa using hj)) om0 (h.1 hr)
  ·obtain ⟨f2, rfl⟩ : ∃ f2, fuel2 = f2 + 1 := ⟨fuel2 - 1, by omega⟩
   have hiff : ∀ i, i ∈ Region.ready .any (pre ++ post).toArray (listed ++ Array.replicate post.length false) → i ∈ Region.ready .any pre.toArray listed := fun i hi => by
    have hed := edge_of_ready hi
    obtain ⟨h1, h2, o, ho, h3⟩ := ready_mem.1 hi
    have him : i < pre.length := by
     refine Classical.byContradiction fun hge => ?_
     by_cases hm : i = pre.length
     ·subst hm
      -- all ahead of it are done: none is ready
      have hall : ∀ t, ∀ j, pre.length - t ≤ j → j < pre.length → Lst listed j := by
       intro t
       induction t with
       | zero => intro j h1 h2; omega
       | succ t iht =>
        intro j hj1 hj2
        by_cases hlt : pre.length - t ≤ j
        ·exact iht j hlt hj2
        ·obtain ⟨k, hk1, hk2, hk3⟩ := ht.all j hj2
         by_cases hkm : k = pre.length
         ·subst hkm
          have := hed j hk3
          unfold Lst at this ⊢
          rwa [hgetl listed j false hs hj2] at this
         ·have hk := iht k om0 om0
          rw [hedge k j om0] at hk3
          exact hdc k j hk hk3
      refine hr (List.eq_nil_iff_forall_not_mem.2 fun j hj => ?_)
      obtain ⟨g1, g2, _⟩ := ready_mem.1 hj
      have hjl : j < pre.length := by simpa using g1
      have := hall pre.length j om0 hjl
      unfold Lst at this
      rw [Array.getD_eq_getD_getElem?, Array.getElem?_eq_getElem om0] at this g2
      simp only [Option.getD_some] at this g2
      rw [this] at g2; cases g2
     ·have := hed (i - 1) (ht.chain i om0 h1)
      unfold Lst at this
      rw [hgetr listed (i - 1) hs om0] at this
      cases this
    rw [hop i him] at ho
    refine ready_mem.2 ⟨by simpa using him, by rwa [hgetl listed i true hs him] at h2, o, ho, fun e he hb => ?_⟩
    have hek := h3 e he hb
    have hlt : e.on < i := hd i e.on (by
     unfold edge
     rw [ho]
     simp only [Option.map_some, Option.getD_some, Array.any_eq_true]
     obtain ⟨k, hk, rfl⟩ := Array.mem_iff_getElem.1 he
     exact ⟨k, hk, by simp [hb]⟩)
    rwa [hgetl listed e.on false hs om0] at hek
   refine ⟨fun hr2 => ?_, fun i hi => ?_⟩
   ·-- some operation is ready
    exfalso
    obtain ⟨i, hi⟩ := List.exists_mem_of_ne_nil _ hr
    obtain ⟨h1, h2, o, ho, h3⟩ := ready_mem.1 hi
    have him : i < pre.length := by simpa using h1
    have : i ∈ Region.ready .any (pre ++ post).toArray (listed ++ Array.replicate post.length false) := ready_mem.2 ⟨by simp; omega, by rw [hgetl listed i true hs him]; exact h2, o, by rw [hop i him]; exact ho, fun e he hb => by
     have hlt : e.on < i := hd i e.on (by
      unfold edge
      rw [ho]
      simp only [Option.map_some, Option.getD_some, Array.any_eq_true]
      obtain ⟨k, hk, rfl⟩ := Array.mem_iff_getElem.1 he
      exact ⟨k, hk, by simp [hb]⟩)
     rw [hgetl listed e.on false hs om0]
     exact h3 e he hb⟩
    rw [hr2] at this; cases this
   ·have hi' := hiff i hi
    have hh := h.2 i hi'
    have hpre := edge_of_ready hi'
    obtain ⟨h1, h2, o, ho, h3⟩ := ready_mem.1 hi'
    have him : i < pre.length := by simpa using h1
    have hset : (listed ++ Array.replicate post.length false).setIfInBounds i true = listed.setIfInBounds i true ++ Array.replicate post.length false := by
     refine Array.ext_getElem? fun t => ?_
     rw [Array.getElem?_setIfInBounds, Array.getElem?_append, Array.getElem?_append, Array.getElem?_setIfInBounds]
     simp only [Array.size_append, Array.size_setIfInBounds]
     by_cases hit : i = t
     ·subst hit; simp [hs, him]; omega
     ·simp [hit]
    have hrec : ∀ a w, wpAnyIn F 0 P .any pre.toArray Q' fuel (listed.setIfInBounds i true) a w → wpAnyIn F 0 P .any (pre ++ post).toArray Q f2 ((listed ++ Array.replicate post.length false).setIfInBounds i true) a w := fun a w h => by
     rw [hset]
     refine ih f2 _ a w (by simp [hs]) (fun j k hj he => ?_) om0 h
     rw [lst_set om0] at hj ⊢
     rcases hj with rfl | hj
     ·exact .inr (hpre k he)
     ·exact .inr (hdc j k hj he)
    unfold wpOpIn at hh ⊢
    rw [hop i him, ho]
    rw [ho] at hh
    simp only [] at hh ⊢
    have hwant : Region.wanted o (yielded (pre ++ post).toArray a.tmps) = Region.wanted o (yielded pre.toArray a.tmps) := by
     unfold Region.wanted
     cases hg : o.guard with
     | none => rfl
     | some gg =>
      obtain ⟨j, b⟩ := gg
      have hj := ht.guard i o him (by rw [hop i him]; exact ho) j b hg
      simp only [yielded, hop j hj]
    rw [hwant]
    split at hh
    ·rename_i hw
     rw [if_pos hw]
     exact wpIn_to hrec hq hh
    ·rename_i hw
     rw [if_neg hw]
     exact ⟨hh.1, hrec _ _ hh.2⟩
section
variable {C : Ctx} {n : Nat} {ds : List Deferred} {Q : Exit → Env → List Blk → Prop} {e : Env} {H : List Blk}
def tailQ (C : Ctx) (F : Fence) (n : Nat) (ds : List Deferred) (all : Array Oper) (post : List Oper) (Q : Exit → Env → List Blk → Prop) : Exit → Env → List Blk → Prop
 | .normal, e, H => WS C F n ds all Q post e H
 | x, e, H => Q x e H
theorem W_drawT {id : Nat} {l : List Oper} {H0 : List Blk} (m : Nat) (hF : Wide F) (hm : C.P.follows .mixedOrders = true) (pres : List Pre) (S : List Nat)
  (hH : HSub H (pres.map (fun p => (p.b, p.o)) ++ H0))
  (hph : (phased (l.take m).toArray (pres.map (·.slot)) && ((l.take m).all fun o => dOk n o.dst && gOk n (l.take m).toArray o) && (pres.all fun p => S.contains p.slot) && tailB l.toArray m && Nat.ble m l.length) = true) (hnd : (pres.map (·.slot)).Nodup)
  (hp : ∀ ds, PW (C.at ds) (l.take m).toArray S (fun us e => OverAll (fun e H => WS (C.at ds) F n ds l.toArray Q (l.drop m) e H) (fun _ => True) us e H0) H0 (l.take m) [] (pres.map Pre.un) e) :
  W C F n ds (.region id l.toArray true) Q e H := fun dd w hw a ha => by
 simp only [Bool.and_eq_true] at hph
 obtain ⟨⟨⟨⟨hph, hdk⟩, hsub⟩, ht⟩, hml⟩ := hph
 have hml : m ≤ l.length := Nat.le_of_ble_eq_true hml
 have hlen : (l.take m).length = m := by simp; omega
 have hl : l.take m ++ l.drop m = l := List.take_append_drop m l
 have ht' : Tail (l.take m ++ l.drop m).toArray (l.take m).length := by rw [hl, hlen]; exact tail_of ht
 refine wpIn_mono (Q := lift (C.at dd) n dd Q) (wpIn_region_any hm ?_) fun _ _ _ h => lift_M h
 have h1 := draw_any (C := C.at dd) (ds := dd) (F := F) (n := n) (ops := (l.take m).toArray) (Q := tailQ (C.at dd) F n dd l.toArray (l.drop m) Q) (e := e) (H := H) (H0 := H0) hF pres S (fun _ hw => ⟨hw.1, hH _ _ hw.2, hw.3⟩) hph (by simpa using hdk) hsub hnd (hp dd) w hw a ha
 have h2 := tail_any (P := C.P) (F := F) (pre := l.take m) (post := l.drop m) (Q := lift (C.at dd) n dd Q) (Q' := lift (C.at dd) n dd (tailQ (C.at dd) F n dd l.toArray (l.drop m) Q)) ht' (phased_spec hph).down
  (fun x hx a w ⟨e, H, g1, g2, g3⟩ => ⟨e, H, g1, g2, by cases x <;> first | exact g3 | exact absurd rfl hx⟩) (fun a w ⟨e, H, g1, g2, g3⟩ => by rw [hl]; exact g3 w g2 a g1)
  (l.take m).toArray.size l.toArray.size (Array.replicate (l.take m).toArray.size false) a w.drew (by simp) (fun j k hj => by
   unfold Lst at hj
   rw [Array.getD_eq_getD_getElem?, Array.getElem?_replicate] at hj
   split at hj <;> cases hj) (by simp; omega) h1
 rw [hl] at h2
 have hrep : Array.replicate (l.take m).toArray.size false ++ Array.replicate (l.drop m).length false = Array.replicate l.toArray.size false := by
  rw [Array.replicate_append_replicate]
  congr 1
  simp; omega
 rw [hrep] at h2
 exact h2
end
section
variable {C : Ctx} {n : Nat} {ds : List Deferred} {Q : Exit → Env → List Blk → Prop} {e : Env} {H : List Blk}
theorem W_drawMT {id : Nat} {l : List Oper} {H0 : List Blk} (m : Nat) (hF : Wide F) (hm : C.P.follows .mixedOrders = true) (pres : List Pre) (slots S : List Nat) (hs : pres.map (·.slot) = slots)
  (hph : (phased (l.take m).toArray slots && ((l.take m).all fun o => dOk n o.dst && gOk n (l.take m).toArray o) && (slots.all fun p => S.contains p) && tailB l.toArray m && Nat.ble m l.length) = true) (hnd : slots.Nodup)
  (hH : HSub H (pres.map (fun p => (p.b, p.o)) ++ H0))
  (hp : ∀ ds, PW (C.at ds) (l.take m).toArray S (fun us e => OverAll (fun e H => WS (C.at ds) F n ds l.toArray Q (l.drop m) e H) (fun _ => True) us e H0) H0 (l.take m) [] (pres.map Pre.un) e) :
  W C F n ds (.region id l.toArray true) Q e H := by
 subst hs
 refine W_drawT (H0 := H0) m hF hm pres S hH ?_ hnd hp
 rw [List.all_map] at hph
 exact hph
end
end
theorem Cs_start {C : Ctx} {f : FuncId} {args : List Value} {fn : Func} {c : Code} {k : Nat} {R : Value → List Blk → Prop} {H : List Blk} (hf : C.P.funcs[f]? = some fn) (hb : fn.body = some c) (hn : fn.ntmps = k) (hl : Nat.ble args.length k = true)
  (h : W C.inner Fence.wide k [] c (Fin C.inner fn R) (start args) H) : Cs C f args.toArray H R := by
 subst hn
 exact Cs_of_W hf hb hl h
theorem Fin_norm {C : Ctx} {e : Env} {H : List Blk} {fn : Func} {rs : List ResultVar} {R : Value → List Blk → Prop} (vs : List Value) (Hn : List Blk) (hr : fn.results = rs.toArray) (h1 : RVs C e H rs vs) (h2 : HSub H Hn) (h3 : R (tupOf vs) Hn) : Fin C fn R .normal e H :=
 ⟨vs, Hn, by rw [hr]; exact h1, h2, h3⟩
theorem Ct.cs {C : Ctx} {f : FuncId} {args : Array Value} {H : List Blk} {R : Value → List Blk → Prop} (h : ∀ w, St C H w → Ct C.P f args w R) : Cs C f args H fun v H' => ∃ Hn, H' = Hn ++ H ∧ R v Hn := fun w hw =>
 Calls.mono (h w hw) fun _ _ ⟨v, he, Hn, h1, h2, h3⟩ => ⟨v, Hn ++ H, he, hw.grow h1 h2, Hn, rfl, h3⟩
theorem Mem.oldAtL1 {C : Ctx} {H : List Blk} {b o p : Nat} {vs : List Value} {u : Value} (h : At C.w0 b o vs) (hp : Nat.ble o p = true) (hd : vs[p - o]? = some u) : Mem C H b p [u] := by
 have := Mem.oldAt1 (C := C) (H := H) h hd
 rwa [show o + (p - o) = p by have := Nat.le_of_ble_eq_true hp; omega] at this
end Go.Eng
namespace Go.Eng
open Go.RowKit
def rowOf {α : Type} (enc : α → List Value) (f : Nat → α) (n : Nat) : List Value := (List.range n).flatMap fun k => enc (f k)
section
variable {α : Type} {enc : α → List Value} {sz : Nat}
theorem rowOf_succ (f : Nat → α) (n : Nat) : rowOf enc f (n + 1) = rowOf enc f n ++ enc (f n) := by
 unfold rowOf; rw [List.range_succ, List.flatMap_append]; simp
theorem rowOf_len (hz : ∀ x, (enc x).length = sz) (f : Nat → α) : ∀ n, (rowOf enc f n).length = n * sz
 | 0 => by simp [rowOf]
 | n + 1 => by rw [rowOf_succ, List.length_append, rowOf_len hz f n, hz, Nat.add_mul, Nat.one_mul]
theorem rowOf_split (hz : ∀ x, (enc x).length = sz) (f : Nat → α) (k : Nat) : ∀ n, k < n → ∃ t, rowOf enc f n = rowOf enc f k ++ (enc (f k) ++ t) ∧ t = rowOf enc (fun j => f (k + 1 + j)) (n - (k + 1))
 | n + 1, h => by
  by_cases hk : k = n
  ·subst hk
   exact ⟨[], by rw [rowOf_succ, List.append_nil], by rw [Nat.sub_self]; rfl⟩
  ·obtain ⟨t, h1, h2⟩ := rowOf_split hz f k n om0
   refine ⟨t ++ enc (f n), by rw [rowOf_succ, h1]; simp, ?_⟩
   rw [show n + 1 - (k + 1) = (n - (k + 1)) + 1 by omega, rowOf_succ, ← h2, show k + 1 + (n - (k + 1)) = n by omega]
theorem rowOf_drop (hz : ∀ x, (enc x).length = sz) (f : Nat → α) {k n : Nat} (h : k < n) : ∃ t, (rowOf enc f n).drop (k * sz) = enc (f k) ++ t := by
 obtain ⟨t, h1, _⟩ := rowOf_split hz f k n h
 exact ⟨t, by rw [h1, ← rowOf_len hz f k, List.drop_left]⟩
end
section
variable {C : Ctx} {e : Env} {H : List Blk} {d : Option Tmp} {ty : TypeId} {pos : String} {af : Array Edge} {g : Option (Nat × Bool)}
end
end Go.Eng
namespace Go.Eng
open Go.RowKit
section
variable {P : Program} {F : Fence}
structure TailZ (ops : Array Oper) (m z : Nat) : Prop where
 down : ∀ i k, edge ops i k = true → k < i
 chain : ∀ i, m < i → i < ops.size → edge ops i (i - 1) = true
 all : ∀ j, j < m → j ≠ z → ∃ k, j < k ∧ k ≤ m ∧ k ≠ z ∧ edge ops k j = true
 last : m + 1 < ops.size → edge ops (m + 1) z = true
 zlt : z < m
 guard : ∀ (i : Nat) (o : Oper), i < m → ops[i]? = some o → ∀ j b, o.guard = some (j, b) → j < m
def tailZB (ops : Array Oper) (m z : Nat) : Bool :=
 ((List.range ops.size).all fun i => (ops[i]?.map fun o => o.after.all fun e => !Region.binds .any e || Nat.blt e.on i).getD true) &&
 ((List.range ops.size).all fun i => !Nat.blt m i || edge ops i (i - 1)) &&
 ((List.range m).all fun j => Nat.beq j z || (List.range (m + 1)).any fun k => Nat.blt j k && !Nat.beq k z && edge ops k j) &&
 (!Nat.blt (m + 1) ops.size || edge ops (m + 1) z) && Nat.blt z m &&
 ((List.range m).all fun i => (ops[i]?.map fun o => match o.guard with | some (j, _) => Nat.blt j m | none => true).getD true)
end
section
variable {C : Ctx} {F : Fence} {n : Nat} {ds : List Deferred} {Q : Exit → Env → List Blk → Prop} {e : Env} {H : List Blk}
def tailZQ (C : Ctx) (F : Fence) (n : Nat) (ds : List Deferred) (all : Array Oper) (om oz : Oper) (d : Nat) (post : List Oper) (Q : Exit → Env → List Blk → Prop) : Exit → Env → List Blk → Prop
 | .normal, e, H => WS C F n ds all Q (om :: post) e H ∧ ∀ x, WS C F n ds all Q (om :: oz :: post) (upd e d x) H
 | x, e, H => Q x e H
end
def SubP (H T : List Blk) : Prop := ∃ L, H.Perm (T ++ L)
theorem SubP.nil {H : List Blk} : SubP H [] := ⟨H, List.Perm.refl _⟩
theorem SubP.refl {H : List Blk} : SubP H H := ⟨[], by rw [List.append_nil]⟩
theorem SubP.drop {x : Blk} {H T : List Blk} (h : SubP H T) : SubP (x :: H) T := by
 obtain ⟨L, h⟩ := h
 exact ⟨x :: L, (h.cons x).trans List.perm_middle.symm⟩
theorem SubP.pick {x : Blk} {H T : List Blk} (i : Nat) (hi : H[i]? = some x) (h : SubP (H.eraseIdx i) T) : SubP H (x :: T) := by
 obtain ⟨L, h⟩ := h
 exact ⟨L, (perm_erase hi).trans (h.cons x)⟩
theorem SubP.hsub {H T : List Blk} (h : SubP H T) : HSub H T := by
 obtain ⟨L, h⟩ := h
 exact fun _ _ hk => (hk.perm h.symm).sub (List.sublist_append_left _ _)
theorem W_H {C : Ctx} {F : Fence} {n : Nat} {ds : List Deferred} {c : Code} {Q : Exit → Env → List Blk → Prop} {e : Env} {H H' : List Blk} (hH : H = H') (h : W C F n ds c Q e H') : W C F n ds c Q e H := by subst hH; exact h
section
variable {C : Ctx} {H : List Blk} {b o n k j sz : Nat} {α : Type} {enc : α → List Value} {f : Nat → α} {T : TypeId} {s : α} {v : Value}
theorem Mem.row (hz : ∀ x, (enc x).length = sz) (i : Nat) (hi : H[i]? = some (b, CB (rowOf enc f n) T)) (hk : k < n) (hs : f k = s) (ho : o = k * sz) : Mem C H b o (enc s) := by
 subst hs ho
 obtain ⟨t, ht⟩ := rowOf_drop hz f hk
 exact Mem.own i hi ht
end
def tupAt : Value → Nat → Value
 | .tuple vs, i => vs.getD i undef
 | _, _ => undef
def slAt : Value → Nat → Value
 | .slice (some ⟨b, o, r⟩) _ _, k => .pointer (some ⟨b, o + k, r⟩)
 | _, _ => undef
theorem Mem.rowJ {C : Ctx} {H : List Blk} {b o n k sz : Nat} {α : Type} {enc : α → List Value} {f : Nat → α} {T : TypeId} {s : α} {junk : List Value} (hz : ∀ x, (enc x).length = sz) (i : Nat) (hi : H[i]? = some (b, CB (rowOf enc f n ++ junk) T)) (hk : k < n) (hs : f k = s) (ho : o = k * sz) : Mem C H b o (enc s) := by
 subst hs ho
 obtain ⟨t, ht⟩ := rowOf_drop hz f hk
 refine Mem.own (rest := t ++ junk) i hi ?_
 rw [List.drop_append_of_le_length (by rw [rowOf_len hz]; exact Nat.mul_le_mul_right _ (Nat.le_of_lt hk)), ht, List.append_assoc]
def partC (e : Env) : Value ⊕ Nat → List Value
 | .inl v => [v]
 | .inr t => cellsL (e t)
def aggC (ps : List (Value ⊕ Nat)) (e : Env) : Value := .agg (ps.flatMap (partC e)).toArray
end Go.Eng
namespace Go.Eng
open Go.RowKit
section
variable {C : Ctx} {e : Env} {H : List Blk} {d : Option Tmp} {ty : TypeId} {pos : String} {af : Array Edge} {g : Option (Nat × Bool)} {x y : Operand} {t t' : TypeId} {m n : Int}
end
section
variable {C : Ctx} {F : Fence} {n : Nat} {ds : List Deferred} {all : Array Oper} {Q : Exit → Env → List Blk → Prop} {rest : List Oper} {e : Env} {H : List Blk}
variable {d : Option Tmp} {ty : TypeId} {pos : String} {af : Array Edge} {g : Option (Nat × Bool)}
end
section
variable {C : Ctx} {F : Fence} {n : Nat} {ds : List Deferred} {Q : Exit → Env → List Blk → Prop} {e : Env} {H : List Blk}
end
section
variable {α : Type} {enc : α → List Value} {sz : Nat}
end
end Go.Eng
namespace Go.Eng
open Go.RowKit
abbrev Ent := Int × Value × Nat
def mEnt (x : Ent) : MapEntry := { key := .int .i64 x.1, val := x.2.1, born := x.2.2 }
def MO (l : List Ent) (clock : Nat) : Obj := .map (l.map mEnt).toArray clock
def hasK (k : Int) (x : Ent) : Bool := x.1 == k
section
variable {C : Ctx} {F : Fence} {n : Nat} {ds : List Deferred} {all : Array Oper} {Q : Exit → Env → List Blk → Prop} {rest : List Oper} {e : Env} {H : List Blk}
variable {d : Option Tmp} {ty : TypeId} {pos : String} {af : Array Edge} {g : Option (Nat × Bool)}
def NewMap (v : Value) (Hn : List Blk) : Prop := ∃ b, v = .map (some b) ∧ Hn = [(b, MO [] 0)]
def lookV (z : Value) : Option Value → Value
 | some v => .tuple #[v, .bool true]
 | none => .tuple #[z, .bool false]
end
end Go.Eng
namespace Go.Eng
open Go.RowKit
section
variable {C : Ctx} {F : Fence} {n : Nat} {ds : List Deferred} {all : Array Oper} {Q : Exit → Env → List Blk → Prop} {rest : List Oper} {e : Env} {H : List Blk}
variable {d : Option Tmp} {ty : TypeId} {pos : String} {af : Array Edge} {g : Option (Nat × Bool)}
theorem WS_appendE (hF : Wide F) {x y : Operand} {T E : TypeId} {a a' : Option Addr} {n' m cap cap' sz by_ : Nat} {us news : List Value} {z : Value} {H1 Hn : List Blk} (hc : chk n all e ⟨d, .call ⟨.builtin .append, #[x, y], #[T, T]⟩, ty, pos, af, g⟩ = true)
  (hx : ev e x = .slice a n' cap) (hy : ev e y = .slice a' m cap') (hT : C.P.underlying T = some (.slice E)) (hinf : (C.P.info? E).map (fun i => (i.zero, i.size, i.bytes)) = some (some z, sz, by_))
  (hzs : z.cells.size = sz) (hH : H = H1 ++ Hn) (hrow : Row E sz a n' cap us Hn) (hs : Src C H a' m news) (hl : news.length = m * sz) (hone : news.all Value.oneCell' = true) (hb : (n' + m) * by_ ≤ 140737488355328) (hm : n' + m ≤ 140737488355328)
  (hk : ∀ a' cap' Hn', Row E sz a' (n' + m) cap' (us ++ news) Hn' → WS C F n ds all Q rest (updo e d (.slice a' (n' + m) cap')) (H1 ++ Hn')) :
  WS C F n ds all Q (⟨d, .call ⟨.builtin .append, #[x, y], #[T, T]⟩, ty, pos, af, g⟩ :: rest) e H :=
 WS_append (H1 := H1) (H2 := []) hF hc hx hy hT hinf hzs (by rw [hH, List.append_nil]) hrow hs hl hone hb hm fun a' cap' Hn' hr => by
  rw [List.append_nil]; exact hk a' cap' Hn' hr
end
end Go.Eng
namespace Go.Eng
open Go.RowKit
section
variable {C : Ctx} {F : Fence} {n : Nat} {ds : List Deferred} {ops : Array Oper} {Q : Exit → Env → List Blk → Prop} {fuel : Nat} {listed : Array Bool} {e : Env} {H : List Blk}
def WA (C : Ctx) (F : Fence) (n : Nat) (ds : List Deferred) (ops : Array Oper) (Q : Exit → Env → List Blk → Prop) (fuel : Nat) (listed : Array Bool) (e : Env) (H : List Blk) : Prop :=
 ∀ w, St C H w → ∀ a, Rep n ds a e → wpAnyIn F 0 C.P .any ops (lift C n ds Q) fuel listed a w
def OnlyQ (M : Env → List Blk → Prop) : Exit → Env → List Blk → Prop
 | .normal, e, H => M e H
 | _, _, _ => False
def Pure (P : Program) (e : Env) (o : Oper) (c : Value) : Prop := (∀ w, (execOp (ev e) o).run P w = .ok (.value c) w) ∧ ∀ w, o.about P w (ev e) = none
def NextQ (M : Env → List Blk → Prop) (N : Env → List Blk → Prop) : Exit → Env → List Blk → Prop
 | .normal, e, H => N e H
 | x, e, H => OnlyQ M x e H
end
end Go.Eng
namespace Go.Eng
open Go.RowKit
section
variable {C : Ctx} {F : Fence} {n : Nat} {ds : List Deferred} {Q : Exit → Env → List Blk → Prop} {e : Env} {H : List Blk}
def NoG (Q : Exit → Env → List Blk → Prop) : Exit → Env → List Blk → Prop
 | .goto _, _, _ => False
 | x, e, H => Q x e H
theorem NoG_ret (h : Q .ret e H) : NoG Q .ret e H := h
theorem W_scope {c : Code} (h : W C Fence.wide n ds c (NoG Q) e H) : W C Fence.wide n ds (.scope c) Q e H := fun dd w hw a ha => by
 have h1 := h dd w hw a ha
 rw [wpIn_wide] at h1 ⊢
 refine wp_scope_straight ?_
 rw [← wpIn_wide (n := 0)] at h1 ⊢
 refine wpIn_mono h1 ?_
 rintro x a' w' ⟨d', e', H', g1, g2, g3⟩
 cases x with
 | goto l => exact g3.elim
 | _ => exact ⟨d', e', H', g1, g2, g3⟩
end
end Go.Eng
namespace Go.Eng
open Go.RowKit
section
variable {S1 S2 M M' L : List Blk} {x y : Blk}
theorem Pul.base : (S1 ++ x :: S2).Perm (x :: (S1 ++ S2)) := List.perm_middle
theorem Pul.cons (h : M.Perm (x :: M')) : (y :: M).Perm (x :: y :: M') := (h.cons y).trans (List.Perm.swap ..)
theorem Pul.app (h : M.Perm (x :: M')) : (L ++ M).Perm (x :: (L ++ M')) := (h.append_left L).trans List.perm_middle
theorem Pul.end (h : M.Perm (x :: M')) : M.Perm (x :: M') := h
end
def Sh1 (x y : Blk) : Prop := x.1 = y.1 ∧ ∃ vs us T, x.2 = CB vs T ∧ y.2 = CB us T ∧ us.length = vs.length
inductive Shp : List Blk → List Blk → Prop
 | nil : Shp [] []
 | cons {x y : Blk} {l m : List Blk} : Sh1 x y → Shp l m → Shp (x :: l) (y :: m)
theorem Sh1.refl {b : Nat} {vs : List Value} {T : TypeId} : Sh1 (b, CB vs T) (b, CB vs T) := ⟨rfl, vs, vs, T, rfl, rfl, rfl⟩
theorem Shp.app {a b c d : List Blk} (h : Shp a b) (h' : Shp c d) : Shp (a ++ c) (b ++ d) := by
 induction h with
 | nil => exact h'
 | cons h1 _ ih => exact .cons h1 ih
theorem CB_inj {vs us : List Value} {T T' : TypeId} (h : CB vs T = CB us T') : vs = us ∧ T = T' := by
 unfold CB at h
 simp only [Obj.cells.injEq] at h
 exact ⟨by simpa using h.1, by simpa using h.2⟩
theorem Shp.get {S0 S : List Blk} {b : Nat} {vs : List Value} {T : TypeId} (h : Shp S0 S) (hm : (b, CB vs T) ∈ S0) :
  ∃ S1 us S2, S = S1 ++ (b, CB us T) :: S2 ∧ us.length = vs.length ∧ ∀ us', us'.length = us.length → Shp S0 (S1 ++ (b, CB us' T) :: S2) := by
 induction h with
 | nil => cases hm
 | @cons x y l m h1 h2 ih =>
  rcases List.mem_cons.1 hm with rfl | hm
  ·obtain ⟨rfl, vs', us, T', e1, e2, hl⟩ := h1
   obtain ⟨rfl, rfl⟩ := CB_inj e1
   obtain ⟨yb, yo⟩ := y
   simp only at e2
   subst e2
   exact ⟨[], us, m, rfl, hl, fun us' hl' => .cons ⟨rfl, _, _, _, rfl, rfl, hl'.trans hl⟩ h2⟩
  ·obtain ⟨S1, us, S2, rfl, hl, hp⟩ := ih hm
   exact ⟨y :: S1, us, S2, rfl, hl, fun us' hl' => .cons h1 (hp us' hl')⟩
def OwnR (S0 : List Blk) (T : TypeId) (sz : Nat) (a : Option Addr) (n : Nat) : Prop := n = 0 ∨ ∃ b vs, a = some ⟨b, 0, none⟩ ∧ (b, CB vs T) ∈ S0 ∧ n * sz ≤ vs.length
theorem NewRow.own {S0 : List Blk} {T : TypeId} {sz n cap : Nat} {us : List Value} {a : Option Addr} {Hn : List Blk} (h : NewRow T sz n us (.slice a n cap) Hn) (hs : ∀ x ∈ Hn, x ∈ S0) : OwnR S0 T sz a n := by
 obtain ⟨a', cap', he, hle, ⟨hn, b, junk, rfl, rfl, hl⟩ | ⟨h0, _⟩⟩ := h
 ·cases he
  exact .inr ⟨b, _, rfl, hs _ (List.mem_singleton.2 rfl), by rw [hl]; exact Nat.mul_le_mul_right _ hle⟩
 ·exact .inl h0
theorem OwnR.get {S0 S : List Blk} {T : TypeId} {sz n k : Nat} {a : Option Addr} (h : OwnR S0 T sz a n) (hk : k < n) (hS : Shp S0 S) :
  ∃ b S1 us S2, a = some ⟨b, 0, none⟩ ∧ S = S1 ++ (b, CB us T) :: S2 ∧ k * sz + sz ≤ us.length ∧ ∀ us', us'.length = us.length → Shp S0 (S1 ++ (b, CB us' T) :: S2) := by
 rcases h with h | ⟨b, vs, rfl, hm, hl⟩
 ·omega
 ·obtain ⟨S1, us, S2, rfl, hu, hp⟩ := hS.get hm
  refine ⟨b, S1, us, S2, rfl, rfl, ?_, hp⟩
  rw [hu]
  refine Nat.le_trans ?_ hl
  rw [← Nat.succ_mul]
  exact Nat.mul_le_mul_right _ hk
end Go.Eng
namespace Go.Eng
section
variable {C : Ctx} {F : Fence} {n : Nat} {ds : List Deferred} {c : Code} {Q : Exit → Env → List Blk → Prop} {e : Env} {H M M' : List Blk}
end
end Go.Eng
namespace Go.Eng
open Go.RowKit
section
variable {C : Ctx} {e : Env} {H : List Blk} {o : Oper} {d : Option Tmp} {x y : Operand} {t t' ty : TypeId} {pos : String} {af : Array Edge} {g : Option (Nat × Bool)} {b c : Bool}
theorem YD_eq {u v : Value} (h : YD C o e H u) (hb : u = v) : YD C o e H v := by subst hb; exact h
end
end Go.Eng
namespace Go.Eng
end Go.Eng
namespace Go.Eng
open Go.RowKit
theorem sbA {A B : List Blk} (h : A.Sublist B := by (try simp only [List.append_assoc, List.cons_append, List.nil_append, List.set_cons_zero, List.set_cons_succ]); repeat (first | exact List.Sublist.refl _ | exact List.nil_sublist _ | exact List.sublist_append_left _ _ | apply List.Sublist.append_left | apply List.Sublist.cons_cons | apply List.Sublist.cons | refine List.Sublist.trans ?_ (List.sublist_append_right _ _))) : A.Sublist B := h
section
variable {C : Ctx} {F : Fence} {n : Nat} {ds : List Deferred} {x1 x2 x3 x4 x5 x6 y : Code} {Q : Exit → Env → List Blk → Prop} {e : Env} {H : List Blk} {γ : Type}
def Rest (C : Ctx) (F : Fence) (n : Nat) (ds : List Deferred) (y : Code) (Q : Exit → Env → List Blk → Prop) {γ : Type} (I : γ → Prop) (L : List (Nat × Value)) (M : γ → List (Nat × Value)) (B : γ → List Blk) : Prop :=
 ∀ g e H, I g → Slots e L → Slots e (M g) → HSub H (B g) → W C F n ds y Q e H
theorem Slots.app {e : Env} : ∀ {L M : List (Nat × Value)}, Slots e L → Slots e M → Slots e (L ++ M)
 | [], _, _, h => h
 | _ :: _, _, h, h' => ⟨h.1, Slots.app h.2 h'⟩
end
end Go.Eng
namespace Go.Eng
open Go.RowKit
section
variable {C : Ctx} {e : Env} {H : List Blk} {d : Option Tmp} {ty : TypeId} {pos : String} {af : Array Edge} {g : Option (Nat × Bool)}
end
end Go.Eng
namespace Go.Eng
end Go.Eng
namespace Go.Eng
open Go.RowKit
section
variable {C : Ctx} {F : Fence} {n : Nat} {ds : List Deferred} {all : Array Oper} {Q : Exit → Env → List Blk → Prop} {rest : List Oper} {e : Env} {H : List Blk}
variable {d : Option Tmp} {ty : TypeId} {pos : String} {af : Array Edge} {g : Option (Nat × Bool)}
end
end Go.Eng
namespace Go.Eng
open Go.RowKit
section
variable {K : Type} [DecidableEq K]
abbrev EntK (K : Type) := K × Value × Nat
def mK (enc : K → Value) (x : EntK K) : MapEntry := { key := enc x.1, val := x.2.1, born := x.2.2 }
def MK (enc : K → Value) (l : List (EntK K)) (clock : Nat) : Obj := .map (l.map (mK enc)).toArray clock
structure KeyOk (P : Program) (kT : TypeId) (enc : K → Value) : Prop where
 now : ∃ td, P.underlying kT = some td ∧ ∀ a b, Instr.sameNow td (enc a) (enc b) = none
 eq : ∀ x y w, (Op.equal kT (enc x) (enc y)).run P w = .ok (decide (x = y)) w
 chk : ∀ b x w, (Instr.checkKey b 10000 kT (enc x)).run P w = .ok () w
 bits : ∀ x, Instr.sameBits 10000 (enc x) (enc x) = true
def fndK (k : K) : List (EntK K) → Nat → Option (Nat × Value)
 | [], _ => none
 | x :: l, i => if x.1 = k then some (i, x.2.1) else fndK k l (i + 1)
def lookK (k : K) (l : List (EntK K)) : Option Value := (l.find? fun x => decide (x.1 = k)).map (·.2.1)
def setK (k : K) (v : Value) : List (EntK K) → List (EntK K)
 | [] => []
 | x :: l => if x.1 = k then (k, v, x.2.2) :: l else x :: setK k v l
def putL (k : K) (v : Value) (l : List (EntK K)) (c : Nat) : List (EntK K) := if (lookK k l).isSome then setK k v l else l ++ [(k, v, c)]
def putC (k : K) (l : List (EntK K)) (c : Nat) : Nat := if (lookK k l).isSome then c else c + 1
def delK (k : K) (l : List (EntK K)) : List (EntK K) := l.eraseP fun x => decide (x.1 = k)
structure GoodM (l : List (EntK K)) (c : Nat) : Prop where
 old : ∀ x ∈ l, x.2.2 < c
 born : (l.map (·.2.2)).Nodup
 keys : (l.map (·.1)).Nodup
variable {P : Program} {kT : TypeId} {enc : K → Value} {k : K}
section
variable {w : World} {T eT ty : TypeId} {b clock : Nat} {l : List (EntK K)} {v : Value}
end
end
section
variable {K : Type} [DecidableEq K]
variable {C : Ctx} {F : Fence} {n : Nat} {ds : List Deferred} {all : Array Oper} {Q : Exit → Env → List Blk → Prop} {rest : List Oper} {e : Env} {H : List Blk}
variable {d : Option Tmp} {ty : TypeId} {pos : String} {af : Array Edge} {g : Option (Nat × Bool)}
variable {kT T eT : TypeId} {enc : K → Value} {k : K} {b clock i : Nat} {l : List (EntK K)}
end
section
variable {K : Type}
variable {C : Ctx} {F : Fence} {n : Nat} {ds : List Deferred} {all : Array Oper} {Q : Exit → Env → List Blk → Prop} {rest : List Oper} {e : Env} {H : List Blk}
variable {d : Option Tmp} {ty : TypeId} {pos : String} {af : Array Edge} {g : Option (Nat × Bool)}
variable {kT T eT : TypeId} {enc : K → Value} {k : K} {b clock i : Nat} {l : List (EntK K)}
def NewMapK (enc : K → Value) (v : Value) (Hn : List Blk) : Prop := ∃ b, v = .map (some b) ∧ Hn = [(b, MK enc [] 0)]
end
end Go.Eng
namespace Go.Eng
open Go.RowKit
theorem GoodM.nil {K : Type} : GoodM ([] : List (EntK K)) 0 := ⟨fun _ h => (by cases h), List.nodup_nil, List.nodup_nil⟩
section
variable {K : Type} [DecidableEq K]
theorem lookK_nil (k : K) : lookK k ([] : List (EntK K)) = none := rfl
theorem lookK_cons (k : K) (x : EntK K) (l : List (EntK K)) : lookK k (x :: l) = if x.1 = k then some x.2.1 else lookK k l := by
 unfold lookK
 rw [List.find?_cons]
 split
 ·rename_i h; simp only [decide_eq_true_eq] at h; rw [if_pos h]; rfl
 ·rename_i h; simp only [decide_eq_false_iff_not] at h; rw [if_neg h]
theorem lookK_some {k : K} {l : List (EntK K)} {v : Value} (h : lookK k l = some v) : ∃ x ∈ l, x.1 = k ∧ x.2.1 = v := by
 unfold lookK at h
 simp only [Option.map_eq_some_iff] at h
 obtain ⟨x, h1, h2⟩ := h
 exact ⟨x, List.mem_of_find?_eq_some h1, by simpa using List.find?_some h1, h2⟩
theorem lookK_none {k : K} {l : List (EntK K)} : lookK k l = none ↔ k ∉ l.map (·.1) := by
 induction l with
 | nil => simp [lookK_nil]
 | cons x l ih =>
  rw [lookK_cons, List.map_cons, List.mem_cons]
  by_cases hx : x.1 = k
  ·simp [hx]
  ·rw [if_neg hx, ih]; simp [Ne.symm hx]
theorem setK_born (k : K) (v : Value) (l : List (EntK K)) : (setK k v l).map (·.2.2) = l.map (·.2.2) := by
 induction l with
 | nil => rfl
 | cons x l ih => unfold setK; split <;> simp [ih]
theorem setK_keys (k : K) (v : Value) (l : List (EntK K)) : (setK k v l).map (·.1) = l.map (·.1) := by
 induction l with
 | nil => rfl
 | cons x l ih =>
  unfold setK
  split
  ·rename_i h; simp [h]
  ·simp [ih]
theorem GoodM.put {l : List (EntK K)} {c : Nat} (h : GoodM l c) (k : K) (v : Value) : GoodM (putL k v l c) (putC k l c) := by
 unfold putL putC
 split
 ·refine ⟨fun x hx => ?_, by rw [setK_born]; exact h.born, by rw [setK_keys]; exact h.keys⟩
  have : x.2.2 ∈ (setK k v l).map (·.2.2) := List.mem_map.2 ⟨x, hx, rfl⟩
  rw [setK_born] at this
  obtain ⟨y, hy, he⟩ := List.mem_map.1 this
  have := h.old y hy
  omega
 ·rename_i h0
  have h0 : lookK k l = none := by
   cases hl : lookK k l with
   | none => rfl
   | some u => rw [hl] at h0; exact absurd rfl h0
  rw [lookK_none] at h0
  refine ⟨fun x hx => ?_, ?_, ?_⟩
  ·rcases List.mem_append.1 hx with hx | hx
   ·have := h.old x hx; omega
   ·simp only [List.mem_singleton] at hx; subst hx; exact Nat.lt_succ_self _
  ·rw [List.map_append, List.nodup_append]
   refine ⟨h.born, by simp, fun a ha b hb => ?_⟩
   simp only [List.map_cons, List.map_nil, List.mem_singleton] at hb
   subst hb
   obtain ⟨y, hy, rfl⟩ := List.mem_map.1 ha
   exact Nat.ne_of_lt (h.old y hy)
  ·rw [List.map_append, List.nodup_append]
   refine ⟨h.keys, by simp, fun a ha b hb => ?_⟩
   simp only [List.map_cons, List.map_nil, List.mem_singleton] at hb
   subst hb
   exact fun he => h0 (he ▸ ha)
end
end Go.Eng
namespace Go.Proofs.Ytmpanejghmgoaaa.T
open Go.RowKit Go.Proofs Go.Eng
set_option maxRecDepth 100000
set_option maxHeartbeats 1000000
theorem Ct_eq {P : Program} {f : FuncId} {args : Array Value} {w : World} {c c' : Value} (hc : Ct P f args w fun v _ => v = c) (h : c = c') : Ct P f args w fun v _ => v = c' := h ▸ hc
def iv (xs : List Int) : List Value := xs.map (Value.int .i64)
theorem Ints.row {w : World} {b o n cap : Nat} {xs : List Int} (h : Ints w (some ⟨b, o, none⟩) n cap xs) : At w b o (iv xs) := At.of fun j v hv => by
 have hj : j < xs.length := by have := (List.getElem?_eq_some_iff.1 hv).1; simpa [iv] using this
 have h1 := h.at (k := j) (by rw [← h.len]; exact hj)
 have h2 : v = .int .i64 (xs.getD j 0) := by
  rw [iv, List.getElem?_map, List.getElem?_eq_getElem hj] at hv
  simp only [Option.map_some, Option.some.injEq] at hv
  rw [← hv]; simp [List.getD_eq_getElem?_getD, hj]
 rw [h2]
 have := h1.1
 rwa [show o + j * 1 = o + j by omega] at this
theorem Ints.src {C : Ctx} {H : List Blk} {a : Option Addr} {n cap : Nat} {xs : List Int} (h : Ints C.w0 a n cap xs) : Src C H a n (iv xs) := by
 by_cases hn : n = 0
 ·refine .inl ⟨hn, ?_⟩
  have := h.len
  rw [hn] at this
  rw [List.length_eq_zero_iff.1 this]; rfl
 ·obtain ⟨b, o, rfl⟩ := h.adr om0
  exact .inr ⟨b, o, rfl, Mem.old h.row⟩
theorem NewRow.ints {C : Ctx} {H Hn : List Blk} {a : Option Addr} {n cap : Nat} {xs : List Int} {T : TypeId} (h : NewRow T 1 n (iv xs) (.slice a n cap) Hn) (hl : xs.length = n) (hs : Hn.Sublist H) (w : World) (hw : St C H w) : Ints w a n cap xs := by
 obtain ⟨a', cap', he, hle, hc⟩ := h
 cases he
 rcases hc with ⟨hn, b, junk, rfl, rfl, hlen⟩ | ⟨hn, rfl, rfl⟩
 ·exact Ints.mem (rest := junk) 0 rfl hl hle w (hw.sub hs)
 ·subst hn
  rw [List.length_eq_zero_iff.1 hl]
  exact Ints.nil _ _ _
theorem infInt : (Try.prog.info? 3).map (fun i => (i.zero, i.size, i.bytes)) = some (some (.int .i64 0), 1, 8) := by kernel_rfl
structure Rws {α : Type} (enc : α → List Value) (sz : Nat) (d : α) (w : World) (a : Option Addr) (n cap : Nat) (xs : List α) : Prop where
 len : xs.length = n
 le : n ≤ cap
 cell : ∀ k, k < n → ∃ b o, a = some ⟨b, o, none⟩ ∧ At w b (o + k * sz) (enc (xs.getD k d))
section
variable {α : Type} {enc : α → List Value} {sz : Nat} {d : α} {w w' : World} {a : Option Addr} {n cap : Nat} {xs : List α}
theorem Rws.below (h : Rws enc sz d w a n cap xs) (hb : Below w.heap.size w w') : Rws enc sz d w' a n cap xs :=
 ⟨h.len, h.le, fun k hk => by obtain ⟨b, o, h1, h2⟩ := h.cell k hk; exact ⟨b, o, h1, At.old hb h2⟩⟩
theorem Rws.st {C : Ctx} {H : List Blk} (h : Rws enc sz d C.w0 a n cap xs) (w : World) (hw : St C H w) : Rws enc sz d w a n cap xs := h.below hw.1
theorem Rws.at {b o : Nat} (h : Rws enc sz d w (some ⟨b, o, none⟩) n cap xs) {k : Nat} (hk : k < n) : At w b (o + k * sz) (enc (xs.getD k d)) := by
 obtain ⟨b', o', h1, h2⟩ := h.cell k hk
 simp only [Option.some.injEq, Addr.mk.injEq] at h1
 obtain ⟨rfl, rfl, _⟩ := h1
 exact h2
theorem Rws.adr (h : Rws enc sz d w a n cap xs) (hn : 0 < n) : ∃ b o, a = some ⟨b, o, none⟩ := by
 obtain ⟨b, o, h1, _⟩ := h.cell 0 hn
 exact ⟨b, o, h1⟩
theorem Rws.nil (w : World) (a : Option Addr) (cap : Nat) : Rws enc sz d w a 0 cap [] := ⟨rfl, Nat.zero_le _, fun k hk => by omega⟩
end
theorem At.app {w : World} {b : Nat} : ∀ {us vs : List Value} {o : Nat}, At w b o us → At w b (o + us.length) vs → At w b o (us ++ vs)
 | [], vs, o, _, h => by simpa using h
 | u :: us, vs, o, h, h' => ⟨h.1, At.app (us := us) h.2 (by rw [show o + 1 + us.length = o + (u :: us).length by simp; omega]; exact h')⟩
section
variable {α : Type} {enc : α → List Value} {sz : Nat} {d : α} {w : World} {a : Option Addr} {n cap : Nat} {xs : List α}
theorem Rws.row (hz : ∀ x, (enc x).length = sz) {b o : Nat} (h : Rws enc sz d w (some ⟨b, o, none⟩) n cap xs) : ∀ m, m ≤ n → At w b o (rowOf enc (fun k => xs.getD k d) m)
 | 0, _ => trivial
 | m + 1, hm => by
  rw [rowOf_succ]
  refine At.app (Rws.row hz h m om0) ?_
  rw [rowOf_len hz]
  exact h.at (k := m) om0
theorem Rws.src (hz : ∀ x, (enc x).length = sz) {C : Ctx} {H : List Blk} (h : Rws enc sz d C.w0 a n cap xs) : Src C H a n (rowOf enc (fun k => xs.getD k d) n) := by
 by_cases hn : n = 0
 ·subst hn; exact .inl ⟨rfl, rfl⟩
 ·obtain ⟨b, o, rfl⟩ := h.adr om0
  exact .inr ⟨b, o, rfl, Mem.old (Rws.row hz h n (Nat.le_refl _))⟩
theorem NewRow.rws (hz : ∀ x, (enc x).length = sz) {C : Ctx} {H Hn : List Blk} {T : TypeId} (h : NewRow T sz n (rowOf enc (fun k => xs.getD k d) n) (.slice a n cap) Hn) (hl : xs.length = n) (hs : Hn.Sublist H) (w : World) (hw : St C H w) : Rws enc sz d w a n cap xs := by
 obtain ⟨a', cap', he, hle, hc⟩ := h
 cases he
 refine ⟨hl, hle, fun k hk => ?_⟩
 rcases hc with ⟨hn, b, junk, rfl, rfl, hlen⟩ | ⟨hn, rfl, rfl⟩
 ·refine ⟨b, 0, rfl, ?_⟩
  exact Mem.rowJ (junk := junk) (k := k) (o := 0 + k * sz) hz 0 rfl hk rfl (Nat.zero_add _) w (hw.sub hs)
 ·omega
end
theorem NewRow.head {T : TypeId} {sz m cap : Nat} {us : List Value} {a : Option Addr} {Hn : List Blk} (h : NewRow T sz m us (.slice a m cap) Hn) (h0 : 0 < m) : ∃ b junk, a = some ⟨b, 0, none⟩ ∧ Hn = [(b, CB (us ++ junk) T)] ∧ (us ++ junk).length = cap * sz ∧ m ≤ cap := by
 obtain ⟨a', cap', hv, hle, ⟨_, b, junk, rfl, rfl, hlen⟩ | ⟨h1, _⟩⟩ := h
 ·cases hv; exact ⟨b, junk, rfl, rfl, hlen, hle⟩
 ·omega
theorem NewRow.mk {T : TypeId} {sz m cap : Nat} {us ws : List Value} {b : Nat} {junk : List Value} (hw : ws = us ++ junk) (hl : ws.length = cap * sz) (hle : m ≤ cap) (h0 : 0 < m) : NewRow T sz m us (.slice (some ⟨b, 0, none⟩) m cap) [(b, CB ws T)] :=
 ⟨_, _, rfl, hle, .inl ⟨h0, b, junk, rfl, by rw [hw], by rw [← hw]; exact hl⟩⟩
theorem Row.ints {C : Ctx} {H Hn : List Blk} {T : TypeId} {a : Option Addr} {n cap : Nat} {xs : List Int} (h : Row T 1 a n cap (iv xs) Hn) (hl : xs.length = n) (hs : Hn.Sublist H) (w : World) (hw : St C H w) : Ints w a n cap xs := by
 rcases h with ⟨rfl, rfl, rfl, _, rfl⟩ | ⟨b, junk, rfl, rfl, h1, h2, h3⟩
 ·rw [List.length_eq_zero_iff.1 hl]; exact Ints.nil _ _ _
 ·exact Ints.mem (rest := junk) 0 rfl hl h3 w (hw.sub hs)
theorem Row.rws {α : Type} {enc : α → List Value} {sz : Nat} {d : α} (hz : ∀ x, (enc x).length = sz) {C : Ctx} {H Hn : List Blk} {T : TypeId} {a : Option Addr} {n cap : Nat} {xs : List α} (h : Row T sz a n cap (rowOf enc (fun k => xs.getD k d) n) Hn) (hl : xs.length = n) (hs : Hn.Sublist H) (w : World) (hw : St C H w) : Rws enc sz d w a n cap xs := by
 rcases h with ⟨rfl, rfl, rfl, _, rfl⟩ | ⟨b, junk, rfl, rfl, h1, h2, h3⟩
 ·rw [List.length_eq_zero_iff.1 hl]; exact Rws.nil _ _ _
 ·refine ⟨hl, h3, fun k hk => ⟨b, 0, rfl, ?_⟩⟩
  exact Mem.rowJ (junk := junk) (k := k) (o := 0 + k * sz) hz 0 rfl hk rfl (Nat.zero_add _) w (hw.sub hs)
theorem Row.newRow {T : TypeId} {sz n cap : Nat} {us : List Value} {a : Option Addr} {Hn : List Blk} (h : Row T sz a n cap us Hn) (hn : 0 < n) : NewRow T sz n us (.slice a n cap) Hn := by
 obtain ⟨_, h, _⟩ | ⟨b, junk, rfl, rfl, h1, h2, h3⟩ := h
 ·omega
 ·exact ⟨_, _, rfl, h3, .inl ⟨hn, b, junk, rfl, rfl, h2⟩⟩
section
variable {C : Ctx} {e : Env} {H : List Blk} {d : Option Tmp} {ty : TypeId} {pos : String} {af : Array Edge} {g : Option (Nat × Bool)}
theorem y_eqlNil {x y : Operand} {T E T' : TypeId} {a : Option Addr} {n c : Nat} (hx : ev e x = .slice a n c) (hy : ev e y = .slice none 0 0) (hT : ∀ w, (underlying T).run C.P w = .ok (.slice E) w) : YD C ⟨d, .binOp .eql T x y T', ty, pos, af, g⟩ e H (.bool a.isNone) := yd_of fun w _ => by
 have h : (Op.equalIn Op.maxDepth T (.slice a n c) (.slice none 0 0)).run C.P w = .ok a.isNone w := by
  unfold Op.maxDepth Op.equalIn
  rw [Sem.run_bind, hT]
  cases a <;> simp
 simp [execOp, hx, hy, eqGuard, binOp, Op.equal, h]
end
end Go.Proofs.Ytmpanejghmgoaaa.T
namespace Go.Proofs.Ytmpanejghmgoaaa.T
open Go.RowKit Go.Proofs Go.Eng Go.ChangeShapes Go.WideShapes Go.ChangeAt Go.Joins Go.Deep
set_option maxRecDepth 100000
set_option maxHeartbeats 1000000
section
variable {H : Type} {enc : TypeId × Value → H} {w : World} {base : Nat} {spare : Nat → Bool} {held : Bool}
theorem open_intsT {fuel : Nat} {v : Value} {y : DataW H × List MemPlace} (h : DataW.trod enc Try.prog w base spare held fuel 22 [v] = some y) (hs : ∀ b, spare b = true) : ∃ a n cap xs, v = .slice a n cap ∧ Ints w a n cap xs := by
 rcases open_ints Try.underlying22 Try.underlying3 (by kernel_rfl) h with ⟨hcs, _⟩ | ⟨x, l, c, zs, hcs, _, hl, hm, hz, _, hcell, hwz⟩
 ·simp only [List.cons.injEq, and_true] at hcs
  subst hcs
  exact ⟨_, _, _, [], rfl, Ints.nil _ _ _⟩
 ·simp only [List.cons.injEq, and_true] at hcs
  subst hcs
  rw [hs, if_pos rfl] at hz
  refine ⟨_, _, _, zs.take l, rfl, by simp; omega, hl, fun k hk => ?_⟩
  have hc := hcell k om0
  obtain ⟨b, off, spot⟩ := x
  have hspot : spot = none := by
   have := World.cell?_spot (hcell 0 om0)
   simpa [Addr.add] using this
  subst hspot
  have ha : (⟨b, off, none⟩ : Addr).add k = ⟨b, off + k * 1, none⟩ := by unfold Addr.add; split <;> simp_all
  rw [ha] at hc
  refine ⟨b, off, rfl, ?_, trivial⟩
  rw [hc]
  simp [List.getD_eq_getElem?_getD, hk]
theorem open_intsV {r : Reach} {b0 : Nat} {v : Value} {d : DataW H} {p : List MemPlace} (hv : Value.okWide Try.prog w r b0 22 v) (h : DataW.Trod enc Try.prog w base spare held 22 v d p) (hs : ∀ b, spare b = true) : ∃ (a : Option Addr) (n cap : Nat) (xs : List Int), v = .slice a n cap ∧ Ints w a n cap xs := by
 obtain ⟨a, n, cap, rfl⟩ := okWide_slice Try.underlying22 hv
 obtain ⟨fuel, hf⟩ := h
 exact open_intsT hf hs
end
theorem own : ownKnob Try.prog.godebug = none := by kernel_rfl
theorem laidOut : laidOutB Try.prog = true := by kernel_rfl
end Go.Proofs.Ytmpanejghmgoaaa.T
namespace Go.Eng
open Go.RowKit
section
variable {C : Ctx} {e : Env} {H : List Blk} {d : Option Tmp} {ty : TypeId} {pos : String} {af : Array Edge} {g : Option (Nat × Bool)}
theorem YR.sub {o : Oper} {R R' : Value → List Blk → Prop} (h : YR C o e H R) (hr : ∀ v Hn, R v Hn → ∃ Hm, Hm.Sublist Hn ∧ R' v Hm) : YR C o e H R' := fun w hw => by
 have := h w hw
 have out : ∀ {v w w'}, Out R v w w' → Out R' v w w' := fun ⟨Hn, h1, h2, h3⟩ => by
  obtain ⟨Hm, h4, h5⟩ := hr _ _ h3
  exact ⟨Hm, h1, h2.sub h4, h5⟩
 generalize (execOp (ev e) o).run C.P w = r at *
 cases r with
 | ok x w' =>
  cases x <;> simp only [OutRes] at this ⊢
  case value v => exact out this
  case skip => exact out this
  case enter f args =>
   refine ⟨this.1, Calls.mono this.2 ?_⟩
   rintro en w'' ⟨v, he, h1⟩
   exact ⟨v, he, out h1⟩
 | halt => exact this
end
section
variable {C : Ctx} {F : Fence} {n : Nat} {ds : List Deferred} {c : Code} {Q : Exit → Env → List Blk → Prop} {e : Env} {A B M : List Blk}
end
end Go.Eng
namespace Go.Eng
open Go.RowKit
section
variable {P : Program} {T E : TypeId}
structure Arr4 (P : Program) (T E : TypeId) : Prop where
 t : P.underlying T = some (.array 4 E)
 e : P.underlying E = some (.int .i64)
 agg : ∀ w, (isAgg E).run P w = .ok false w
 sz : ∀ w, (sizeOf E).run P w = .ok 1 w
def arr4 (a b c d : Int) : Value := .agg #[.int .i64 a, .int .i64 b, .int .i64 c, .int .i64 d]
end
end Go.Eng
namespace Go.Eng
open Go.RowKit
section
variable {P : Program} {T E : TypeId}
structure Arr3 (P : Program) (T E : TypeId) : Prop where
 t : P.underlying T = some (.array 3 E)
 e : P.underlying E = some (.int .i64)
 agg : ∀ w, (isAgg E).run P w = .ok false w
 sz : ∀ w, (sizeOf E).run P w = .ok 1 w
def arr3 (a b c : Int) : Value := .agg #[.int .i64 a, .int .i64 b, .int .i64 c]
end
end Go.Eng
namespace Go.Eng
open Go.RowKit
section
variable {P : Program} {T E : TypeId}
structure Arr5 (P : Program) (T E : TypeId) : Prop where
 t : P.underlying T = some (.array 5 E)
 e : P.underlying E = some (.int .i64)
 agg : ∀ w, (isAgg E).run P w = .ok false w
 sz : ∀ w, (sizeOf E).run P w = .ok 1 w
def arr5 (a b c d e : Int) : Value := .agg #[.int .i64 a, .int .i64 b, .int .i64 c, .int .i64 d, .int .i64 e]
end
end Go.Eng
namespace Go.Eng
open Go.RowKit
def sv (l : List UInt8) : Value := .string ⟨l.toArray⟩
theorem sv_app (a b : List UInt8) : (⟨a.toArray⟩ : ByteArray) ++ ⟨b.toArray⟩ = ⟨(a ++ b).toArray⟩ := by
 apply ByteArray.ext
 rw [ByteArray.data_append]
 simp
theorem sv_ext (a : List UInt8) (l h : Nat) : (⟨a.toArray⟩ : ByteArray).extract l h = ⟨((a.take h).drop l).toArray⟩ := by
 apply ByteArray.ext
 rw [ByteArray.data_extract]
 simp [List.drop_take]
section
variable {C : Ctx} {e : Env} {H : List Blk} {d : Option Tmp} {ty : TypeId} {pos : String} {af : Array Edge} {g : Option (Nat × Bool)} {x y : Operand} {t t' : TypeId} {a b : List UInt8}
theorem y_sadd (hx : ev e x = sv a) (hy : ev e y = sv b) (h : a.length + b.length ≤ 1000000) : YD C ⟨d, .binOp .add t x y t', ty, pos, af, g⟩ e H (sv (a ++ b)) := yd_of fun w _ => by
 have h1 : ¬ ((((⟨a.toArray⟩ : ByteArray).size + (⟨b.toArray⟩ : ByteArray).size : Nat) : Int) > IntKind.i64.max) := by
  show ¬ (((a.length + b.length : Nat) : Int) > 9223372036854775807)
  omega
 unfold sv at *
 simp only [execOp, hx, hy, eqGuard, binOp, Op.stringOp, if_neg h1, sv_app]
 rfl
theorem y_seql (hx : ev e x = sv a) (hy : ev e y = sv b) : YD C ⟨d, .binOp .eql t x y t', ty, pos, af, g⟩ e H (.bool (decide (a = b))) := yd_of fun w _ => by
 have : (a == b) = decide (a = b) := by by_cases h : a = b <;> simp [h]
 unfold sv at *
 simp [execOp, hx, hy, eqGuard, binOp, Op.stringOp, this]
theorem y_sneq (hx : ev e x = sv a) (hy : ev e y = sv b) : YD C ⟨d, .binOp .neq t x y t', ty, pos, af, g⟩ e H (.bool (decide (a ≠ b))) := yd_of fun w _ => by
 have : (a == b) = decide (a = b) := by by_cases h : a = b <;> simp [h]
 unfold sv at *
 simp [execOp, hx, hy, eqGuard, binOp, Op.stringOp, this]
theorem y_slen {T : TypeId} (hx : ev e x = sv a) (hT : ∀ w, (underlying T).run C.P w = .ok .string w) : YD C ⟨d, .call ⟨.builtin .len, #[x], #[T]⟩, ty, pos, af, g⟩ e H (.int .i64 (a.length : Int)) := yd_of fun w _ => by
 unfold sv at *
 simp [execOp, resolve, invoke, builtin, Builtin.len_, hx, hT, goInt]
 rfl
theorem y_sslice_hi {hi : Operand} {T : TypeId} {h : Nat} {n : Int} {kk : IntKind} (hx : ev e x = sv a) (hhi : ev e hi = .int kk n) (hn : n = (h : Int)) (hh : h ≤ a.length) (hT : ∀ w, (underlying T).run C.P w = .ok .string w) :
  YD C ⟨d, .slice T x none (some hi) none, ty, pos, af, g⟩ e H (sv (a.take h)) := yd_of fun w _ => by
 subst hn
 have h1 : (⟨a.toArray⟩ : ByteArray).size = a.length := rfl
 unfold sv at *
 simp [execOp, hx, hhi, Instr.sliceAt, Instr.slice, Instr.sliceBounds, Instr.sliceBound, asIntOf, hT, h1, hh, sv_ext]
end
theorem eq_ints7 {P : Program} {T E : TypeId} {x0 x1 x2 x3 x4 x5 x6 y0 y1 y2 y3 y4 y5 y6 : Int} (hT : ∀ w, (underlying T).run P w = .ok (.array 7 E) w) (hU : ∀ w, (underlying E).run P w = .ok (.int .i64) w) (hE : ∀ w, (sizeOf E).run P w = .ok 1 w)
  (hA : ∀ w, (isAgg E).run P w = .ok false w) : ∀ w, (Op.equalIn Op.maxDepth T (.agg #[.int .i64 x0, .int .i64 x1, .int .i64 x2, .int .i64 x3, .int .i64 x4, .int .i64 x5, .int .i64 x6]) (.agg #[.int .i64 y0, .int .i64 y1, .int .i64 y2, .int .i64 y3, .int .i64 y4, .int .i64 y5, .int .i64 y6])).run P w = .ok (ieq x0 y0 && ieq x1 y1 && ieq x2 y2 && ieq x3 y3 && ieq x4 y4 && ieq x5 y5 && ieq x6 y6) w := fun w => by
 unfold Op.maxDepth Op.equalIn
 rw [Sem.run_bind, hT]
 have he : ∀ (a b : Int) w, (Op.equalIn 9999 E (.int .i64 a) (.int .i64 b)).run P w = .ok (ieq a b) w := fun a b => eq_int (d := 9998) hU
 simp [hE, Std.Legacy.Range.forIn_eq_forIn_range', Std.Legacy.Range.size, List.range'_succ, part, hA, he]
 generalize ieq x0 y0 = b0
 generalize ieq x1 y1 = b1
 generalize ieq x2 y2 = b2
 generalize ieq x3 y3 = b3
 generalize ieq x4 y4 = b4
 generalize ieq x5 y5 = b5
 generalize ieq x6 y6 = b6
 cases b0 <;> cases b1 <;> cases b2 <;> cases b3 <;> cases b4 <;> cases b5 <;> cases b6 <;> simp
end Go.Eng
