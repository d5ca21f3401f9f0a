/- Scopes through which no jump goes; labels. No project text. -/
import Derived.WalkKit
import Derived.OrdersIn
import Derived.TacticsIn
import Derived.CallsIn
import Derived.RangeFuncCalls
import Derived.KernelRfl
import Derived.Shelf.Abstract
import Derived.Sort.LoopGhostIn
import Derived.Test.YtjekjehgmljbgaaDoorChecked
import Derived.Laws.Bits64b
import Derived.MapKept
import Derived.Scope
set_option linter.unusedVariables false
set_option linter.unusedSimpArgs false
/- A small program logic over the kit's fenced rules: the frame is a function from slots to values, the memory made since the call began is a list of blocks, and the world itself is hidden. No project text. -/
namespace Go.Eng
open Go.RowKit

abbrev Env := Nat → Value
def upd (e : Env) (d : Nat) (v : Value) : Env := fun t => bif Nat.beq t d then v else e t
def updo (e : Env) : Option Nat → Value → Env
  | some d, v => upd e d v
  | none, _ => e
def ev (e : Env) : Operand → Value
  | .tmp t => e t
  | .const v => v
  | .global g => .pointer (some ⟨g, 0, none⟩)
  | .func f => .func (.func f) #[] #[]
def dOk (n : Nat) : Option Nat → Bool
  | some d => Nat.blt d n
  | none => true

theorem upd_same (e : Env) (d : Nat) (v : Value) : upd e d v d = v := by
  have h : Nat.beq d d = true := by simp
  simp only [upd, h, cond_true]
theorem upd_ne (e : Env) {d t : Nat} (v : Value) (h : t ≠ d) : upd e d v t = e t := by
  have h' : Nat.beq t d = false := by
    cases hb : Nat.beq t d with
    | false => rfl
    | true => exact absurd (Nat.eq_of_beq_eq_true hb) h
  simp only [upd, h', cond_false]
theorem upd_eta (e : Env) (d : Nat) : upd e d (e d) = e := by
  funext t
  by_cases h : t = d
  · subst h; exact upd_same e t _
  · exact upd_ne e _ h

structure Rep (n : Nat) (ds : List Deferred) (a : Act) (e : Env) : Prop where
  size : a.tmps.size = n
  defers : a.defers = ds
  val : ∀ t, a.tmps.getD t undef = e t

section
variable {n : Nat} {ds : List Deferred} {a : Act} {e : Env} {d : Nat} {v : Value}
theorem Rep.eval (h : Rep n ds a e) : a.eval = ev e := by
  funext x
  cases x with
  | tmp t => exact h.val t
  | const => rfl
  | global => rfl
  | func => rfl
theorem Rep.put (h : Rep n ds a e) (o : Option Nat) (hd : dOk n o = true) : Rep n ds (a.put o v) (updo e o v) := by
  cases o with
  | none => exact h
  | some d =>
    have hlt : d < n := by simpa [dOk, Nat.blt_eq] using hd
    refine ⟨by simp [Act.put, h.size], h.defers, fun t => ?_⟩
    by_cases ht : t = d
    · subst ht
      simp only [updo, upd_same, Act.put, Array.getD_eq_getD_getElem?, Array.getElem?_setIfInBounds]
      simp [h.size, hlt]
    · simp only [updo, upd_ne e v ht, ← h.val t, Act.put, Array.getD_eq_getD_getElem?, Array.getElem?_setIfInBounds]
      rw [if_neg (Ne.symm ht)]
end

/-! ### Memory: blocks made since the call began -/
abbrev Blk := Nat × Obj
structure Ctx where
  P : Program
  w0 : World
  ds : List Deferred := []
  out : List Deferred := []
/-- The same, with these marks on the frame. -/
def Ctx.at (C : Ctx) (ds : List Deferred) : Ctx := ⟨C.P, C.w0, ds, C.out⟩
/-- The context of a call made from here. -/
def Ctx.inner (C : Ctx) : Ctx := ⟨C.P, C.w0, [], C.ds ++ C.out⟩

structure HOk (N : Nat) (w : World) (H : List Blk) : Prop where
  mem : ∀ x ∈ H, N ≤ x.1 ∧ w.heap[x.1]? = some x.2
  nodup : (H.map Prod.fst).Nodup
  kind : ∀ x ∈ H, x.2 ≠ .deferred (some [])

/-- The marks that loops over functions leave on a frame: each leads to a block with nothing in it. -/
def Mk (ds : List Deferred) (N : Nat) (w : World) : Prop := ds.Nodup ∧ ∀ d ∈ ds, ∃ D, d = { target := .collected D, args := #[] } ∧ N ≤ D ∧ w.heap[D]? = some (.deferred (some []))
structure St (C : Ctx) (H : List Blk) (w : World) : Prop where
  below : Below C.w0.heap.size C.w0 w
  hok : HOk C.w0.heap.size w H
  marks : Mk (C.ds ++ C.out) C.w0.heap.size w
theorem Mk.nil {N : Nat} {w : World} : Mk [] N w := ⟨List.nodup_nil, fun d h => (by cases h)⟩
theorem Mk.below {ds : List Deferred} {N : Nat} {w w' : World} (h : Mk ds N w) (hb : Below w.heap.size w w') : Mk ds N w' := ⟨h.1, fun d hd => by
  obtain ⟨D, h1, h2, h3⟩ := h.2 d hd
  exact ⟨D, h1, h2, (hb.block D (Array.getElem?_eq_some_iff.1 h3).1).trans h3⟩⟩
theorem Mk.drew {ds : List Deferred} {N : Nat} {w : World} (h : Mk ds N w) : Mk ds N w.drew := h

theorem HOk.nil (N : Nat) (w : World) : HOk N w [] := ⟨fun x h => (by cases h), List.nodup_nil, fun x h => (by cases h)⟩
theorem HOk.lt {N : Nat} {w : World} {H : List Blk} (h : HOk N w H) : ∀ x ∈ H, x.1 < w.heap.size := fun x hx => by
  have := (h.mem x hx).2
  exact (Array.getElem?_eq_some_iff.1 this).1
theorem HOk.grow {N : Nat} {w w' : World} {H Hn : List Blk} (h : HOk N w H) (hN : N ≤ w.heap.size) (hb : Below w.heap.size w w') (hn : HOk w.heap.size w' Hn) : HOk N w' (Hn ++ H) := by
  refine ⟨fun x hx => ?_, ?_, fun x hx => (List.mem_append.1 hx).elim (hn.kind x) (h.kind x)⟩
  · rcases List.mem_append.1 hx with hx | hx
    · exact ⟨Nat.le_trans hN (hn.mem x hx).1, (hn.mem x hx).2⟩
    · exact ⟨(h.mem x hx).1, (hb.block x.1 (h.lt x hx)).trans (h.mem x hx).2⟩
  · rw [List.map_append, List.nodup_append]
    refine ⟨hn.nodup, h.nodup, fun a ha b hb' e => ?_⟩
    obtain ⟨x, hx, rfl⟩ := List.mem_map.1 ha
    obtain ⟨y, hy, rfl⟩ := List.mem_map.1 hb'
    have h1 := (hn.mem x hx).1
    have h2 := h.lt y hy
    omega
theorem HOk.sub {N : Nat} {w : World} {H H' : List Blk} (h : HOk N w H) (hs : H'.Sublist H) : HOk N w H' :=
  ⟨fun x hx => h.mem x (hs.mem hx), h.nodup.sublist (hs.map _), fun x hx => h.kind x (hs.mem hx)⟩
theorem St.grow {C : Ctx} {H Hn : List Blk} {w w' : World} (h : St C H w) (hb : Below w.heap.size w w') (hn : HOk w.heap.size w' Hn) : St C (Hn ++ H) w' :=
  ⟨h.1.trans (hb.mono h.1.size), h.2.grow h.1.size hb hn, h.3.below hb⟩
theorem St.drew {C : Ctx} {H : List Blk} {w : World} (h : St C H w) : St C H w.drew := ⟨h.1.drew, ⟨h.2.mem, h.2.nodup, h.2.kind⟩, h.3.drew⟩
theorem St.get {C : Ctx} {H : List Blk} {w : World} (h : St C H w) {i b : Nat} {o : Obj} (hi : H[i]? = some (b, o)) : w.heap[b]? = some o :=
  (h.2.mem (b, o) (List.mem_of_getElem? hi)).2

/-! ### What one operation yields -/
/-- From w on: new blocks alone, and what is said of the value and of these. -/
def Out (R : Value → List Blk → Prop) (v : Value) (w w' : World) : Prop := ∃ Hn, Below w.heap.size w w' ∧ HOk w.heap.size w' Hn ∧ R v Hn

def OutRes (P : Program) (R : Value → List Blk → Prop) (w : World) : Result Next → Prop
  | .ok (.value v) w' => Out R v w w'
  | .ok .skip w' => Out R undef w w'
  | .ok (.enter f args) w' => w' = w ∧ Calls P f args w fun en w'' => ∃ v, en = .returned v ∧ Out R v w w''
  | _ => False

def YR (C : Ctx) (o : Oper) (e : Env) (H : List Blk) (R : Value → List Blk → Prop) : Prop :=
  ∀ w, St C H w → OutRes C.P R w ((execOp (ev e) o).run C.P w)

/-- A function's contract: a value, new blocks. -/
def Ct (P : Program) (f : FuncId) (args : Array Value) (w : World) (R : Value → List Blk → Prop) : Prop :=
  Calls P f args w fun en w' => ∃ v, en = .returned v ∧ Out R v w w'

theorem Ct.mono {P : Program} {f : FuncId} {args : Array Value} {w : World} {R R' : Value → List Blk → Prop} (h : Ct P f args w R) (hr : ∀ v Hn, R v Hn → R' v Hn)  : Ct P f args w R' :=
  Calls.mono h fun _ _ ⟨v, he, Hn, h1, h2, h3⟩ => ⟨v, he, Hn, h1, h2, hr _ _ h3⟩

/-! ### Code -/
def lift (C : Ctx) (n : Nat) (ds : List Deferred) (Q : Exit → Env → List Blk → Prop) : Exit → Act → World → Prop :=
  fun x a w => ∃ e H, Rep n ds a e ∧ St C H w ∧ Q x e H

structure Wide (F : Fence) : Prop where
  fn : ∀ f, F.fn f
  depth : F.depth = none
  alive : F.alive = false

theorem wide_wide : Wide Fence.wide := ⟨fun _ => trivial, rfl, rfl⟩
theorem Wide.fenced {F : Fence} (hF : Wide F) (P : Program) (m : Machine) : Machine.fenced P F m :=
  fun g _ => ⟨fun h => (by rw [hF.alive] at h; cases h), .inl (hF.fn _), fun f _ => hF.fn f, fun d hd => by rw [hF.depth] at hd; cases hd⟩
theorem Wide.room {F : Fence} (hF : Wide F) (k : Nat) : F.room k := fun d hd => by rw [hF.depth] at hd; cases hd

/-- A walk's end, whatever marks the frame bears. -/
def liftM (C : Ctx) (n : Nat) (Q : Exit → Env → List Blk → Prop) : Exit → Act → World → Prop :=
  fun x a w => ∃ ds e H, Rep n ds a e ∧ St (C.at ds) H w ∧ Q x e H
theorem lift_M {C : Ctx} {n : Nat} {ds : List Deferred} {Q : Exit → Env → List Blk → Prop} {x : Exit} {a : Act} {w : World} (h : lift (C.at ds) n ds Q x a w) : liftM C n Q x a w := by
  obtain ⟨e, H, h1, h2, h3⟩ := h
  exact ⟨ds, e, H, h1, h2, h3⟩
def W (C : Ctx) (F : Fence) (n : Nat) (_ds : List Deferred) (c : Code) (Q : Exit → Env → List Blk → Prop) (e : Env) (H : List Blk) : Prop :=
  ∀ ds w, St (C.at ds) H w → ∀ a, Rep n ds a e → c.wpIn F 0 C.P (liftM C n Q) a w

def Then (K : Env → List Blk → Prop) (Q : Exit → Env → List Blk → Prop) : Exit → Env → List Blk → Prop
  | .normal, e, H => K e H
  | x, e, H => Q x e H
def InB (id : Nat) (Q : Exit → Env → List Blk → Prop) : Exit → Env → List Blk → Prop
  | .exit i, e, H => if i = id then Q .normal e H else Q (.exit i) e H
  | x, e, H => Q x e H

section
variable {C : Ctx} {F : Fence} {n : Nat} {ds : List Deferred} {Q Q' : Exit → Env → List Blk → Prop} {e : Env} {H : List Blk}

theorem W_seq {x y : Code} (h : W C F n ds x (Then (W C F n ds y Q) Q) e H) : W C F n ds (.seq x y) Q e H := fun dd w hw a ha => by
  refine wpIn_seq (wpIn_mono (h dd w hw a ha) ?_)
  rintro x' a' w' ⟨d', e', H', h1, h2, h3⟩
  cases x' with
  | normal => exact h3 d' w' h2 a' h1
  | _ => exact ⟨d', e', H', h1, h2, h3⟩

theorem W_skip (h : Q .normal e H) : W C F n ds .skip Q e H := fun dd _ hw _ ha => wpIn_skip ⟨dd, e, H, ha, hw, h⟩
theorem W_ret (h : Q .ret e H) : W C F n ds .ret Q e H := fun dd _ hw _ ha => wpIn_ret ⟨dd, e, H, ha, hw, h⟩
theorem W_exit {id : Nat} (h : Q (.exit id) e H) : W C F n ds (.exit id) Q e H := fun dd _ hw _ ha => wpIn_exit ⟨dd, e, H, ha, hw, h⟩
theorem W_label {l : Nat} (h : Q .normal e H) : W C F n ds (.label l) Q e H := fun dd _ hw _ ha => wpIn_label ⟨dd, e, H, ha, hw, h⟩
theorem W_block {id : Nat} {c : Code} (h : W C F n ds c (InB id Q) e H) : W C F n ds (.block id c) Q e H := fun dd w hw a ha => by
  refine wpIn_block (wpIn_mono (h dd w hw a ha) ?_)
  rintro x' a' w' ⟨d', e', H', h1, h2, h3⟩
  cases x' with
  | exit i =>
    simp only [InB] at h3
    simp only [Exit.inBlock]
    split
    · rename_i hi; rw [if_pos hi] at h3; exact ⟨d', e', H', h1, h2, h3⟩
    · rename_i hi; rw [if_neg hi] at h3; exact ⟨d', e', H', h1, h2, h3⟩
  | _ => exact ⟨d', e', H', h1, h2, h3⟩
theorem W_cond {c : Operand} {x y : Code} {b : Bool} (hc : ev e c = .bool b) (ht : b = true → W C F n ds x Q e H) (hf : b = false → W C F n ds y Q e H) :
    W C F n ds (.cond c x y) Q e H := fun dd w hw a ha => by
  refine wpIn_cond_split (t := b) (by rw [ha.eval]; exact hc) (fun h => ht h dd w hw a ha) (fun h => hf h dd w hw a ha)

/-- Slots laid over a frame. -/
def sets (e : Env) : List (Nat × Value) → Env
  | [] => e
  | (d, v) :: l => upd (sets e l) d v
/-- What the list says of the frame, slot by slot. -/
def Slots (e : Env) : List (Nat × Value) → Prop
  | [] => True
  | (d, v) :: l => e d = v ∧ Slots e l
theorem Slots.sets {e : Env} : ∀ {l : List (Nat × Value)}, Slots e l → sets e l = e
  | [], _ => rfl
  | (d, v) :: l, h => by
    have h1 : e d = v := h.1
    simp only [Eng.sets, Slots.sets h.2]
    rw [← h1, upd_eta]

/-- A loop: some slots and some blocks as the ghost says, all other slots whatever they are. -/
def LoopPost {γ : Type} (I : γ → Prop) (L : γ → List (Nat × Value)) (B : γ → List Blk) (μ : γ → Nat) (m : Nat) (Q : Exit → Env → List Blk → Prop) : Exit → Env → List Blk → Prop :=
  Then (fun e H => ∃ g, I g ∧ Slots e (L g) ∧ (B g).Sublist H ∧ μ g < m) Q

theorem W_loop {c : Code} {γ : Type} (I : γ → Prop) (L : γ → List (Nat × Value)) (B : γ → List Blk) (μ : γ → Nat) (g0 : γ)
    (hI : I g0) (hL : Slots e (L g0)) (hB : (B g0).Sublist H)
    (round : ∀ g e, I g → W C F n ds c (LoopPost I L B μ (μ g) Q) (sets e (L g)) (B g)) : W C F n ds (.loop c) Q e H := fun dd w hw a ha => by
  refine wpIn_loop_ghost (fun m a w => ∃ g dd e H, μ g = m ∧ I g ∧ Slots e (L g) ∧ (B g).Sublist H ∧ St (C.at dd) H w ∧ Rep n dd a e) (μ g0) ⟨g0, dd, e, H, rfl, hI, hL, hB, hw, ha⟩ ?_
  rintro m a w ⟨g, dd, e, H, rfl, hI, hL, hB, hw, ha⟩
  have h := round g e hI dd w ⟨hw.1, hw.2.sub hB, hw.3⟩ a (by rw [hL.sets]; exact ha)
  refine wpIn_mono h ?_
  rintro x a' w' ⟨d', e', H', h1, h2, h3⟩
  cases x with
  | normal =>
    obtain ⟨g', i1, i2, i3, i4⟩ := h3
    exact ⟨μ g', i4, g', d', e', H', rfl, i1, i2, i3, h2, h1⟩
  | _ => exact ⟨d', e', H', h1, h2, h3⟩

/-! ### A region in the text's order -/
/-- Is the operation wanted, as its guard's slot stands? -/
def gdOf (all : Array Oper) (e : Env) (o : Oper) : Option Bool :=
  match o.guard with
  | none => some true
  | some (j, want) =>
    match (all[j]?).bind (·.dst) with
    | some d =>
      match e d with
      | .bool b => some (b == want)
      | .tuple _ => some false
      | _ => none
    | none => none
theorem gd_wanted {all : Array Oper} {o : Oper} {a : Act} {b : Bool} (ha : Rep n ds a e) (h : gdOf all e o = some b) (hd : ∀ j w d, o.guard = some (j, w) → (all[j]?).bind (·.dst) = some d → d < n) :
    Region.wanted o (yielded all a.tmps) = b := by
  unfold gdOf at h
  unfold Region.wanted
  split at h
  · rename_i hg; rw [hg]; simpa using h
  · rename_i j want hg
    rw [hg]
    simp only [yielded]
    split at h
    · rename_i d hdst
      have hlt := hd j want d hg hdst
      have hv := ha.val d
      rw [Array.getD_eq_getD_getElem?, Array.getElem?_eq_getElem (by rw [ha.size]; exact hlt)] at hv
      simp only [Option.getD_some] at hv
      rw [hdst]
      simp only [Option.bind_some, Array.getElem?_eq_getElem (show d < a.tmps.size by rw [ha.size]; exact hlt), hv]
      split at h
      · rename_i b' hb
        rw [hb]
        simp only [Option.some.injEq] at h
        rw [← h]
        cases b' <;> cases want <;> rfl
      · rename_i hb
        rw [hb]
        simp only [Option.some.injEq] at h
        rw [← h]; rfl
      · cases h
    · cases h

def WS (C : Ctx) (F : Fence) (n : Nat) (ds : List Deferred) (all : Array Oper) (Q : Exit → Env → List Blk → Prop) (l : List Oper) (e : Env) (H : List Blk) : Prop :=
  ∀ w, St C H w → ∀ a, Rep n ds a e → wpListIn F 0 C.P all (lift C n ds Q) l a w

theorem W_region_lit {id : Nat} {l : List Oper} (h : ∀ ds, WS (C.at ds) F n ds l.toArray Q l e H) : W C F n ds (.region id l.toArray false) Q e H :=
  fun dd w hw a ha => wpIn_mono (wpIn_region_lit (h dd w hw a ha)) fun _ _ _ h => lift_M h
variable {all : Array Oper} {rest : List Oper} {o : Oper}
theorem WS_nil (h : Q .normal e H) : WS C F n ds all Q [] e H := fun _ hw _ ha => wpListIn_nil ⟨e, H, ha, hw, h⟩
theorem WS_weak {H' : List Blk} (hs : H'.Sublist H) (h : WS C F n ds all Q rest e H') : WS C F n ds all Q rest e H :=
  fun w hw a ha => h w ⟨hw.1, hw.2.sub hs, hw.3⟩ a ha
/-- A slot's Bool, both ways. -/
theorem WS_split (d : Nat) {b : Bool} (hb : e d = .bool b) (ht : b = true → WS C F n ds all Q rest (upd e d (.bool true)) H) (hf : b = false → WS C F n ds all Q rest (upd e d (.bool false)) H) :
    WS C F n ds all Q rest e H := by
  cases b with
  | true => have := ht rfl; rw [← hb, upd_eta] at this; exact this
  | false => have := hf rfl; rw [← hb, upd_eta] at this; exact this

/-- A guard's slot lies in the frame. -/
def gOk (n : Nat) (all : Array Oper) (o : Oper) : Bool :=
  match o.guard with
  | none => true
  | some (j, _) => match (all[j]?).bind (·.dst) with
    | some d => Nat.blt d n
    | none => false
theorem gOk_lt (h : gOk n all o = true) : ∀ j w d, o.guard = some (j, w) → (all[j]?).bind (·.dst) = some d → d < n := by
  intro j w d hg hd
  unfold gOk at h
  rw [hg] at h
  simp only [hd] at h
  simpa using h

def noDefer (o : Oper) : Bool := match o.op with | .defer _ => false | _ => true
theorem semAt_of {ro : Option Nat} {ρ : Operand → Value} (h : noDefer o = true) : o.semAt ro ρ = execOp ρ o :=
  Oper.semAt_eq ro ρ o fun c hc => by simp [noDefer, hc] at h

theorem calls_in {P : Program} {f : FuncId} {args : Array Value} {w : World} {R : Ending → World → Prop} (hF : Wide F) (h : Calls P f args w R) : CallsIn F 0 P f args w R := by
  refine ⟨hF.fn f, fun cs _ => ?_⟩
  obtain ⟨en, w', fr, h1, h2, h3⟩ := h cs
  refine ⟨en, w', fr, h1, ?_, h3⟩
  cases en with
  | outgrown => exact h2
  | _ => exact StepsIn.mono (fun m _ => hF.fenced P m) (StepsIn.of_steps h2)

theorem calls_of_in {P : Program} {f : FuncId} {args : Array Value} {w : World} {R : Ending → World → Prop} (hF : Wide F) {k : Nat} (h : CallsIn F k P f args w R) : Calls P f args w R :=
  h.calls hF.room

theorem uponIn_of (hF : Wide F) {R : Value → List Blk → Prop} {P : Program} {w : World} {a : Act} {K : Act → World → Prop} {QQ : Exit → Act → World → Prop} {r : Result Next}
    (h : OutRes P R w r) (hk : ∀ v w', Out R v w w' → K (a.put o.dst v) w') : o.uponIn F 0 P a K QQ r := by
  cases r with
  | ok x w' =>
    cases x <;> simp only [OutRes] at h
    case value v => exact hk _ _ h
    case skip => exact hk _ _ h
    case enter f args =>
      obtain ⟨rfl, h⟩ := h
      refine ⟨fun hd => (by rw [hF.depth] at hd; cases hd), calls_in hF (Calls.mono h ?_)⟩
      rintro en w'' ⟨v, rfl, h'⟩
      exact hk _ _ h'
  | halt x w' => exact h.elim

theorem wpIn_of (hF : Wide F) (hn : noDefer o = true) {R : Value → List Blk → Prop} {w : World} {a : Act} {K : Act → World → Prop} {QQ : Exit → Act → World → Prop}
    (ha : Rep n ds a e) (hw : St C H w) (h : YR C o e H R) (hk : ∀ v w', Out R v w w' → K (a.put o.dst v) w') : o.wpIn F 0 C.P a w K QQ := by
  refine ⟨fun f _ => hF.fn f, ?_⟩
  rw [semAt_of hn, ha.eval]
  exact uponIn_of hF (h w hw) hk

theorem WS_step (hF : Wide F) (hn : noDefer o = true) (hg : gdOf all e o = some true) (hgo : gOk n all o = true) (hd : dOk n o.dst = true) {R : Value → List Blk → Prop} (hy : YR C o e H R)
    (hk : ∀ v Hn, R v Hn → WS C F n ds all Q rest (updo e o.dst v) (Hn ++ H)) : WS C F n ds all Q (o :: rest) e H := fun w hw a ha => by
  have hwant := gd_wanted ha hg (gOk_lt hgo)
  unfold wpListIn
  rw [if_pos hwant]
  refine wpIn_of hF hn ha hw hy ?_
  rintro v w' ⟨Hn, h1, h2, h3⟩
  exact hk v Hn h3 w' (hw.grow h1 h2) _ (ha.put o.dst hd)
theorem WS_skip (hF : Wide F) (hg : gdOf all e o = some false) (hgo : gOk n all o = true) (hd : dOk n o.dst = true)
    (hk : WS C F n ds all Q rest (updo e o.dst undef) H) : WS C F n ds all Q (o :: rest) e H := fun w hw a ha => by
  have hwant := gd_wanted ha hg (gOk_lt hgo)
  unfold wpListIn
  rw [if_neg (by simp [hwant])]
  exact ⟨fun f _ => hF.fn f, hk w hw _ (ha.put o.dst hd)⟩
end
end Go.Eng

/- Regions whose order is open: each operation by a fact of its own, whatever order the edges allow. No project text. -/
namespace Go.Eng
open Go.RowKit

/-- A slot whose value depends on the order (an address), or a block that is stored into: the value and its blocks, before and behind the store. -/
structure Un where
  slot : Nat
  deps : List Nat
  R : Env → Value → List Blk → Prop
  deps' : List Nat
  R' : Env → Value → List Blk → Prop
/-- What is said leans on the named slots alone. -/
def Cong (deps : List Nat) (R : Env → Value → List Blk → Prop) : Prop := ∀ e e' : Env, (∀ t ∈ deps, e t = e' t) → ∀ v Hn, R e v Hn → R e' v Hn

inductive Sp where
  | det (c : Value)
  | skip
  | new (deps : List Nat) (R : Env → Value → List Blk → Prop) (deps' : List Nat) (R' : Env → Value → List Blk → Prop)
  | st (d : Nat)

def nextE (o : Oper) (sp : Sp) (e : Env) : Env :=
  match sp with
  | .det c => updo e o.dst c
  | .skip => updo e o.dst undef
  | _ => e
def nextU (o : Oper) (sp : Sp) (us : List Un) : List Un :=
  match sp, o.dst with
  | .new deps R deps' R', some d => ⟨d, deps, R, deps', R'⟩ :: us
  | _, _ => us

/-- For every choice of the open values that the operation looks at, and of those that these lean on. -/
def Over (ts : List Nat) (K : Env → List Blk → Prop) : List Un → Env → List Blk → Prop
  | [], e, H => K e H
  | u :: us, e, H => (u.slot ∈ ts → Over (ts ++ u.deps) (fun e H => ∀ v Hn, u.R e v Hn → K (upd e u.slot v) (Hn ++ H)) us e H) ∧ (u.slot ∉ ts → Over ts K us e H)
def OverAll (K : Env → List Blk → Prop) (G : Env → Prop) : List Un → Env → List Blk → Prop
  | [], e, H => G e → K e H
  | u :: us, e, H => ∀ v Hn, OverAll K (fun e' => G e' ∧ u.R' e' v Hn) us (upd e u.slot v) (Hn ++ H)

/-- Blocks hold something else; all other memory is as it was. -/
structure Swap (Hn Hn' : List Blk) (w w' : World) : Prop where
  names : Hn'.map Prod.fst = Hn.map Prod.fst
  os : w'.os = w.os
  tape : w'.tape = w.tape
  output : w'.output = w.output
  size : w'.heap.size = w.heap.size
  other : ∀ k, k ∉ Hn.map Prod.fst → w'.heap[k]? = w.heap[k]?
  mem : ∀ x ∈ Hn', w'.heap[x.1]? = some x.2
  kind : ∀ x ∈ Hn', x.2 ≠ .deferred (some [])

def StoreOk (C : Ctx) (o : Oper) (e : Env) (H : List Blk) (u : Un) : Prop :=
  ∀ v Hn, u.R e v Hn → ∀ w, St C (Hn ++ H) w → ∃ w' Hn', (execOp (ev (upd e u.slot v)) o).run C.P w = .ok .skip w' ∧ Swap Hn Hn' w w' ∧ u.R' e v Hn'

def gLooks (all : Array Oper) (o : Oper) : List Nat :=
  match o.guard with
  | some (g, _) => ((all[g]?).bind (·.dst)).toList
  | none => []

def Ob (C : Ctx) (all : Array Oper) (S : List Nat) (o : Oper) (sp : Sp) (us : List Un) (e : Env) (H : List Blk) : Prop :=
  match sp with
  | .det c => gdOf all e o = some true ∧ (∀ u ∈ us, u.slot ∉ gLooks all o) ∧ (∀ u ∈ us, u.slot ∈ o.looksAt all → u.slot ∉ S) ∧ Over (o.looksAt all) (fun e H => YR C o e H fun v _ => v = c) us e H
  | .skip => gdOf all e o = some false ∧ (∀ u ∈ us, u.slot ∉ gLooks all o)
  | .new deps R deps' R' => gdOf all e o = some true ∧ (∀ u ∈ us, u.slot ∉ gLooks all o) ∧ (∀ u ∈ us, u.slot ∈ o.looksAt all → u.slot ∉ S) ∧ (∃ d, o.dst = some d ∧ (d ∉ S → R' = R ∧ deps' = deps)) ∧
      Over (o.looksAt all) (fun e H => YR C o e H (R e)) us e H ∧ (∀ t ∈ deps, t ∈ o.looksAt all ∧ ∃ u ∈ us, u.slot = t) ∧ Cong deps R ∧ Cong deps' R'
  | .st d => o.dst = none ∧ o.guard = none ∧ (d ∈ S ∧ ((o.looksAt all).contains d || all.all fun o' => o'.dst != some d) = true) ∧ (∃ u ∈ us, u.slot = d ∧ u.deps = [] ∧ (∀ t ∈ u.deps', t ∈ o.looksAt all ∧ t ≠ d ∧ ∃ u' ∈ us, u'.slot = t) ∧ Over (o.looksAt all) (fun e H => StoreOk C o e H u) (us.filter fun x => x.slot != d) e H) ∧
      (∀ u ∈ us, u.slot ≠ d → u.slot ∈ o.looksAt all → u.slot ∉ S)

def PW (C : Ctx) (all : Array Oper) (S : List Nat) (K : List Un → Env → Prop) (H : List Blk) : List Oper → List Nat → List Un → Env → Prop
  | [], done, us, e => (∀ d ∈ S, d ∈ done) ∧ K us e
  | o :: rest, done, us, e => ∃ sp, Ob C all S o sp us e H ∧ (∀ d, sp = .st d → d ∉ done) ∧ PW C all S K H rest (match sp with | .st d => d :: done | _ => done) (nextU o sp us) (nextE o sp e)

/-- The edges between operations that touch one slot. -/
def edge (all : Array Oper) (i j : Nat) : Bool := ((all[i]?).map fun o => o.after.any fun e => e.on == j && Region.binds .any e).getD false
def pairOk (all : Array Oper) (us : List Nat) (i j : Nat) : Bool :=
  match all[i]?, all[j]? with
  | some oi, some oj =>
    match oj.dst with
    | none => true
    | some d => !us.contains d && (if i = j then !(oi.looksAt all).contains d else (oi.dst != some d && (!(oi.looksAt all).contains d || (if j < i then edge all i j else edge all j i))))
  | _, _ => true
def phased (all : Array Oper) (us : List Nat) : Bool :=
  ((List.range all.size).all fun i => (List.range all.size).all fun j => pairOk all us i j) &&
  ((List.range all.size).all fun i => (all[i]?.map fun o => o.after.all fun e => !Region.binds .any e || Nat.blt e.on i).getD true) &&
  all.all fun o => us.all (fun d => !(o.looksAt all).contains d) && (match o.op with | .select .. => false | .defer _ => false | _ => true)

def EAt (ops : List Oper) (sps : List Sp) (e0 : Env) : Nat → Env
  | 0 => e0
  | i + 1 => match ops[i]?, sps[i]? with
    | some o, some sp => nextE o sp (EAt ops sps e0 i)
    | _, _ => EAt ops sps e0 i
def UAt (ops : List Oper) (sps : List Sp) (us0 : List Un) : Nat → List Un
  | 0 => us0
  | i + 1 => match ops[i]?, sps[i]? with
    | some o, some sp => nextU o sp (UAt ops sps us0 i)
    | _, _ => UAt ops sps us0 i

theorem EAt_cons (o : Oper) (ops : List Oper) (sp : Sp) (sps : List Sp) (e0 : Env) : ∀ i, EAt (o :: ops) (sp :: sps) e0 (i + 1) = EAt ops sps (nextE o sp e0) i
  | 0 => rfl
  | i + 1 => by
    have ih := EAt_cons o ops sp sps e0 i
    show (match (o :: ops)[i + 1]?, (sp :: sps)[i + 1]? with | some o', some sp' => nextE o' sp' (EAt (o :: ops) (sp :: sps) e0 (i + 1)) | _, _ => EAt (o :: ops) (sp :: sps) e0 (i + 1)) = _
    rw [ih]; simp only [List.getElem?_cons_succ]; rfl
theorem UAt_cons (o : Oper) (ops : List Oper) (sp : Sp) (sps : List Sp) (u0 : List Un) : ∀ i, UAt (o :: ops) (sp :: sps) u0 (i + 1) = UAt ops sps (nextU o sp u0) i
  | 0 => rfl
  | i + 1 => by
    have ih := UAt_cons o ops sp sps u0 i
    show (match (o :: ops)[i + 1]?, (sp :: sps)[i + 1]? with | some o', some sp' => nextU o' sp' (UAt (o :: ops) (sp :: sps) u0 (i + 1)) | _, _ => UAt (o :: ops) (sp :: sps) u0 (i + 1)) = _
    rw [ih]; simp only [List.getElem?_cons_succ]; rfl

/-- The walk's facts, operation by operation. -/
theorem PW_specs {C : Ctx} {all : Array Oper} {S : List Nat} {K : List Un → Env → Prop} {H : List Blk} : ∀ {l : List Oper} {done : List Nat} {us : List Un} {e : Env}, PW C all S K H l done us e →
    ∃ sps : List Sp, sps.length = l.length ∧ (∀ i o sp, l[i]? = some o → sps[i]? = some sp → Ob C all S o sp (UAt l sps us i) (EAt l sps e i) H) ∧
      (∀ (i j d : Nat), sps[i]? = some (Sp.st d) → sps[j]? = some (Sp.st d) → i = j) ∧ (∀ (i d : Nat), sps[i]? = some (Sp.st d) → d ∉ done) ∧
      (∀ d ∈ S, d ∈ done ∨ ∃ i : Nat, sps[i]? = some (Sp.st d)) ∧ K (UAt l sps us l.length) (EAt l sps e l.length)
  | [], done, us, e, h => ⟨[], rfl, fun i o sp h => by simp at h, fun i j d h => by simp at h, fun i d h => by simp at h, fun d hd => Or.inl (h.1 d hd), h.2⟩
  | o :: rest, done, us, e, h => by
    obtain ⟨sp, hob, hdone, hrest⟩ := h
    obtain ⟨sps, h1, h2, h3, h4, h5, h6⟩ := PW_specs hrest
    refine ⟨sp :: sps, by simp [h1], ?_, ?_, ?_, ?_, ?_⟩
    · intro i o' sp' ho hs
      cases i with
      | zero =>
        simp only [List.getElem?_cons_zero, Option.some.injEq] at ho hs
        subst ho; subst hs
        exact hob
      | succ i =>
        simp only [List.getElem?_cons_succ] at ho hs
        rw [EAt_cons, UAt_cons]
        exact h2 i o' sp' ho hs
    · have key : ∀ (j d : Nat), (sp :: sps)[0]? = some (Sp.st d) → sps[j]? = some (Sp.st d) → False := fun j d a b => by
        simp only [List.getElem?_cons_zero, Option.some.injEq] at a
        subst a
        exact h4 j d b (List.mem_cons_self ..)
      intro i j d hi hj
      cases i with
      | zero =>
        cases j with
        | zero => rfl
        | succ j => exact (key j d hi (by simpa using hj)).elim
      | succ i =>
        cases j with
        | zero => exact (key i d hj (by simpa using hi)).elim
        | succ j => rw [h3 i j d (by simpa using hi) (by simpa using hj)]
    · intro i d hi
      cases i with
      | zero =>
        simp only [List.getElem?_cons_zero, Option.some.injEq] at hi
        exact hdone d hi
      | succ i =>
        have := h4 i d (by simpa using hi)
        intro hd
        apply this
        cases sp <;> first | exact hd | exact List.mem_cons_of_mem _ hd
    · intro d hd
      rcases h5 d hd with h | ⟨i, hi⟩
      · cases sp with
        | st d' =>
          rcases List.mem_cons.1 h with rfl | h
          · exact .inr ⟨0, by simp⟩
          · exact .inl h
        | _ => exact .inl h
      · exact .inr ⟨i + 1, by simpa using hi⟩
    · rw [List.length_cons, EAt_cons, UAt_cons]; exact h6
end Go.Eng

/- Why a region whose order is open may be walked so. No project text. -/
namespace Go.Eng
open Go.RowKit

theorem HOk.perm {N : Nat} {w : World} {H H' : List Blk} (h : HOk N w H) (p : H'.Perm H) : HOk N w H' :=
  ⟨fun x hx => h.mem x (p.mem_iff.1 hx), (p.map Prod.fst).nodup_iff.2 h.nodup, fun x hx => h.kind x (p.mem_iff.1 hx)⟩
theorem St.perm {C : Ctx} {w : World} {H H' : List Blk} (h : St C H w) (p : H'.Perm H) : St C H' w := ⟨h.1, h.2.perm p, h.3⟩
theorem St.sub {C : Ctx} {w : World} {H H' : List Blk} (h : St C H w) (p : H'.Sublist H) : St C H' w := ⟨h.1, h.2.sub p, h.3⟩

/-- The entries that are met. -/
def selL (ts : List Nat) : List Un → List Un
  | [] => []
  | u :: us => if u.slot ∈ ts then u :: selL (ts ++ u.deps) us else selL ts us
def selE (ea : Env) : List Un → Env → Env
  | [], e => e
  | u :: us, e => upd (selE ea us e) u.slot (ea u.slot)
def selH (Bs : Nat → List Blk) (us : List Un) (H : List Blk) : List Blk := us.flatMap (fun u => Bs u.slot) ++ H
def DepsOk : List Un → Prop
  | [] => True
  | u :: us => ((∀ t ∈ u.deps, ∃ u' ∈ us, u'.slot = t) ∧ Cong u.deps u.R) ∧ DepsOk us

theorem selL_sub (ts : List Nat) : ∀ us, (selL ts us).Sublist us
  | [] => List.Sublist.refl _
  | u :: us => by
    unfold selL
    split
    · exact (selL_sub _ us).cons_cons u
    · exact (selL_sub _ us).cons u
theorem selL_mem {t : Nat} : ∀ {ts : List Nat} {us : List Un}, t ∈ ts → (∃ u ∈ us, u.slot = t) → ∃ u ∈ selL ts us, u.slot = t
  | _, [], _, h => by obtain ⟨u, hu, _⟩ := h; cases hu
  | ts, u :: us, ht, h => by
    unfold selL
    by_cases hu : u.slot = t
    · rw [if_pos (by rw [hu]; exact ht)]; exact ⟨u, List.mem_cons_self .., hu⟩
    · have h' : ∃ u ∈ us, u.slot = t := by
        obtain ⟨u', hu', e'⟩ := h
        rcases List.mem_cons.1 hu' with rfl | hm
        · exact absurd e' hu
        · exact ⟨u', hm, e'⟩
      split
      · obtain ⟨x, hx, he⟩ := selL_mem (ts := ts ++ u.deps) (List.mem_append_left _ ht) h'
        exact ⟨x, List.mem_cons_of_mem _ hx, he⟩
      · exact selL_mem ht h'
theorem selE_same {ea : Env} : ∀ {us : List Un} {e : Env} {t : Nat}, e t = ea t → selE ea us e t = ea t
  | [], _, _, h => h
  | u :: us, e, t, h => by
    unfold selE
    by_cases ht : t = u.slot
    · subst ht; rw [upd_same]
    · rw [upd_ne _ _ ht]; exact selE_same h
theorem selE_in {ea : Env} : ∀ {us : List Un} {e : Env} {t : Nat}, (∃ u ∈ us, u.slot = t) → selE ea us e t = ea t
  | [], _, _, h => by obtain ⟨u, hu, _⟩ := h; cases hu
  | u :: us, e, t, h => by
    unfold selE
    by_cases ht : t = u.slot
    · subst ht; rw [upd_same]
    · rw [upd_ne _ _ ht]
      refine selE_in ?_
      obtain ⟨u', hu', e'⟩ := h
      rcases List.mem_cons.1 hu' with rfl | hm
      · exact absurd e'.symm ht
      · exact ⟨u', hm, e'⟩
theorem selH_ok {ts : List Nat} {Bs : Nat → List Blk} {N : Nat} {w : World} {us : List Un} {H : List Blk} (h : HOk N w (us.flatMap (fun u => Bs u.slot) ++ H)) : HOk N w (selH Bs (selL ts us) H) :=
  h.sub (List.Sublist.append_right (flatMap_sub _ (selL_sub ts us)) _)
where flatMap_sub {α β : Type} (f : α → List β) : ∀ {l l' : List α}, l.Sublist l' → (l.flatMap f).Sublist (l'.flatMap f)
  | _, _, .slnil => List.Sublist.refl _
  | _, _, .cons a h => by rw [List.flatMap_cons]; exact (flatMap_sub f h).trans (List.sublist_append_right _ _)
  | _, _, .cons_cons a h => by rw [List.flatMap_cons, List.flatMap_cons]; exact (List.Sublist.append_left (flatMap_sub f h) _)

def allH (Bs : Nat → List Blk) : List Un → List Blk → List Blk
  | [], H => H
  | u :: us, H => allH Bs us (Bs u.slot ++ H)
def allE (ea : Env) : List Un → Env → Env
  | [], e => e
  | u :: us, e => allE ea us (upd e u.slot (ea u.slot))
theorem allH_ok {Bs : Nat → List Blk} {N : Nat} {w : World} : ∀ {us : List Un} {H : List Blk}, HOk N w (us.flatMap (fun u => Bs u.slot) ++ H) → HOk N w (allH Bs us H)
  | [], _, h => h
  | u :: us, H, h => allH_ok (us := us) (h.perm (by
      rw [List.flatMap_cons, List.append_assoc]
      exact (List.perm_append_comm_assoc ..)))
theorem allE_same {ea : Env} : ∀ {us : List Un} {e : Env} {t : Nat}, e t = ea t → allE ea us e t = ea t
  | [], _, _, h => h
  | u :: us, e, t, h => by
    refine allE_same (us := us) ?_
    by_cases ht : t = u.slot
    · subst ht; rw [upd_same]
    · rw [upd_ne _ _ ht]; exact h
theorem allE_in {ea : Env} : ∀ {us : List Un} {e : Env} {t : Nat}, (∃ u ∈ us, u.slot = t) → allE ea us e t = ea t
  | [], _, _, h => by obtain ⟨u, hu, _⟩ := h; cases hu
  | u :: us, e, t, h => by
    by_cases hu : u.slot = t
    · exact allE_same (us := us) (by rw [← hu, upd_same])
    · refine allE_in (us := us) ?_
      obtain ⟨u', hu', e'⟩ := h
      rcases List.mem_cons.1 hu' with rfl | hm
      · exact absurd e' hu
      · exact ⟨u', hm, e'⟩
theorem Over_use {ea : Env} {Bs : Nat → List Blk} : ∀ {us : List Un} {ts : List Nat} {K : Env → List Blk → Prop} {e : Env} {H : List Blk}, Over ts K us e H → DepsOk us →
    (∀ u ∈ selL ts us, u.R ea (ea u.slot) (Bs u.slot)) → K (selE ea (selL ts us) e) (selH Bs (selL ts us) H)
  | [], _, _, _, _, h, _, _ => h
  | u :: us, ts, K, e, H, h, hd, hR => by
    unfold selL at hR ⊢
    by_cases hu : u.slot ∈ ts
    · rw [if_pos hu] at hR ⊢
      have ih := Over_use (h.1 hu) hd.2 fun u' hu' => hR u' (List.mem_cons_of_mem _ hu')
      have := ih (ea u.slot) (Bs u.slot) (hd.1.2 ea _ (fun t ht => (selE_in (selL_mem (List.mem_append_right _ ht) (hd.1.1 t ht))).symm) _ _ (hR u (List.mem_cons_self ..)))
      simpa [selE, selH] using this
    · rw [if_neg hu] at hR ⊢
      exact Over_use (h.2 hu) hd.2 hR
theorem OverAll_use {ea : Env} {Bs : Nat → List Blk} {K : Env → List Blk → Prop} : ∀ {us : List Un} {G : Env → Prop} {e : Env} {H : List Blk}, OverAll K G us e H → G ea →
    (∀ u ∈ us, u.R' ea (ea u.slot) (Bs u.slot)) → (allE ea us e = ea) → K ea (allH Bs us H)
  | [], _, _, _, h, hG, _, he => by
    have he' := he
    simp only [allE] at he'
    subst he'
    exact h hG
  | u :: us, G, e, H, h, hG, hR, he => OverAll_use (us := us) (h (ea u.slot) (Bs u.slot)) ⟨hG, hR u (List.mem_cons_self ..)⟩ (fun u' hu' => hR u' (List.mem_cons_of_mem _ hu')) he

theorem countP_lt {p p' : Nat → Bool} : ∀ {l : List Nat} {x : Nat}, x ∈ l → p x = true → p' x = false → (∀ y, p' y = true → p y = true) → l.countP p' < l.countP p
  | [], _, h, _, _, _ => by cases h
  | y :: l, x, h, h1, h2, h3 => by
    have hle : l.countP p' ≤ l.countP p := List.countP_mono_left fun z _ hz => h3 z hz
    rw [List.countP_cons, List.countP_cons]
    rcases List.mem_cons.1 h with rfl | hm
    · simp only [h1, h2, if_true, Bool.false_eq_true, if_false]; omega
    · have ih := countP_lt hm h1 h2 h3
      cases hy : p' y with
      | true => simp only [h3 y hy, if_true]; omega
      | false => simp only [Bool.false_eq_true, if_false]; omega

section
variable {ops : List Oper} {sps : List Sp} {e0 : Env} {us0 : List Un}

theorem UAt_suffix (i : Nat) : ∀ k, ∃ pre, UAt ops sps us0 (i + k) = pre ++ UAt ops sps us0 i
  | 0 => ⟨[], rfl⟩
  | k + 1 => by
    obtain ⟨pre, h⟩ := UAt_suffix i k
    show ∃ pre', (match ops[i + k]?, sps[i + k]? with | some o, some sp => nextU o sp (UAt ops sps us0 (i + k)) | _, _ => UAt ops sps us0 (i + k)) = pre' ++ _
    split
    · unfold nextU
      split
      · rename_i deps R deps' R' d _ _
        exact ⟨⟨d, deps, R, deps', R'⟩ :: pre, by rw [h]; rfl⟩
      · exact ⟨pre, h⟩
    · exact ⟨pre, h⟩
theorem UAt_mem {u : Un} : ∀ {i : Nat}, u ∈ UAt ops sps us0 i → u ∈ us0 ∨ ∃ (j : Nat) (o : Oper), j < i ∧ ops[j]? = some o ∧ sps[j]? = some (Sp.new u.deps u.R u.deps' u.R') ∧ o.dst = some u.slot
  | 0, h => .inl h
  | i + 1, h => by
    have h' : u ∈ (match ops[i]?, sps[i]? with | some o, some sp => nextU o sp (UAt ops sps us0 i) | _, _ => UAt ops sps us0 i) := h
    have up : u ∈ UAt ops sps us0 i → u ∈ us0 ∨ ∃ (j : Nat) (o : Oper), j < i + 1 ∧ ops[j]? = some o ∧ sps[j]? = some (Sp.new u.deps u.R u.deps' u.R') ∧ o.dst = some u.slot := fun hm => by
      rcases UAt_mem hm with h | ⟨j, o, hj, r⟩
      · exact .inl h
      · exact .inr ⟨j, o, by omega, r⟩
    split at h'
    · rename_i o sp ho hs
      unfold nextU at h'
      split at h'
      · rename_i deps R deps' R' d hd
        rcases List.mem_cons.1 h' with rfl | hm
        · exact .inr ⟨i, o, by omega, ho, hs, hd⟩
        · exact up hm
      · exact up h'
    · exact up h'
theorem mem_UAt {j : Nat} {o : Oper} {deps deps' : List Nat} {R R' : Env → Value → List Blk → Prop} {d : Nat} (ho : ops[j]? = some o) (hs : sps[j]? = some (Sp.new deps R deps' R')) (hd : o.dst = some d) :
    ∀ i, j < i → (⟨d, deps, R, deps', R'⟩ : Un) ∈ UAt ops sps us0 i := fun i hi => by
  obtain ⟨pre, h⟩ := UAt_suffix (ops := ops) (sps := sps) (us0 := us0) (j + 1) (i - (j + 1))
  rw [show j + 1 + (i - (j + 1)) = i by omega] at h
  rw [h]
  refine List.mem_append_right _ ?_
  show _ ∈ (match ops[j]?, sps[j]? with | some o, some sp => nextU o sp (UAt ops sps us0 j) | _, _ => UAt ops sps us0 j)
  rw [ho, hs]
  simp only [nextU, hd]
  exact List.mem_cons_self ..
theorem mem_UAt0 {u : Un} (h : u ∈ us0) (i : Nat) : u ∈ UAt ops sps us0 i := by
  obtain ⟨pre, h'⟩ := UAt_suffix (ops := ops) (sps := sps) (us0 := us0) 0 i
  rw [Nat.zero_add] at h'
  rw [h']
  exact List.mem_append_right _ h

theorem nextE_ne {o : Oper} {sp : Sp} {e : Env} {t : Nat} (h : o.dst ≠ some t) : nextE o sp e t = e t := by
  unfold nextE
  have key : ∀ v, updo e o.dst v t = e t := fun v => by
    cases hd : o.dst with
    | none => rfl
    | some d => exact upd_ne e v (fun ht => h (by rw [hd, ht]))
  split <;> first | exact key _ | rfl
theorem EAt_succ (i : Nat) : (∃ o sp, ops[i]? = some o ∧ sps[i]? = some sp ∧ EAt ops sps e0 (i + 1) = nextE o sp (EAt ops sps e0 i)) ∨ EAt ops sps e0 (i + 1) = EAt ops sps e0 i := by
  cases ho : ops[i]? with
  | none => exact .inr (by simp only [EAt, ho])
  | some o =>
    cases hs : sps[i]? with
    | none => exact .inr (by simp only [EAt, ho, hs])
    | some sp => exact .inl ⟨o, sp, rfl, rfl, by simp only [EAt, ho, hs]⟩
theorem EAt_out {t : Nat} : ∀ {i : Nat}, (∀ (j : Nat) (o : Oper), j < i → ops[j]? = some o → o.dst ≠ some t) → EAt ops sps e0 i t = e0 t
  | 0, _ => rfl
  | i + 1, h => by
    have ih := EAt_out (i := i) (t := t) fun j o hj => h j o (by omega)
    rcases EAt_succ (ops := ops) (sps := sps) (e0 := e0) i with ⟨o, sp, ho, _, he⟩ | he
    · rw [he, nextE_ne (h i o (by omega) ho)]; exact ih
    · rw [he]; exact ih
theorem EAt_at {t j : Nat} {o : Oper} {sp : Sp} (ho : ops[j]? = some o) (hs : sps[j]? = some sp)
    (hx : ∀ (k : Nat) (o' : Oper), j < k → ops[k]? = some o' → o'.dst ≠ some t) : ∀ k, EAt ops sps e0 (j + 1 + k) t = nextE o sp (EAt ops sps e0 j) t
  | 0 => by simp only [EAt, ho, hs]
  | k + 1 => by
    have ih := EAt_at ho hs hx k
    rcases EAt_succ (ops := ops) (sps := sps) (e0 := e0) (j + 1 + k) with ⟨o', sp', ho', _, he⟩ | he
    · rw [← Nat.add_assoc, he, nextE_ne (hx _ o' (by omega) ho')]; exact ih
    · rw [← Nat.add_assoc, he]; exact ih
end
end Go.Eng

/- A region whose order is open: the rule. No project text. -/
namespace Go.Eng
open Go.RowKit

structure PairSpec (ops : Array Oper) (us : List Nat) : Prop where
  us0 : ∀ (j : Nat) (oj : Oper) (d : Nat), ops[j]? = some oj → oj.dst = some d → d ∉ us
  self : ∀ (i : Nat) (o : Oper) (d : Nat), ops[i]? = some o → o.dst = some d → d ∉ o.looksAt ops
  uniq : ∀ (i j : Nat) (oi oj : Oper) (d : Nat), ops[i]? = some oi → ops[j]? = some oj → oi.dst = some d → oj.dst = some d → i = j
  before : ∀ (i j : Nat) (oi oj : Oper) (d : Nat), ops[i]? = some oi → ops[j]? = some oj → oj.dst = some d → d ∈ oi.looksAt ops → j < i → edge ops i j = true
  behind : ∀ (i j : Nat) (oi oj : Oper) (d : Nat), ops[i]? = some oi → ops[j]? = some oj → oj.dst = some d → d ∈ oi.looksAt ops → i < j → edge ops j i = true
  down : ∀ (i k : Nat), edge ops i k = true → k < i
  look : ∀ (i : Nat) (o : Oper), ops[i]? = some o → ∀ d ∈ us, d ∉ o.looksAt ops
  sel : ∀ (i : Nat) (o : Oper), ops[i]? = some o → ∀ cs b, o.op ≠ .select cs b
  ndef : ∀ (i : Nat) (o : Oper), ops[i]? = some o → noDefer o = true

theorem phased_spec {ops : Array Oper} {us : List Nat} (h : phased ops us = true) : PairSpec ops us := by
  unfold phased at h
  simp only [Bool.and_eq_true] at h
  obtain ⟨⟨h1, h2⟩, h3⟩ := h
  have lt : ∀ {i : Nat} {o : Oper}, ops[i]? = some o → i < ops.size := fun h => (Array.getElem?_eq_some_iff.1 h).1
  have pr : ∀ (i j : Nat), i < ops.size → j < ops.size → pairOk ops us i j = true := fun i j hi hj =>
    List.all_eq_true.1 (List.all_eq_true.1 h1 i (List.mem_range.2 hi)) j (List.mem_range.2 hj)
  have pr' : ∀ (i j : Nat) (oi oj : Oper) (d : Nat), ops[i]? = some oi → ops[j]? = some oj → oj.dst = some d →
      d ∉ us ∧ (if i = j then !(oi.looksAt ops).contains d else (oi.dst != some d && (!(oi.looksAt ops).contains d || (if j < i then edge ops i j else edge ops j i)))) = true := fun i j oi oj d hi hj hd => by
    have := pr i j (lt hi) (lt hj)
    unfold pairOk at this
    rw [hi, hj] at this
    simp only [hd, Bool.and_eq_true] at this
    exact ⟨by simpa using this.1, this.2⟩
  have h3' : ∀ (i : Nat) (o : Oper), ops[i]? = some o → (us.all (fun d => !(o.looksAt ops).contains d) && (match o.op with | .select .. => false | .defer _ => false | _ => true)) = true := fun i o ho => by
    rw [Array.all_eq_true] at h3
    have := h3 i (lt ho)
    rwa [(Array.getElem?_eq_some_iff.1 ho).2] at this
  refine ⟨?_, ?_, ?_, ?_, ?_, ?_, ?_, ?_, ?_⟩
  · exact fun j oj d hj hd => (pr' j j oj oj d hj hj hd).1
  · intro i o d ho hd
    have := (pr' i i o o d ho ho hd).2
    simpa using this
  · intro i j oi oj d hi hj hdi hdj
    by_cases hij : i = j
    · exact hij
    · have := (pr' i j oi oj d hi hj hdj).2
      rw [if_neg hij] at this
      simp [hdi] at this
  · intro i j oi oj d hi hj hdj hl hlt
    have := (pr' i j oi oj d hi hj hdj).2
    rw [if_neg (by omega)] at this
    have hc : (oi.looksAt ops).contains d = true := by simpa using hl
    simp only [Bool.and_eq_true, hc, Bool.not_true, Bool.false_or, hlt, if_true] at this
    exact this.2
  · intro i j oi oj d hi hj hdj hl hlt
    have := (pr' i j oi oj d hi hj hdj).2
    rw [if_neg (by omega)] at this
    have hc : (oi.looksAt ops).contains d = true := by simpa using hl
    simp only [Bool.and_eq_true, hc, Bool.not_true, Bool.false_or, show ¬ j < i by omega, if_false] at this
    exact this.2
  · intro i k hk
    have hi : i < ops.size := by
      unfold edge at hk
      cases ho : ops[i]? with
      | none => rw [ho] at hk; cases hk
      | some o => exact lt ho
    have := List.all_eq_true.1 h2 i (List.mem_range.2 hi)
    unfold edge at hk
    cases ho : ops[i]? with
    | none => rw [ho] at hk; cases hk
    | some o =>
      rw [ho] at hk this
      simp only [Option.map_some, Option.getD_some, Array.any_eq_true, Array.all_eq_true] at hk this
      obtain ⟨x, hx, he⟩ := hk
      have := this x hx
      simp only [Bool.and_eq_true, beq_iff_eq] at he
      rw [he.2, he.1] at this
      simpa using this
  · intro i o ho d hd hl
    have := h3' i o ho
    simp only [Bool.and_eq_true, List.all_eq_true] at this
    have := this.1 d hd
    simp only [Bool.not_eq_true', List.contains_eq_mem, decide_eq_false_iff_not] at this
    exact this hl
  · intro i o ho cs b hs
    have := h3' i o ho
    rw [hs] at this
    simp at this
  · intro i o ho
    have := h3' i o ho
    unfold noDefer
    cases hop : o.op <;> first | rfl | (rw [hop] at this; simp at this)

section
variable {C : Ctx} {F : Fence} {n : Nat} {ds : List Deferred} {ops : Array Oper} {sps : List Sp} {e0 : Env} {us0 : List Un} {S : List Nat} {H0 : List Blk}

def Lst (listed : Array Bool) (i : Nat) : Prop := listed.getD i false = true
def Pres (ops : Array Oper) (us0 : List Un) (listed : Array Bool) (d : Nat) : Prop := (∃ u ∈ us0, u.slot = d) ∨ ∃ (i : Nat) (o : Oper), Lst listed i ∧ ops[i]? = some o ∧ o.dst = some d
def Stored (sps : List Sp) (listed : Array Bool) (d : Nat) : Prop := ∃ i : Nat, Lst listed i ∧ sps[i]? = some (Sp.st d)

structure Inv (C : Ctx) (n : Nat) (ds : List Deferred) (ops : Array Oper) (sps : List Sp) (e0 : Env) (us0 : List Un) (H0 : List Blk) (listed : Array Bool) (a : Act) (w : World) (ea : Env) (Bs : Nat → List Blk) : Prop where
  rep : Rep n ds a ea
  sz : listed.size = ops.size
  down : ∀ j k, Lst listed j → edge ops j k = true → Lst listed k
  det : ∀ (i : Nat) (o : Oper) (c : Value) (d : Nat), Lst listed i → ops[i]? = some o → sps[i]? = some (Sp.det c) → o.dst = some d → ea d = c
  skp : ∀ (i : Nat) (o : Oper) (d : Nat), Lst listed i → ops[i]? = some o → sps[i]? = some Sp.skip → o.dst = some d → ea d = undef
  opn : ∀ u ∈ UAt ops.toList sps us0 ops.size, Pres ops us0 listed u.slot → (Stored sps listed u.slot → u.R' ea (ea u.slot) (Bs u.slot)) ∧ (¬ Stored sps listed u.slot → u.R ea (ea u.slot) (Bs u.slot))
  absn : ∀ u ∈ UAt ops.toList sps us0 ops.size, ¬ Pres ops us0 listed u.slot → Bs u.slot = []
  unt : ∀ t, (∀ (i : Nat) (o : Oper), Lst listed i → ops[i]? = some o → o.dst ≠ some t) → ea t = e0 t
  mem : HOk C.w0.heap.size w ((UAt ops.toList sps us0 ops.size).flatMap (fun u => Bs u.slot) ++ H0)
  below : Below C.w0.heap.size C.w0 w
  marks : Mk (C.ds ++ C.out) C.w0.heap.size w

structure Hyp (C : Ctx) (n : Nat) (ops : Array Oper) (sps : List Sp) (e0 : Env) (us0 : List Un) (S : List Nat) (H0 : List Blk) : Prop where
  ps : PairSpec ops (us0.map (·.slot))
  dok : ∀ (i : Nat) (o : Oper), ops[i]? = some o → dOk n o.dst = true ∧ gOk n ops o = true
  len : sps.length = ops.size
  ob : ∀ (i : Nat) (o : Oper) (sp : Sp), ops[i]? = some o → sps[i]? = some sp → Ob C ops S o sp (UAt ops.toList sps us0 i) (EAt ops.toList sps e0 i) H0
  st1 : ∀ (i j d : Nat), sps[i]? = some (Sp.st d) → sps[j]? = some (Sp.st d) → i = j
  stS : ∀ d ∈ S, ∃ i : Nat, sps[i]? = some (Sp.st d)
  nd : (us0.map (·.slot)).Nodup
  dep0 : ∀ u ∈ us0, u.deps = [] ∧ Cong [] u.R ∧ Cong u.deps' u.R'

theorem lst_set {listed : Array Bool} {i j : Nat} (hi : i < listed.size) : Lst (listed.setIfInBounds i true) j ↔ j = i ∨ Lst listed j := by
  unfold Lst
  rw [Array.getD_eq_getD_getElem?, Array.getD_eq_getD_getElem?, Array.getElem?_setIfInBounds]
  by_cases h : i = j
  · subst h; simp [hi]
  · rw [if_neg h]; constructor
    · exact .inr
    · rintro (rfl | h')
      · exact absurd rfl h
      · exact h'

theorem Hyp.listGet (_h : Hyp C n ops sps e0 us0 S H0) {i : Nat} : ops.toList[i]? = ops[i]? := Array.getElem?_toList

theorem Hyp.slots_nodup (h : Hyp C n ops sps e0 us0 S H0) : ∀ i, i ≤ ops.size → ((UAt ops.toList sps us0 i).map (·.slot)).Nodup := by
  intro i
  induction i with
  | zero => intro _; exact h.nd
  | succ i ih =>
    intro hi
    have ih := ih (by omega)
    have hs : i < sps.length := by rw [h.len]; omega
    have ho : ops[i]? = some ops[i] := Array.getElem?_eq_getElem (by omega)
    have hsp : sps[i]? = some sps[i] := List.getElem?_eq_getElem hs
    simp only [UAt, h.listGet, ho, hsp]
    unfold nextU
    split
    · rename_i deps R deps' R' d hspe hd
      simp only [List.map_cons, List.nodup_cons]
      refine ⟨fun hm => ?_, ih⟩
      obtain ⟨u, hu, hue⟩ := List.mem_map.1 hm
      rcases UAt_mem hu with hu0 | ⟨j, o, hj, ho', _, hd'⟩
      · exact h.ps.us0 i _ d ho hd (List.mem_map.2 ⟨u, hu0, hue⟩)
      · rw [h.listGet] at ho'
        have := h.ps.uniq i j _ o d ho ho' hd (by rw [hd', hue])
        omega
    · exact ih

theorem slots_inj : ∀ {T : List Un}, (T.map (·.slot)).Nodup → ∀ {u u' : Un}, u ∈ T → u' ∈ T → u.slot = u'.slot → u = u'
  | [], _, _, _, hu, _, _ => by cases hu
  | x :: T, hn, u, u', hu, hu', he => by
    simp only [List.map_cons, List.nodup_cons] at hn
    rcases List.mem_cons.1 hu with h1 | h1
    · rcases List.mem_cons.1 hu' with h2 | h2
      · rw [h1, h2]
      · exact absurd (List.mem_map.2 ⟨u', h2, by rw [← he, h1]⟩) hn.1
    · rcases List.mem_cons.1 hu' with h2 | h2
      · exact absurd (List.mem_map.2 ⟨u, h1, by rw [he, h2]⟩) hn.1
      · exact slots_inj hn.2 h1 h2 he
theorem Hyp.slot_inj (h : Hyp C n ops sps e0 us0 S H0) {u u' : Un} (hu : u ∈ UAt ops.toList sps us0 ops.size) (hu' : u' ∈ UAt ops.toList sps us0 ops.size) (he : u.slot = u'.slot) : u = u' :=
  slots_inj (h.slots_nodup ops.size (Nat.le_refl _)) hu hu' he

theorem Hyp.spec_new (h : Hyp C n ops sps e0 us0 S H0) {i : Nat} {o : Oper} {deps deps' : List Nat} {R R' : Env → Value → List Blk → Prop} (ho : ops[i]? = some o) (hs : sps[i]? = some (Sp.new deps R deps' R')) : ∃ d, o.dst = some d ∧ (d ∉ S → R' = R ∧ deps' = deps) := (h.ob i o _ ho hs).2.2.2.1

/-- Where an operation may be carried out, it sees what it saw in the text's order. -/
theorem Hyp.agree (h : Hyp C n ops sps e0 us0 S H0) {listed : Array Bool} {a : Act} {w : World} {ea : Env} {Bs : Nat → List Blk} (I : Inv C n ds ops sps e0 us0 H0 listed a w ea Bs)
    {i : Nat} {o : Oper} (ho : ops[i]? = some o) (hni : ¬ Lst listed i) (hpre : ∀ k, edge ops i k = true → Lst listed k) {t : Nat} (ht : t ∈ o.looksAt ops)
    (hno : ∀ u ∈ UAt ops.toList sps us0 i, u.slot ≠ t) : ea t = EAt ops.toList sps e0 i t := by
  by_cases hex : ∃ (j : Nat) (oj : Oper), ops[j]? = some oj ∧ oj.dst = some t
  · obtain ⟨j, oj, hj, hd⟩ := hex
    have hji : j ≠ i := fun e => by subst e; rw [ho] at hj; cases hj; exact h.ps.self j o t ho hd ht
    rcases Nat.lt_or_ge j i with hlt | hge
    · have hL := hpre j (h.ps.before i j o oj t ho hj hd ht hlt)
      have hsj : sps[j]? = some (sps[j]'(by rw [h.len]; exact (Array.getElem?_eq_some_iff.1 hj).1)) := List.getElem?_eq_getElem _
      have hE := EAt_at (ops := ops.toList) (sps := sps) (e0 := e0) (t := t) (by rw [h.listGet]; exact hj) hsj
        (fun k o' hk ho' hd' => by rw [h.listGet] at ho'; have := h.ps.uniq k j o' oj t ho' hj hd' hd; omega) (i - (j + 1))
      rw [show j + 1 + (i - (j + 1)) = i by omega] at hE
      rw [hE]
      generalize sps[j]'_ = sp at hsj
      cases sp with
      | det c => rw [I.det j oj c t hL hj hsj hd]; simp only [nextE, hd, updo, upd_same]
      | skip => rw [I.skp j oj t hL hj hsj hd]; simp only [nextE, hd, updo, upd_same]
      | new deps R deps' R' => exact absurd rfl (hno ⟨t, deps, R, deps', R'⟩ (mem_UAt (by rw [h.listGet]; exact hj) hsj hd i hlt))
      | st d => have := (h.ob j oj _ hj hsj).1; rw [hd] at this; cases this
    · have hlt : i < j := by omega
      have hL : ¬ Lst listed j := fun hl => hni (I.down j i hl (h.ps.behind i j o oj t ho hj hd ht hlt))
      rw [I.unt t fun k ok hk hok hdk => hL (by rw [h.ps.uniq j k oj ok t hj hok hd hdk]; exact hk)]
      rw [EAt_out fun k ok hk hok hdk => by rw [h.listGet] at hok; have := h.ps.uniq k j ok oj t hok hj hdk hd; omega]
  · rw [I.unt t fun k ok _ hok hdk => hex ⟨k, ok, hok, hdk⟩]
    rw [EAt_out fun k ok _ hok hdk => hex ⟨k, ok, by rw [h.listGet] at hok; exact hok, hdk⟩]

theorem Hyp.up (_h : Hyp C n ops sps e0 us0 S H0) {i : Nat} (hi : i ≤ ops.size) {u : Un} (hu : u ∈ UAt ops.toList sps us0 i) : u ∈ UAt ops.toList sps us0 ops.size := by
  obtain ⟨pre, hp⟩ := UAt_suffix (ops := ops.toList) (sps := sps) (us0 := us0) i (ops.size - i)
  rw [show i + (ops.size - i) = ops.size by omega] at hp
  rw [hp]; exact List.mem_append_right _ hu
/-- The slot's value is there, and is not stored into. -/
def Good (ops : Array Oper) (S : List Nat) (listed : Array Bool) (t : Nat) : Prop := (∃ (k : Nat) (ok : Oper), Lst listed k ∧ ops[k]? = some ok ∧ ok.dst = some t) ∧ t ∉ S
theorem Hyp.good_deps (h : Hyp C n ops sps e0 us0 S H0) {listed : Array Bool} {a : Act} {w : World} {ea : Env} {Bs : Nat → List Blk} (I : Inv C n ds ops sps e0 us0 H0 listed a w ea Bs)
    {u : Un} {j : Nat} {oj : Oper} (hj : Lst listed j) (hoj : ops[j]? = some oj) (hsj : sps[j]? = some (Sp.new u.deps u.R u.deps' u.R')) : ∀ t ∈ u.deps, Good ops S listed t := by
  intro t ht
  obtain ⟨_, _, hS, _, _, hdep, _⟩ := h.ob j oj _ hoj hsj
  obtain ⟨hl, u', hu', rfl⟩ := hdep t ht
  refine ⟨?_, hS u' hu' hl⟩
  rcases UAt_mem hu' with hu0 | ⟨k, ok, hk, hok, _, hd⟩
  · exact absurd hl (h.ps.look j oj hoj u'.slot (List.mem_map.2 ⟨u', hu0, rfl⟩))
  · rw [h.listGet] at hok
    exact ⟨k, ok, I.down j k hj (h.ps.before j k oj ok u'.slot hoj hok hd hl hk), hok, hd⟩
theorem Hyp.sel_good (h : Hyp C n ops sps e0 us0 S H0) {listed : Array Bool} {a : Act} {w : World} {ea : Env} {Bs : Nat → List Blk} (I : Inv C n ds ops sps e0 us0 H0 listed a w ea Bs) :
    ∀ {us : List Un} {ts : List Nat}, (∀ u ∈ us, u ∈ UAt ops.toList sps us0 ops.size) → (∀ t ∈ ts, (∃ u ∈ us, u.slot = t) → Good ops S listed t) → ∀ u ∈ selL ts us, Good ops S listed u.slot
  | [], _, _, _, u, hu => by cases hu
  | x :: us, ts, hT, hts, u, hu => by
    unfold selL at hu
    have hT' : ∀ u ∈ us, u ∈ UAt ops.toList sps us0 ops.size := fun u hu => hT u (List.mem_cons_of_mem _ hu)
    split at hu
    · rename_i hx
      have hg := hts x.slot hx ⟨x, List.mem_cons_self .., rfl⟩
      rcases List.mem_cons.1 hu with rfl | hu
      · exact hg
      · refine h.sel_good I hT' (fun t ht hex => ?_) u hu
        rcases List.mem_append.1 ht with ht | ht
        · exact hts t ht (by obtain ⟨y, hy, he⟩ := hex; exact ⟨y, List.mem_cons_of_mem _ hy, he⟩)
        · obtain ⟨⟨k, ok, hk, hok, hd⟩, _⟩ := hg
          rcases UAt_mem (hT x (List.mem_cons_self ..)) with hx0 | ⟨j, oj, _, hoj, hsj, hdj⟩
          · exact absurd (List.mem_map.2 ⟨x, hx0, rfl⟩) (h.ps.us0 k ok x.slot hok hd)
          · rw [h.listGet] at hoj
            have := h.ps.uniq j k oj ok x.slot hoj hok hdj hd
            subst this
            exact h.good_deps I hk hoj hsj t ht
    · exact h.sel_good I hT' (fun t ht hex => hts t ht (by obtain ⟨y, hy, he⟩ := hex; exact ⟨y, List.mem_cons_of_mem _ hy, he⟩)) u hu
theorem Hyp.opened (h : Hyp C n ops sps e0 us0 S H0) {listed : Array Bool} {a : Act} {w : World} {ea : Env} {Bs : Nat → List Blk} (I : Inv C n ds ops sps e0 us0 H0 listed a w ea Bs)
    {i : Nat} {o : Oper} (ho : ops[i]? = some o) (hpre : ∀ k, edge ops i k = true → Lst listed k) (hS : ∀ u ∈ UAt ops.toList sps us0 i, u.slot ∈ o.looksAt ops → u.slot ∉ S) :
    ∀ u ∈ selL (o.looksAt ops) (UAt ops.toList sps us0 i), u.R ea (ea u.slot) (Bs u.slot) := by
  intro u hu
  have hi : i ≤ ops.size := Nat.le_of_lt (Array.getElem?_eq_some_iff.1 ho).1
  have hg : Good ops S listed u.slot := by
    refine h.sel_good I (fun u hu => h.up hi hu) (fun t ht hex => ?_) u hu
    obtain ⟨u', hu', rfl⟩ := hex
    refine ⟨?_, hS u' hu' ht⟩
    rcases UAt_mem hu' with hu0 | ⟨k, ok, hk, hok, _, hd⟩
    · exact absurd ht (h.ps.look i o ho u'.slot (List.mem_map.2 ⟨u', hu0, rfl⟩))
    · rw [h.listGet] at hok
      exact ⟨k, ok, hpre k (h.ps.before i k o ok u'.slot ho hok hd ht hk), hok, hd⟩
  obtain ⟨⟨k, ok, hk, hok, hd⟩, hnS⟩ := hg
  refine (I.opn u (h.up hi ((selL_sub _ _).mem hu)) (.inr ⟨k, ok, hk, hok, hd⟩)).2 ?_
  rintro ⟨k, _, hk⟩
  have hk' : k < ops.size := by rw [← h.len]; exact (List.getElem?_eq_some_iff.1 hk).1
  exact hnS (h.ob k ops[k] _ (Array.getElem?_eq_getElem hk') hk).2.2.1.1
theorem Hyp.depsOk (h : Hyp C n ops sps e0 us0 S H0) : ∀ i, i ≤ ops.size → DepsOk (UAt ops.toList sps us0 i) := by
  have h0 : ∀ l : List Un, (∀ u ∈ l, u.deps = [] ∧ Cong [] u.R ∧ Cong u.deps' u.R') → DepsOk l := by
    intro l
    induction l with
    | nil => intro _; trivial
    | cons u l ih =>
      intro hl
      obtain ⟨h1, h2, h3⟩ := hl u (List.mem_cons_self ..)
      exact ⟨⟨fun t ht => (by rw [h1] at ht; cases ht), by rw [h1]; exact h2⟩, ih fun u' hu' => hl u' (List.mem_cons_of_mem _ hu')⟩
  intro i
  induction i with
  | zero => intro _; exact h0 us0 h.dep0
  | succ i ih =>
    intro hi
    have ih := ih (by omega)
    have hs : i < sps.length := by rw [h.len]; omega
    have ho : ops[i]? = some ops[i] := Array.getElem?_eq_getElem (by omega)
    have hsp : sps[i]? = some sps[i] := List.getElem?_eq_getElem hs
    simp only [UAt, h.listGet, ho, hsp]
    unfold nextU
    split
    · rename_i deps R deps' R' d hspe hd
      rw [hspe] at hsp
      obtain ⟨_, _, _, _, _, hdep, hc, hc'⟩ := h.ob i _ _ ho hsp
      exact ⟨⟨fun t ht => (hdep t ht).2, hc⟩, ih⟩
    · exact ih
theorem Hyp.dep_cong (h : Hyp C n ops sps e0 us0 S H0) {u : Un} (hu : u ∈ UAt ops.toList sps us0 ops.size) : Cong u.deps u.R ∧ Cong u.deps' u.R' := by
  rcases UAt_mem hu with hu0 | ⟨j, o, _, ho, hs, _⟩
  · obtain ⟨h1, h2, h3⟩ := h.dep0 u hu0
    rw [h1]; exact ⟨h2, h3⟩
  · rw [h.listGet] at ho
    obtain ⟨_, _, _, _, _, _, hc, hc'⟩ := h.ob j o _ ho hs
    exact ⟨hc, hc'⟩
/-- What a stored block's content leans on was there before the store. -/
theorem Hyp.st_deps (h : Hyp C n ops sps e0 us0 S H0) {listed : Array Bool} {a : Act} {w : World} {ea : Env} {Bs : Nat → List Blk} (I : Inv C n ds ops sps e0 us0 H0 listed a w ea Bs)
    {u : Un} (hu : u ∈ UAt ops.toList sps us0 ops.size) (hs : Stored sps listed u.slot) : ∀ t ∈ u.deps', ∃ (k : Nat) (ok : Oper), Lst listed k ∧ ops[k]? = some ok ∧ ok.dst = some t := by
  intro t ht
  obtain ⟨j, hj, hsj⟩ := hs
  have hjs : j < ops.size := by rw [← h.len]; exact (List.getElem?_eq_some_iff.1 hsj).1
  have hoj := Array.getElem?_eq_getElem hjs
  obtain ⟨_, _, _, ⟨u', hu', hus, _, hdp, _⟩, _⟩ := h.ob j ops[j] _ hoj hsj
  have huu := h.slot_inj hu (h.up (Nat.le_of_lt hjs) hu') hus.symm
  subst huu
  obtain ⟨hl, _, x, hx, rfl⟩ := hdp t ht
  rcases UAt_mem hx with hx0 | ⟨k, ok, hk, hok, _, hd⟩
  · exact absurd hl (h.ps.look j _ hoj x.slot (List.mem_map.2 ⟨x, hx0, rfl⟩))
  · rw [h.listGet] at hok
    exact ⟨k, ok, I.down j k hj (h.ps.before j k _ ok x.slot hoj hok hd hl hk), hok, hd⟩

theorem below_mem {listed : Array Bool} {a : Act} {w : World} {ea : Env} {Bs : Nat → List Blk} (I : Inv C n ds ops sps e0 us0 H0 listed a w ea Bs)
    {i : Nat} (hi : i ≤ ops.size) (ts : List Nat) : St C (selH Bs (selL ts (UAt ops.toList sps us0 i)) H0) w := by
  refine ⟨I.below, selH_ok ?_, I.marks⟩
  obtain ⟨pre, hp⟩ := UAt_suffix (ops := ops.toList) (sps := sps) (us0 := us0) i (ops.size - i)
  rw [show i + (ops.size - i) = ops.size by omega] at hp
  have := I.mem
  rw [hp, List.flatMap_append, List.append_assoc] at this
  exact this.sub (List.sublist_append_right _ _)

theorem flatMap_set {Bs Bs' : Nat → List Blk} {d : Nat} {Hn : List Blk} (hd : Bs d = []) (hd' : Bs' d = Hn) (ho : ∀ t, t ≠ d → Bs' t = Bs t) :
    ∀ {T : List Un}, (T.map (·.slot)).Nodup → (∃ u ∈ T, u.slot = d) → (T.flatMap fun u => Bs' u.slot).Perm (Hn ++ T.flatMap fun u => Bs u.slot)
  | [], _, h => by obtain ⟨u, hu, _⟩ := h; cases hu
  | u :: T, hn, h => by
    simp only [List.map_cons, List.nodup_cons] at hn
    rw [List.flatMap_cons, List.flatMap_cons]
    by_cases hu : u.slot = d
    · have hT : (T.flatMap fun u => Bs' u.slot) = T.flatMap fun u => Bs u.slot := by
        have : ∀ l : List Un, (∀ x ∈ l, x.slot ≠ d) → (l.flatMap fun u => Bs' u.slot) = l.flatMap fun u => Bs u.slot := by
          intro l
          induction l with
          | nil => intro _; rfl
          | cons x l ih => intro hl; rw [List.flatMap_cons, List.flatMap_cons, ho _ (hl x (List.mem_cons_self ..)), ih fun y hy => hl y (List.mem_cons_of_mem _ hy)]
        exact this T fun x hx he => hn.1 (List.mem_map.2 ⟨x, hx, by rw [he, hu]⟩)
      rw [hT, hu, hd, hd', List.nil_append]
    · have hT := flatMap_set hd hd' ho hn.2 (by
        obtain ⟨x, hx, hxe⟩ := h
        rcases List.mem_cons.1 hx with rfl | hx
        · exact absurd hxe hu
        · exact ⟨x, hx, hxe⟩)
      rw [ho _ hu]
      exact (hT.append_left _).trans (List.perm_append_comm_assoc ..)

theorem looks_of {o : Oper} {d : Nat} (h : ((o.looksAt ops).contains d || ops.all fun o' => o'.dst != some d) = true) {j : Nat} {oj : Oper} (hj : ops[j]? = some oj) (hd : oj.dst = some d) : d ∈ o.looksAt ops := by
  simp only [Bool.or_eq_true] at h
  rcases h with h | h
  · simpa using h
  · rw [Array.all_eq_true] at h
    have hlt := (Array.getElem?_eq_some_iff.1 hj).1
    have := h j hlt
    rw [(Array.getElem?_eq_some_iff.1 hj).2, hd] at this
    simp at this

/-- One operation more. -/
theorem Hyp.more (h : Hyp C n ops sps e0 us0 S H0) {listed : Array Bool} {a : Act} {w w' : World} {ea : Env} {Bs Bs' : Nat → List Blk} (I : Inv C n ds ops sps e0 us0 H0 listed a w ea Bs)
    {i : Nat} {o : Oper} {sp : Sp} (ho : ops[i]? = some o) (hs : sps[i]? = some sp) (hni : ¬ Lst listed i) (hpre : ∀ k, edge ops i k = true → Lst listed k) (v : Value)
    (hdet : ∀ c, sp = .det c → v = c) (hskip : sp = .skip → v = undef)
    (hmem : HOk C.w0.heap.size w' ((UAt ops.toList sps us0 ops.size).flatMap (fun u => Bs' u.slot) ++ H0)) (hbel : Below C.w0.heap.size C.w0 w') (hmk : Mk (C.ds ++ C.out) C.w0.heap.size w')
    (hnew : ∀ deps R deps' R' d, sp = .new deps R deps' R' → o.dst = some d → R (updo ea o.dst v) v (Bs' d)) (hst : ∀ d, sp = .st d → ∀ u ∈ UAt ops.toList sps us0 ops.size, u.slot = d → u.R' (updo ea o.dst v) (ea d) (Bs' d))
    (hB : ∀ t, (∀ deps R deps' R', sp = .new deps R deps' R' → o.dst ≠ some t) → sp ≠ .st t → Bs' t = Bs t) :
    Inv C n ds ops sps e0 us0 H0 (listed.setIfInBounds i true) (a.put o.dst v) w' (updo ea o.dst v) Bs' := by
  have hi : i < ops.size := (Array.getElem?_eq_some_iff.1 ho).1
  have hil : i < listed.size := by rw [I.sz]; exact hi
  have hv : ∀ t, o.dst ≠ some t → updo ea o.dst v t = ea t := fun t ht => by
    cases hd : o.dst with
    | none => rfl
    | some d => exact upd_ne ea v (fun e => ht (by rw [hd, e]))
  have hvd : ∀ t, o.dst = some t → updo ea o.dst v t = v := fun t ht => by rw [ht]; exact upd_same ea t v
  have hsl : ∀ (j : Nat) (oj : Oper) (d : Nat), Lst listed j → ops[j]? = some oj → oj.dst = some d → o.dst ≠ some d := fun j oj d hj hoj hd hd' => by
    have := h.ps.uniq i j o oj d ho hoj hd' hd
    subst this; exact hni hj
  refine ⟨I.rep.put o.dst (h.dok i o ho).1, by simp [I.sz], ?_, ?_, ?_, ?_, ?_, ?_, hmem, hbel, hmk⟩
  · intro j k hj he
    rw [lst_set hil] at hj ⊢
    rcases hj with rfl | hj
    · exact .inr (hpre k he)
    · exact .inr (I.down j k hj he)
  · intro j oj c d hj hoj hsj hd
    rw [lst_set hil] at hj
    rcases hj with rfl | hj
    · rw [ho] at hoj; cases hoj
      rw [hs] at hsj; cases hsj
      rw [hvd d hd]; exact hdet c rfl
    · rw [hv d (hsl j oj d hj hoj hd)]; exact I.det j oj c d hj hoj hsj hd
  · intro j oj d hj hoj hsj hd
    rw [lst_set hil] at hj
    rcases hj with rfl | hj
    · rw [ho] at hoj; cases hoj
      rw [hs] at hsj; cases hsj
      rw [hvd d hd]; exact hskip rfl
    · rw [hv d (hsl j oj d hj hoj hd)]; exact I.skp j oj d hj hoj hsj hd
  · intro u hu hp
    by_cases hnewi : ∃ deps R deps' R', sp = .new deps R deps' R' ∧ o.dst = some u.slot
    · obtain ⟨deps, R, deps', R', hsp, hd⟩ := hnewi
      subst hsp
      have hue : u = ⟨u.slot, deps, R, deps', R'⟩ := h.slot_inj hu (mem_UAt (by rw [h.listGet]; exact ho) hs hd ops.size hi) rfl
      have hR : u.R (updo ea o.dst v) v (Bs' u.slot) := by rw [hue]; exact hnew deps R deps' R' u.slot rfl hd
      rw [hvd _ hd]
      obtain ⟨d', hd', hS⟩ := h.spec_new ho hs
      have hdd : d' = u.slot := by rw [hd] at hd'; cases hd'; rfl
      refine ⟨fun ⟨k, hk, hsk⟩ => ?_, fun _ => hR⟩
      rw [lst_set hil] at hk
      rcases hk with rfl | hk
      · rw [hs] at hsk; cases hsk
      · -- a store before its slot is made: its operation looks at no such slot unless it is there
        have hkk : k < ops.size := by rw [← h.len]; exact (List.getElem?_eq_some_iff.1 hsk).1
        have hok := Array.getElem?_eq_getElem hkk
        obtain ⟨_, _, ⟨_, hlk⟩, ⟨u', hu', hus, _⟩, _⟩ := h.ob k ops[k] _ hok hsk
        rcases UAt_mem hu' with hu0 | ⟨j, oj, hj, hoj, _, hdj⟩
        · exact absurd (List.mem_map.2 ⟨u', hu0, hus⟩) (h.ps.us0 i o u.slot ho hd)
        · rw [h.listGet] at hoj
          have hij := h.ps.uniq i j o oj u.slot ho hoj hd (by rw [hdj, hus])
          subst hij
          exact absurd (I.down k i hk (h.ps.before k i _ o u.slot hok ho hd (looks_of hlk ho hd) hj)) hni
    · have hd : o.dst ≠ some u.slot := fun hd => by
        rcases UAt_mem hu with hu0 | ⟨j, oj, hj, hoj, hsj, hdj⟩
        · exact h.ps.us0 i o u.slot ho hd (List.mem_map.2 ⟨u, hu0, rfl⟩)
        · rw [h.listGet] at hoj
          have hij := h.ps.uniq i j o oj u.slot ho hoj hd hdj
          subst hij
          rw [hs] at hsj; cases hsj
          exact hnewi ⟨_, _, _, _, rfl, hd⟩
      have hp' : Pres ops us0 listed u.slot := by
        rcases hp with hp | ⟨j, oj, hj, hoj, hdj⟩
        · exact .inl hp
        · rw [lst_set hil] at hj
          rcases hj with rfl | hj
          · rw [ho] at hoj; cases hoj; exact absurd hdj hd
          · exact .inr ⟨j, oj, hj, hoj, hdj⟩
      have hag : ∀ t ∈ u.deps, ea t = updo ea o.dst v t := fun t ht => by
        refine (hv t fun hdt => ?_).symm
        rcases UAt_mem hu with hu0 | ⟨j, oj, _, hoj, hsj, hdj⟩
        · rw [(h.dep0 u hu0).1] at ht; cases ht
        · rw [h.listGet] at hoj
          have hLj : Lst listed j := by
            rcases hp' with ⟨u', hu', he⟩ | ⟨k, ok, hk, hok, hdk⟩
            · exact absurd (List.mem_map.2 ⟨u', hu', he⟩) (h.ps.us0 j oj u.slot hoj hdj)
            · rw [h.ps.uniq j k oj ok u.slot hoj hok hdj hdk]; exact hk
          obtain ⟨⟨k, ok, hk, hok, hdk⟩, _⟩ := h.good_deps I hLj hoj hsj t ht
          have := h.ps.uniq i k o ok t ho hok hdt hdk
          subst this; exact hni hk
      obtain ⟨hcR, hcR'⟩ := h.dep_cong hu
      rw [hv _ hd]
      by_cases hsti : sp = .st u.slot
      · subst hsti
        refine ⟨fun _ => hst u.slot rfl u hu rfl, fun hn => absurd ⟨i, (lst_set hil).2 (.inl rfl), hs⟩ hn⟩
      · rw [hB u.slot (fun deps R deps' R' e he => hd he) hsti]
        have hiff : Stored sps (listed.setIfInBounds i true) u.slot ↔ Stored sps listed u.slot := by
          constructor
          · rintro ⟨k, hk, hsk⟩
            rw [lst_set hil] at hk
            rcases hk with rfl | hk
            · rw [hs] at hsk; cases hsk; exact absurd rfl hsti
            · exact ⟨k, hk, hsk⟩
          · rintro ⟨k, hk, hsk⟩; exact ⟨k, (lst_set hil).2 (.inr hk), hsk⟩
        rw [hiff]
        exact ⟨fun hs => hcR' ea _ (fun t ht => (hv t fun hdt => by
          obtain ⟨k, ok, hk, hok, hdk⟩ := h.st_deps I hu hs t ht
          have := h.ps.uniq i k o ok t ho hok hdt hdk
          subst this; exact hni hk).symm) _ _ ((I.opn u hu hp').1 hs), fun hs => hcR ea _ hag _ _ ((I.opn u hu hp').2 hs)⟩
  · intro u hu hp
    have hp' : ¬ Pres ops us0 listed u.slot := fun hp' => hp (by
      rcases hp' with hp' | ⟨j, oj, hj, r⟩
      · exact .inl hp'
      · exact .inr ⟨j, oj, (lst_set hil).2 (.inr hj), r⟩)
    rw [hB u.slot (fun deps R deps' R' _ he => hp (.inr ⟨i, o, (lst_set hil).2 (.inl rfl), ho, he⟩)) (fun hsti => by
      subst hsti
      obtain ⟨_, _, ⟨_, hlk⟩, ⟨u', hu', hus, _⟩, _⟩ := h.ob i o _ ho hs
      rcases UAt_mem hu' with hu0 | ⟨j, oj, hj, hoj, _, hdj⟩
      · exact hp (.inl ⟨u', hu0, hus⟩)
      · rw [h.listGet] at hoj
        exact hp (.inr ⟨j, oj, (lst_set hil).2 (.inr (hpre j (h.ps.before i j o oj u.slot ho hoj (by rw [hdj, hus]) (looks_of hlk hoj (by rw [hdj, hus])) hj))), hoj, by rw [hdj, hus]⟩))]
    exact I.absn u hu hp'
  · intro t ht
    have hd : o.dst ≠ some t := ht i o ((lst_set hil).2 (.inl rfl)) ho
    rw [hv t hd]
    exact I.unt t fun j oj hj hoj => ht j oj ((lst_set hil).2 (.inr hj)) hoj
end
end Go.Eng

/- A region whose order is open: soundness, and the rule itself. No project text. -/
namespace Go.Eng
open Go.RowKit
section
variable {C : Ctx} {F : Fence} {n : Nat} {ds : List Deferred} {ops : Array Oper} {sps : List Sp} {e0 : Env} {us0 : List Un} {S : List Nat} {H0 : List Blk} {Q : Exit → Env → List Blk → Prop}

theorem ready_mem {listed : Array Bool} {i : Nat} : i ∈ Region.ready .any ops listed ↔ i < ops.size ∧ listed.getD i true = false ∧ ∃ o, ops[i]? = some o ∧ ∀ e ∈ o.after, Region.binds .any e = true → listed.getD e.on false = true := by
  unfold Region.ready
  simp only [List.mem_filter, List.mem_range, Bool.and_eq_true, Bool.not_eq_true']
  constructor
  · rintro ⟨h1, h2, h3⟩
    refine ⟨h1, h2, ops[i], Array.getElem?_eq_getElem h1, ?_⟩
    rw [Array.getElem?_eq_getElem h1] at h3
    simp only [Option.map_some, Option.getD_some, Array.all_eq_true] at h3
    intro e he hb
    obtain ⟨k, hk, rfl⟩ := Array.mem_iff_getElem.1 he
    have := h3 k hk
    simpa [hb] using this
  · rintro ⟨h1, h2, o, ho, h3⟩
    refine ⟨h1, h2, ?_⟩
    rw [ho]
    simp only [Option.map_some, Option.getD_some, Array.all_eq_true]
    intro k hk
    by_cases hb : Region.binds .any o.after[k] = true
    · simp [h3 _ (Array.getElem_mem hk) hb]
    · simp [hb]

theorem edge_of_ready {listed : Array Bool} {i : Nat} (h : i ∈ Region.ready .any ops listed) : ∀ k, edge ops i k = true → Lst listed k := by
  obtain ⟨_, _, o, ho, h3⟩ := ready_mem.1 h
  intro k hk
  unfold edge at hk
  rw [ho] at hk
  simp only [Option.map_some, Option.getD_some, Array.any_eq_true, Bool.and_eq_true, beq_iff_eq] at hk
  obtain ⟨x, hx, he, hb⟩ := hk
  have := h3 _ (Array.getElem_mem hx) hb
  rw [he] at this
  exact this

theorem all_of_ready_nil (hp : ∀ (i k : Nat), edge ops i k = true → k < i) {listed : Array Bool} (hsz : listed.size = ops.size) (h : Region.ready .any ops listed = []) : ∀ i, i < ops.size → Lst listed i := by
  intro i
  induction i using Nat.strongRecOn with
  | _ i ih =>
    intro hi
    refine Classical.byContradiction fun hn => ?_
    have : i ∈ Region.ready .any ops listed := by
      refine ready_mem.2 ⟨hi, ?_, ops[i], Array.getElem?_eq_getElem hi, fun e he hb => ?_⟩
      · unfold Lst at hn
        rw [Array.getD_eq_getD_getElem?, Array.getElem?_eq_getElem (by omega)] at hn ⊢
        simpa using hn
      · have hed : edge ops i e.on = true := by
          unfold edge
          rw [Array.getElem?_eq_getElem hi]
          simp only [Option.map_some, Option.getD_some, Array.any_eq_true]
          obtain ⟨k, hk, rfl⟩ := Array.mem_iff_getElem.1 he
          exact ⟨k, hk, by simp [hb]⟩
        have hlt := hp i e.on hed
        exact ih e.on hlt (by omega)
    rw [h] at this
    cases this

structure HypS (us0 : List Un) (S : List Nat) : Prop where
  us0S : ∀ u ∈ us0, u.slot ∈ S

theorem Hyp.fin (h : Hyp C n ops sps e0 us0 S H0) (hS : HypS us0 S) (hf : OverAll (fun e H => Q .normal e H) (fun _ => True) (UAt ops.toList sps us0 ops.size) (EAt ops.toList sps e0 ops.size) H0)
    {listed : Array Bool} {a : Act} {w : World} {ea : Env} {Bs : Nat → List Blk} (I : Inv C n ds ops sps e0 us0 H0 listed a w ea Bs) (hall : ∀ i, i < ops.size → Lst listed i) : lift C n ds Q .normal a w := by
  have hT : ∀ u ∈ UAt ops.toList sps us0 ops.size, Pres ops us0 listed u.slot := fun u hu => by
    rcases UAt_mem hu with hu0 | ⟨j, o, hj, ho, _, hd⟩
    · exact .inl ⟨u, hu0, rfl⟩
    · rw [h.listGet] at ho; exact .inr ⟨j, o, hall j hj, ho, hd⟩
  have hR : ∀ u ∈ UAt ops.toList sps us0 ops.size, u.R' ea (ea u.slot) (Bs u.slot) := fun u hu => by
    have ho := I.opn u hu (hT u hu)
    by_cases hs : Stored sps listed u.slot
    · exact ho.1 hs
    · have hns : u.slot ∉ S := fun hm => by
        obtain ⟨i, hi⟩ := h.stS _ hm
        exact hs ⟨i, hall i (by rw [← h.len]; exact (List.getElem?_eq_some_iff.1 hi).1), hi⟩
      have hr := ho.2 hs
      rcases UAt_mem hu with hu0 | ⟨j, o, _, hoj, hsj, hd⟩
      · exact absurd (hS.us0S u hu0) hns
      · rw [h.listGet] at hoj
        obtain ⟨d, hd', he⟩ := h.spec_new hoj hsj
        rw [hd] at hd'; cases hd'
        rw [(he hns).1]; exact hr
  have he : allE ea (UAt ops.toList sps us0 ops.size) (EAt ops.toList sps e0 ops.size) = ea := by
    funext t
    by_cases hin : ∃ u ∈ UAt ops.toList sps us0 ops.size, u.slot = t
    · exact allE_in hin
    · refine allE_same ?_
      by_cases hex : ∃ (j : Nat) (oj : Oper), ops[j]? = some oj ∧ oj.dst = some t
      · obtain ⟨j, oj, hj, hd⟩ := hex
        have hjs := (Array.getElem?_eq_some_iff.1 hj).1
        have hsj : sps[j]? = some (sps[j]'(by rw [h.len]; exact hjs)) := List.getElem?_eq_getElem _
        have hE := EAt_at (ops := ops.toList) (sps := sps) (e0 := e0) (t := t) (by rw [h.listGet]; exact hj) hsj
          (fun k o' hk ho' hd' => by rw [h.listGet] at ho'; have := h.ps.uniq k j o' oj t ho' hj hd' hd; omega) (ops.size - (j + 1))
        rw [show j + 1 + (ops.size - (j + 1)) = ops.size by omega] at hE
        rw [hE]
        generalize sps[j]'_ = sp at hsj
        cases sp with
        | det c => rw [I.det j oj c t (hall j hjs) hj hsj hd]; simp only [nextE, hd, updo, upd_same]
        | skip => rw [I.skp j oj t (hall j hjs) hj hsj hd]; simp only [nextE, hd, updo, upd_same]
        | new deps R deps' R' => exact absurd ⟨⟨t, deps, R, deps', R'⟩, mem_UAt (by rw [h.listGet]; exact hj) hsj hd ops.size hjs, rfl⟩ hin
        | st d => have := (h.ob j oj _ hj hsj).1; rw [hd] at this; cases this
      · rw [I.unt t fun k ok _ hok hdk => hex ⟨k, ok, hok, hdk⟩, EAt_out fun k ok _ hok hdk => hex ⟨k, ok, by rw [h.listGet] at hok; exact hok, hdk⟩]
  exact ⟨ea, _, I.rep, ⟨I.below, allH_ok I.mem, I.marks⟩, OverAll_use (ea := ea) (Bs := Bs) hf trivial hR he⟩

theorem gd_congr {all : Array Oper} {e e' : Env} {o : Oper} (h : ∀ d ∈ gLooks all o, e d = e' d) : gdOf all e o = gdOf all e' o := by
  unfold gdOf
  unfold gLooks at h
  split
  · rfl
  · rename_i j want hg
    rw [hg] at h
    split
    · rename_i d hd
      simp only [hd, Option.toList_some, List.mem_singleton, forall_eq] at h
      rw [h]
    · rfl

theorem exec_congr {e e' : Env} {o : Oper} (hs : ∀ cs b, o.op ≠ .select cs b) (h : ∀ t ∈ o.looksAt ops, e t = e' t) : execOp (ev e) o = execOp (ev e') o := by
  refine execOp_congr o hs fun x hx => ?_
  cases x with
  | tmp t => exact h t (List.mem_append_left _ (List.mem_filterMap.2 ⟨.tmp t, by simpa using hx, rfl⟩))
  | const => rfl
  | global => rfl
  | func => rfl

theorem swap_ok {N : Nat} {w w' : World} {X Hn Hn' : List Blk} (hs : Swap Hn Hn' w w') (h : HOk N w (Hn ++ X)) : HOk N w' (Hn' ++ X) := by
  have hnd := h.nodup
  rw [List.map_append, List.nodup_append] at hnd
  refine ⟨fun x hx => ?_, ?_, fun x hx => (List.mem_append.1 hx).elim (hs.kind x) fun hx => h.kind x (List.mem_append_right _ hx)⟩
  · rcases List.mem_append.1 hx with hx | hx
    · refine ⟨?_, hs.mem x hx⟩
      have : x.1 ∈ Hn.map Prod.fst := by rw [← hs.names]; exact List.mem_map.2 ⟨x, hx, rfl⟩
      obtain ⟨y, hy, hye⟩ := List.mem_map.1 this
      rw [← hye]; exact (h.mem y (List.mem_append_left _ hy)).1
    · have hm := h.mem x (List.mem_append_right _ hx)
      refine ⟨hm.1, ?_⟩
      rw [hs.other x.1 fun hin => hnd.2.2 _ hin x.1 (List.mem_map.2 ⟨x, hx, rfl⟩) rfl]
      exact hm.2
  · rw [List.map_append, hs.names, ← List.map_append]; exact h.nodup
theorem swap_below {C : Ctx} {w w' : World} {X Hn Hn' : List Blk} (hs : Swap Hn Hn' w w') (h : HOk C.w0.heap.size w (Hn ++ X)) (hb : Below C.w0.heap.size C.w0 w) : Below C.w0.heap.size C.w0 w' :=
  hb.trans ⟨hs.os, hs.tape, hs.output, by rw [hs.size]; exact Nat.le_refl _, fun k hk => hs.other k fun hin => by
    obtain ⟨y, hy, rfl⟩ := List.mem_map.1 hin
    have := (h.mem y (List.mem_append_left _ hy)).1
    omega⟩

theorem swap_marks {N : Nat} {w w' : World} {X Hn Hn' : List Blk} {ds : List Deferred} (hs : Swap Hn Hn' w w') (h : HOk N w (Hn ++ X)) (hm : Mk ds N w) : Mk ds N w' := ⟨hm.1, fun d hd => by
  obtain ⟨D, h1, h2, h3⟩ := hm.2 d hd
  refine ⟨D, h1, h2, (hs.other D fun hin => ?_).trans h3⟩
  obtain ⟨y, hy, rfl⟩ := List.mem_map.1 hin
  have := (h.mem y (List.mem_append_left _ hy)).2
  rw [h3] at this
  exact h.kind y (List.mem_append_left _ hy) (Option.some.inj this).symm⟩

/-- The blocks of one entry, in front. -/
theorem flatMap_front {Bs : Nat → List Blk} {u : Un} : ∀ {T : List Un}, u ∈ T → (T.map (·.slot)).Nodup → (T.flatMap fun u => Bs u.slot).Perm (Bs u.slot ++ (T.filter fun x => x.slot != u.slot).flatMap fun u => Bs u.slot)
  | [], h, _ => by cases h
  | x :: T, h, hn => by
    simp only [List.map_cons, List.nodup_cons] at hn
    rw [List.flatMap_cons]
    by_cases hx : x = u
    · subst hx
      have hself : ∀ l : List Un, (∀ y ∈ l, y.slot ≠ x.slot) → (l.filter fun y => y.slot != x.slot) = l := fun l hl => List.filter_eq_self.2 fun y hy => by simp [hl y hy]
      rw [List.filter_cons_of_neg (by simp), hself T fun y hy he => hn.1 (List.mem_map.2 ⟨y, hy, he⟩)]
    · have hm : u ∈ T := by
        rcases List.mem_cons.1 h with rfl | hm
        · exact absurd rfl hx
        · exact hm
      have hne : x.slot ≠ u.slot := fun he => hn.1 (List.mem_map.2 ⟨u, hm, he.symm⟩)
      rw [List.filter_cons_of_pos (by simp [hne]), List.flatMap_cons]
      exact ((flatMap_front (Bs := Bs) hm hn.2).append_left _).trans (List.perm_append_comm_assoc ..)
theorem flatMap_other {Bs Bs' : Nat → List Blk} {d : Nat} (ho : ∀ t, t ≠ d → Bs' t = Bs t) : ∀ T : List Un, ((T.filter fun x => x.slot != d).flatMap fun u => Bs' u.slot) = (T.filter fun x => x.slot != d).flatMap fun u => Bs u.slot
  | [] => rfl
  | x :: T => by
    by_cases hx : x.slot = d
    · rw [List.filter_cons_of_neg (by simp [hx])]; exact flatMap_other ho T
    · rw [List.filter_cons_of_pos (by simp [hx]), List.flatMap_cons, List.flatMap_cons, ho _ hx, flatMap_other ho T]
theorem DepsOk_filter {d : Nat} : ∀ {us : List Un}, DepsOk us → (∀ u ∈ us, d ∉ u.deps) → DepsOk (us.filter fun x => x.slot != d)
  | [], _, _ => trivial
  | u :: us, h, hd => by
    have ih := DepsOk_filter h.2 fun u hu => hd u (List.mem_cons_of_mem _ hu)
    by_cases hu : u.slot = d
    · rw [List.filter_cons_of_neg (by simp [hu])]; exact ih
    · rw [List.filter_cons_of_pos (by simp [hu])]
      refine ⟨⟨fun t ht => ?_, h.1.2⟩, ih⟩
      obtain ⟨u', hu', he⟩ := h.1.1 t ht
      refine ⟨u', List.mem_filter.2 ⟨hu', ?_⟩, he⟩
      have : t ≠ d := fun e => hd u (List.mem_cons_self ..) (by rw [← e]; exact ht)
      simp [he, this]
theorem Hyp.no_dep (h : Hyp C n ops sps e0 us0 S H0) {d : Nat} (hd : d ∈ S) : ∀ i, i ≤ ops.size → ∀ u ∈ UAt ops.toList sps us0 i, d ∉ u.deps := by
  intro i hi u hu ht
  rcases UAt_mem hu with hu0 | ⟨j, o, _, ho, hs, _⟩
  · rw [(h.dep0 u hu0).1] at ht; cases ht
  · rw [h.listGet] at ho
    obtain ⟨_, _, hS, _, _, hdep, _⟩ := h.ob j o _ ho hs
    obtain ⟨hl, u', hu', he⟩ := hdep d ht
    exact hS u' hu' (by rw [he]; exact hl) (by rw [he]; exact hd)
theorem Hyp.openedF (h : Hyp C n ops sps e0 us0 S H0) {listed : Array Bool} {a : Act} {w : World} {ea : Env} {Bs : Nat → List Blk} (I : Inv C n ds ops sps e0 us0 H0 listed a w ea Bs)
    {i : Nat} {o : Oper} (ho : ops[i]? = some o) (hpre : ∀ k, edge ops i k = true → Lst listed k) {d : Nat} (hS : ∀ u ∈ UAt ops.toList sps us0 i, u.slot ≠ d → u.slot ∈ o.looksAt ops → u.slot ∉ S) :
    ∀ u ∈ selL (o.looksAt ops) ((UAt ops.toList sps us0 i).filter fun x => x.slot != d), u.R ea (ea u.slot) (Bs u.slot) := by
  intro u hu
  have hi : i ≤ ops.size := Nat.le_of_lt (Array.getElem?_eq_some_iff.1 ho).1
  have hg : Good ops S listed u.slot := by
    refine h.sel_good I (fun u hu => h.up hi (List.mem_filter.1 hu).1) (fun t ht hex => ?_) u hu
    obtain ⟨u', hu', rfl⟩ := hex
    obtain ⟨hu', hne⟩ := List.mem_filter.1 hu'
    refine ⟨?_, hS u' hu' (by simpa using hne) ht⟩
    rcases UAt_mem hu' with hu0 | ⟨k, ok, hk, hok, _, hd⟩
    · exact absurd ht (h.ps.look i o ho u'.slot (List.mem_map.2 ⟨u', hu0, rfl⟩))
    · rw [h.listGet] at hok
      exact ⟨k, ok, hpre k (h.ps.before i k o ok u'.slot ho hok hd ht hk), hok, hd⟩
  obtain ⟨⟨k, ok, hk, hok, hd⟩, hnS⟩ := hg
  refine (I.opn u (h.up hi (List.mem_filter.1 ((selL_sub _ _).mem hu)).1) (.inr ⟨k, ok, hk, hok, hd⟩)).2 ?_
  rintro ⟨k, _, hk⟩
  have hk' : k < ops.size := by rw [← h.len]; exact (List.getElem?_eq_some_iff.1 hk).1
  exact hnS (h.ob k ops[k] _ (Array.getElem?_eq_getElem hk') hk).2.2.1.1

theorem Hyp.run (hF : Wide F) (h : Hyp C n ops sps e0 us0 S H0) (hS : HypS us0 S) (hf : OverAll (fun e H => Q .normal e H) (fun _ => True) (UAt ops.toList sps us0 ops.size) (EAt ops.toList sps e0 ops.size) H0) :
    ∀ (fuel : Nat) (listed : Array Bool) (a : Act) (w : World) (ea : Env) (Bs : Nat → List Blk), Inv C n ds ops sps e0 us0 H0 listed a w ea Bs → (List.range ops.size).countP (fun i => !listed.getD i true) ≤ fuel →
      wpAnyIn F 0 C.P .any ops (lift C n ds Q) fuel listed a w := by
  have huni : ∀ {i : Nat} {o : Oper}, ops[i]? = some o → i < ops.size := fun ho => (Array.getElem?_eq_some_iff.1 ho).1
  intro fuel
  induction fuel with
  | zero =>
    intro listed a w ea Bs I hc
    have hall : Region.ready .any ops listed = [] := by
      refine List.eq_nil_iff_forall_not_mem.2 fun i hi => ?_
      obtain ⟨h1, h2, _⟩ := ready_mem.1 hi
      have : 0 < (List.range ops.size).countP (fun i => !listed.getD i true) := List.countP_pos_iff.2 ⟨i, List.mem_range.2 h1, by simp [h2]⟩
      omega
    exact ⟨hall, h.fin hS hf I (all_of_ready_nil h.ps.down I.sz hall)⟩
  | succ fuel ih =>
    intro listed a w ea Bs I hc
    refine ⟨fun hr => h.fin hS hf I (all_of_ready_nil h.ps.down I.sz hr), fun i hi => ?_⟩
    obtain ⟨hlt, hun, o, ho, _⟩ := ready_mem.1 hi
    have hpre := edge_of_ready hi
    have hni : ¬ Lst listed i := fun hl => by
      unfold Lst at hl
      rw [Array.getD_eq_getD_getElem?, Array.getElem?_eq_getElem (by rw [I.sz]; exact hlt)] at hl hun
      simp only [Option.getD_some] at hl hun
      rw [hl] at hun; cases hun
    have hcnt : (List.range ops.size).countP (fun j => !(listed.setIfInBounds i true).getD j true) ≤ fuel := by
      have := countP_lt (l := List.range ops.size) (x := i) (p := fun j => !listed.getD j true) (p' := fun j => !(listed.setIfInBounds i true).getD j true) (List.mem_range.2 hlt) (by simp [hun])
        (by simp only [Array.getD_eq_getD_getElem?, Array.getElem?_setIfInBounds]; simp [I.sz, hlt])
        (fun y hy => by
          simp only [Array.getD_eq_getD_getElem?, Array.getElem?_setIfInBounds] at hy ⊢
          by_cases hiy : i = y
          · subst hiy; simp [I.sz, hlt] at hy
          · rwa [if_neg hiy] at hy)
      omega
    have hs : sps[i]? = some (sps[i]'(by rw [h.len]; exact hlt)) := List.getElem?_eq_getElem _
    generalize sps[i]'_ = sp at hs
    have hob := h.ob i o sp ho hs
    have hgo := (h.dok i o ho).2
    unfold wpOpIn
    rw [ho]
    simp only []
    -- the guard sees what it saw
    have hgd : (∀ u ∈ UAt ops.toList sps us0 i, u.slot ∉ gLooks ops o) → gdOf ops ea o = gdOf ops (EAt ops.toList sps e0 i) o := fun hu =>
      gd_congr fun d hd => h.agree I ho hni hpre (List.mem_append_right _ hd) fun u hu' he => hu u hu' (by rw [he]; exact hd)
    -- the operation's own run
    have hsame : ∀ t ∈ o.looksAt ops, selE ea (selL (o.looksAt ops) (UAt ops.toList sps us0 i)) (EAt ops.toList sps e0 i) t = ea t := fun t ht => by
      by_cases hin : ∃ u ∈ UAt ops.toList sps us0 i, u.slot = t
      · exact selE_in (selL_mem ht hin)
      · exact selE_same (h.agree I ho hni hpre ht fun u hu he => hin ⟨u, hu, he⟩).symm
    have hrun : (∀ u ∈ UAt ops.toList sps us0 i, u.slot ∈ o.looksAt ops → u.slot ∉ S) → ∀ R : Env → Value → List Blk → Prop, Over (o.looksAt ops) (fun e H => YR C o e H (R e)) (UAt ops.toList sps us0 i) (EAt ops.toList sps e0 i) H0 →
        OutRes C.P (R (selE ea (selL (o.looksAt ops) (UAt ops.toList sps us0 i)) (EAt ops.toList sps e0 i))) w ((execOp (ev ea) o).run C.P w) := fun hS' R hov => by
      have hy := Over_use (ea := ea) (Bs := Bs) hov (h.depsOk i (Nat.le_of_lt hlt)) (h.opened I ho hpre hS')
      have := hy w (below_mem I (Nat.le_of_lt hlt) _)
      rwa [exec_congr (ops := ops) (e' := ea) (h.ps.sel i o ho) hsame] at this
    have hgrow : ∀ {w' : World} {Hn : List Blk}, Below w.heap.size w w' → HOk w.heap.size w' Hn → HOk C.w0.heap.size w' (Hn ++ ((UAt ops.toList sps us0 ops.size).flatMap (fun u => Bs u.slot) ++ H0)) := fun h1 h2 => I.mem.grow I.below.size h1 h2
    cases sp with
    | skip =>
      obtain ⟨hg, hu⟩ := hob
      have hwant := gd_wanted I.rep ((hgd hu).trans hg) (gOk_lt hgo)
      rw [if_neg (by simp [hwant])]
      refine ⟨fun f _ => hF.fn f, ih _ _ _ _ _ (h.more I ho hs hni hpre undef (fun c e => (by cases e)) (fun _ => rfl) I.mem I.below I.marks (fun deps R deps' R' d e => (by cases e)) (fun d e => (by cases e)) (fun t _ _ => rfl)) hcnt⟩
    | det c =>
      obtain ⟨hg, hu, hS', hov⟩ := hob
      have hwant := gd_wanted I.rep ((hgd hu).trans hg) (gOk_lt hgo)
      rw [if_pos hwant]
      refine ⟨fun f _ => hF.fn f, ?_⟩
      rw [semAt_of (h.ps.ndef i o ho), I.rep.eval]
      refine uponIn_of hF (hrun hS' (fun _ v _ => v = c) hov) ?_
      rintro v w' ⟨Hn, h1, h2, rfl⟩
      exact ih _ _ _ _ _ (h.more I ho hs hni hpre v (fun c e => (by cases e; rfl)) (fun e => (by cases e)) ((hgrow h1 h2).sub (List.sublist_append_right _ _)) (I.below.trans (h1.mono I.below.size)) (I.marks.below h1)
        (fun deps R deps' R' d e => (by cases e)) (fun d e => (by cases e)) (fun t _ _ => rfl)) hcnt
    | new deps R deps' R' =>
      obtain ⟨hg, hu, hS', ⟨d, hd, _⟩, hov, hdep, hcg, _⟩ := hob
      have hwant := gd_wanted I.rep ((hgd hu).trans hg) (gOk_lt hgo)
      rw [if_pos hwant]
      refine ⟨fun f _ => hF.fn f, ?_⟩
      rw [semAt_of (h.ps.ndef i o ho), I.rep.eval]
      refine uponIn_of hF (hrun hS' R hov) ?_
      rintro v w' ⟨Hn, h1, h2, hR⟩
      have hR := hcg _ (updo ea o.dst v) (fun t ht => by
        rw [hsame t (hdep t ht).1, hd]
        exact (upd_ne ea v fun he => h.ps.self i o d ho hd (by rw [← he]; exact (hdep t ht).1)).symm) _ _ hR
      have huT := mem_UAt (us0 := us0) (by rw [h.listGet]; exact ho) hs hd ops.size hlt
      have hnp : ¬ Pres ops us0 listed d := by
        rintro (⟨u, hu0, he⟩ | ⟨j, oj, hj, hoj, hdj⟩)
        · exact h.ps.us0 i o d ho hd (List.mem_map.2 ⟨u, hu0, he⟩)
        · have := h.ps.uniq i j o oj d ho hoj hd hdj; subst this; exact hni hj
      have hBd : Bs d = [] := I.absn _ huT hnp
      let Bs' : Nat → List Blk := fun t => if t = d then Hn else Bs t
      have hB1 : Bs' d = Hn := if_pos rfl
      have hB2 : ∀ t, t ≠ d → Bs' t = Bs t := fun t ht => if_neg ht
      have hp := flatMap_set hBd hB1 hB2 (h.slots_nodup ops.size (Nat.le_refl _)) ⟨_, huT, rfl⟩
      refine ih _ _ _ _ Bs' (h.more I ho hs hni hpre v (fun c e => (by cases e)) (fun e => (by cases e)) ((hgrow h1 h2).perm ?_) (I.below.trans (h1.mono I.below.size)) (I.marks.below h1)
        (fun deps R deps' R' d' e hd' => ?_) (fun d e => (by cases e)) (fun t ht _ => hB2 t fun e => ht deps R deps' R' rfl (by rw [e]; exact hd))) hcnt
      · rw [← List.append_assoc]; exact hp.append_right _
      · cases e; rw [hd] at hd'; cases hd'; rw [hB1]; exact hR
    | st d =>
      obtain ⟨hd0, hg0, ⟨hdS, hlk⟩, ⟨u, hu, hus, hud0, hdp, hst⟩, hno⟩ := hob
      have hwant : Region.wanted o (yielded ops a.tmps) = true := by unfold Region.wanted; rw [hg0]
      rw [if_pos hwant]
      refine ⟨fun f _ => hF.fn f, ?_⟩
      rw [semAt_of (h.ps.ndef i o ho), I.rep.eval]
      have hil : i ≤ ops.size := Nat.le_of_lt hlt
      have huT : u ∈ UAt ops.toList sps us0 ops.size := h.up hil hu
      have hpr : Pres ops us0 listed u.slot := by
        rcases UAt_mem hu with hu0 | ⟨j, oj, hj, hoj, _, hdj⟩
        · exact .inl ⟨u, hu0, rfl⟩
        · rw [h.listGet] at hoj
          exact .inr ⟨j, oj, hpre j (h.ps.before i j o oj u.slot ho hoj hdj (by rw [hus]; exact looks_of hlk hoj (by rw [hdj, hus])) hj), hoj, hdj⟩
      have hRu := (I.opn u huT hpr).2 fun ⟨k, hk, hsk⟩ => hni (by rw [h.st1 i k d hs (by rw [← hus]; exact hsk)]; exact hk)
      have hX := flatMap_front (Bs := Bs) huT (h.slots_nodup ops.size (Nat.le_refl _))
      have hm : HOk C.w0.heap.size w (Bs u.slot ++ (((UAt ops.toList sps us0 ops.size).filter fun x => x.slot != u.slot).flatMap (fun u => Bs u.slot) ++ H0)) := I.mem.perm (by rw [← List.append_assoc]; exact (hX.append_right H0).symm)
      have hsubT : (selL (o.looksAt ops) ((UAt ops.toList sps us0 i).filter fun x => x.slot != d)).Sublist ((UAt ops.toList sps us0 ops.size).filter fun x => x.slot != u.slot) := by
        refine (selL_sub _ _).trans ?_
        rw [hus]
        obtain ⟨pre, hp⟩ := UAt_suffix (ops := ops.toList) (sps := sps) (us0 := us0) i (ops.size - i)
        rw [show i + (ops.size - i) = ops.size by omega] at hp
        rw [hp, List.filter_append]; exact List.sublist_append_right _ _
      have hSt : St C (Bs u.slot ++ selH Bs (selL (o.looksAt ops) ((UAt ops.toList sps us0 i).filter fun x => x.slot != d)) H0) w :=
        ⟨I.below, hm.sub (List.Sublist.append_left (List.Sublist.append_right (selH_ok.flatMap_sub _ hsubT) _) _), I.marks⟩
      obtain ⟨hcu, hcu'⟩ := h.dep_cong huT
      rw [hud0] at hcu
      have hst := Over_use (ea := ea) (Bs := Bs) hst (DepsOk_filter (h.depsOk i hil) (h.no_dep hdS i hil)) (h.openedF I ho hpre hno)
      obtain ⟨w', Hn', hrun', hsw, hR'⟩ := hst _ _ (hcu ea _ (fun t ht => (by cases ht)) _ _ hRu) w hSt
      have hin : ∀ u' ∈ UAt ops.toList sps us0 i, u'.slot ≠ d → u'.slot ∈ o.looksAt ops → selE ea (selL (o.looksAt ops) ((UAt ops.toList sps us0 i).filter fun x => x.slot != d)) (EAt ops.toList sps e0 i) u'.slot = ea u'.slot := fun u' hu' hne hl =>
        selE_in (selL_mem hl ⟨u', List.mem_filter.2 ⟨hu', by simp [hne]⟩, rfl⟩)
      rw [exec_congr (ops := ops) (e' := ea) (h.ps.sel i o ho) fun t ht => ?_] at hrun'
      · rw [hrun']
        let Bs' : Nat → List Blk := fun t => if t = d then Hn' else Bs t
        have hB1 : Bs' d = Hn' := if_pos rfl
        have hB2 : ∀ t, t ≠ d → Bs' t = Bs t := fun t ht => if_neg ht
        have hp := flatMap_front (Bs := Bs') huT (h.slots_nodup ops.size (Nat.le_refl _))
        rw [hus, flatMap_other hB2, hB1] at hp
        have hupd : updo ea o.dst undef = ea := by rw [hd0]; rfl
        rw [hus] at hsw hm
        refine ih _ _ _ (updo ea o.dst undef) Bs' (h.more I ho hs hni hpre undef (fun c e => (by cases e)) (fun e => (by cases e)) ((swap_ok hsw hm).perm ?_) (swap_below hsw hm I.below) (swap_marks hsw hm I.marks)
          (fun deps R deps' R' d e => (by cases e)) (fun d' e u' hu' he => ?_) (fun t _ ht => hB2 t fun e => ht (by rw [e]))) hcnt
        · rw [← List.append_assoc]
          exact List.Perm.append_right _ hp
        · cases e
          have := h.slot_inj hu' huT (by rw [he, hus])
          subst this
          rw [hB1, ← hus, hupd]
          refine hcu' _ _ (fun t ht => ?_) _ _ hR'
          obtain ⟨hl, hne, x, hx, rfl⟩ := hdp t ht
          exact hin x hx hne hl
      · by_cases htd : t = u.slot
        · subst htd; exact upd_same ..
        · rw [upd_ne _ _ htd]
          by_cases hex : ∃ u' ∈ UAt ops.toList sps us0 i, u'.slot = t
          · obtain ⟨u', hu', rfl⟩ := hex
            exact hin u' hu' (by rw [← hus]; exact htd) ht
          · exact selE_same (h.agree I ho hni hpre ht fun u' hu' he => hex ⟨u', hu', he⟩).symm

/-- A block of the call's own that the region stores into: its number, what it holds, what it holds then. The slot is one that no operation names. -/
structure Pre where
  slot : Nat
  b : Nat
  o : Obj
  deps' : List Nat
  R' : Env → Value → List Blk → Prop
  cong : Cong deps' R'
def Pre.un (p : Pre) : Un := ⟨p.slot, [], fun _ _ Hn => Hn = [(p.b, p.o)], p.deps', p.R'⟩

theorem draw_any {e : Env} {H : List Blk} (hF : Wide F) (pres : List Pre) (S : List Nat)
    (hH : ∀ w, St C H w → St C (pres.map (fun p => (p.b, p.o)) ++ H0) w) (hph : phased ops (pres.map (·.slot)) = true) (hdk : (ops.all fun o => dOk n o.dst && gOk n ops o) = true)
    (hsub : (pres.all fun p => S.contains p.slot) = true) (hnd : (pres.map (·.slot)).Nodup)
    (hp : PW C ops S (fun us e => OverAll (fun e H => Q .normal e H) (fun _ => True) us e H0) H0 ops.toList [] (pres.map Pre.un) e) : (∀ w, St C H w → ∀ a, Rep n ds a e → wpAnyIn F 0 C.P .any ops (lift C n ds Q) ops.size (Array.replicate ops.size false) a w.drew) := fun w hw a ha => by
  obtain ⟨sps, h1, h2, h3, _, h5, h6⟩ := PW_specs hp
  have hslots : (pres.map Pre.un).map (·.slot) = pres.map (·.slot) := by rw [List.map_map]; rfl
  have hyp : Hyp C n ops sps e (pres.map Pre.un) S H0 := by
    refine ⟨by rw [hslots]; exact phased_spec hph, fun i o ho => ?_, by rw [h1, Array.length_toList], fun i o sp ho hs => h2 i o sp (by rw [Array.getElem?_toList]; exact ho) hs, h3,
      fun d hd => (h5 d hd).resolve_left (by simp), by rw [hslots]; exact hnd, fun u hu => ?_⟩
    rotate_left
    · obtain ⟨p, _, rfl⟩ := List.mem_map.1 hu
      exact ⟨rfl, fun _ _ _ _ _ h => h, p.cong⟩
    rw [Array.all_eq_true] at hdk
    have := hdk i (Array.getElem?_eq_some_iff.1 ho).1
    rw [(Array.getElem?_eq_some_iff.1 ho).2] at this
    simpa using this
  have hS : HypS (pres.map Pre.un) S := ⟨fun u hu => by
    obtain ⟨p, hp, rfl⟩ := List.mem_map.1 hu
    have := List.all_eq_true.1 hsub p hp
    simpa [Pre.un] using this⟩
  let Bs : Nat → List Blk := fun t => match pres.find? (fun p => p.slot == t) with | some p => [(p.b, p.o)] | none => []
  have hBs : ∀ p ∈ pres, Bs p.slot = [(p.b, p.o)] := fun p hpm => by
    have : pres.find? (fun q => q.slot == p.slot) = some p := by
      clear hp h2 h6 hyp hS hH hph hdk hsub hslots h3 h5 h1
      induction pres with
      | nil => cases hpm
      | cons q l ih =>
        simp only [List.map_cons, List.nodup_cons] at hnd
        rcases List.mem_cons.1 hpm with rfl | hpm
        · simp
        · rw [List.find?_cons_of_neg, ih hnd.2 hpm]
          simp only [beq_iff_eq]
          exact fun he => hnd.1 (List.mem_map.2 ⟨p, hpm, he.symm⟩)
    simp only [Bs, this]
  have hB0 : ∀ t, (∀ p ∈ pres, p.slot ≠ t) → Bs t = [] := fun t ht => by
    have : pres.find? (fun q => q.slot == t) = none := List.find?_eq_none.2 fun p hpm => by simp [ht p hpm]
    simp only [Bs, this]
  have hw' := (hH w hw).drew
  have hTmem : ∀ u ∈ UAt ops.toList sps (pres.map Pre.un) ops.size, ¬ Pres ops (pres.map Pre.un) (Array.replicate ops.size false) u.slot → Bs u.slot = [] := fun u _ hnp =>
    hB0 _ fun p hpm he => hnp (.inl ⟨p.un, List.mem_map.2 ⟨p, hpm, rfl⟩, he⟩)
  have hnl : ∀ i, ¬ Lst (Array.replicate ops.size false) i := fun i hl => by
    unfold Lst at hl
    rw [Array.getD_eq_getD_getElem?, Array.getElem?_replicate] at hl
    split at hl <;> cases hl
  have hmemT : HOk C.w0.heap.size w.drew ((UAt ops.toList sps (pres.map Pre.un) ops.size).flatMap (fun u => Bs u.slot) ++ H0) := by
    have hkey : ∀ i, i ≤ ops.size → (UAt ops.toList sps (pres.map Pre.un) i).flatMap (fun u => Bs u.slot) = pres.map (fun p => (p.b, p.o)) := by
      intro i
      induction i with
      | zero =>
        intro _
        show (pres.map Pre.un).flatMap _ = _
        have : ∀ l : List Pre, (∀ p ∈ l, Bs p.slot = [(p.b, p.o)]) → (l.map Pre.un).flatMap (fun u => Bs u.slot) = l.map (fun p => (p.b, p.o)) := by
          intro l
          induction l with
          | nil => intro _; rfl
          | cons p l ih =>
            intro hl
            rw [List.map_cons, List.flatMap_cons, ih fun q hq => hl q (List.mem_cons_of_mem _ hq), List.map_cons]
            show Bs p.slot ++ _ = _
            rw [hl p (List.mem_cons_self ..)]; rfl
        exact this pres hBs
      | succ i ih =>
        intro hi
        have ih := ih (by omega)
        have ho : ops[i]? = some ops[i] := Array.getElem?_eq_getElem (by omega)
        have hs : sps[i]? = some (sps[i]'(by rw [hyp.len]; omega)) := List.getElem?_eq_getElem _
        simp only [UAt, hyp.listGet, ho, hs]
        unfold nextU
        split
        · rename_i deps R deps' R' d _ hd
          rw [List.flatMap_cons, ih]
          show Bs d ++ _ = _
          rw [hB0 d fun p hpm he => hyp.ps.us0 i _ d ho hd (by rw [hslots]; exact List.mem_map.2 ⟨p, hpm, he⟩)]
          rfl
        · exact ih
    rw [hkey ops.size (Nat.le_refl _)]
    exact hw'.2
  refine hyp.run hF hS (by rw [Array.length_toList] at h6; exact h6) ops.size _ a w.drew e Bs ⟨ha, by simp, fun j k hj => absurd hj (hnl j), fun i o c d hi => absurd hi (hnl i), fun i o d hi => absurd hi (hnl i), fun u hu hpr => ?_, hTmem, fun t _ => rfl, hmemT, hw'.1, hw'.3⟩ ?_
  · refine ⟨fun ⟨k, hk, _⟩ => absurd hk (hnl k), fun _ => ?_⟩
    rcases hpr with ⟨u0, hu0, he⟩ | ⟨i, o, hi, _⟩
    · have huu := hyp.slot_inj hu (mem_UAt0 hu0 _) he.symm
      subst huu
      obtain ⟨p, hpm, rfl⟩ := List.mem_map.1 hu0
      exact hBs p hpm
    · exact absurd hi (hnl i)
  · refine Nat.le_trans List.countP_le_length ?_
    rw [List.length_range]; exact Nat.le_refl _
theorem W_draw {id : Nat} {e : Env} {H : List Blk} (hF : Wide F) (hm : C.P.follows .mixedOrders = true) (pres : List Pre) (S : List Nat)
    (hH : ∀ N w, HOk N w H → HOk N w (pres.map (fun p => (p.b, p.o)) ++ H0)) (hph : phased ops (pres.map (·.slot)) = true) (hdk : (ops.all fun o => dOk n o.dst && gOk n ops o) = true)
    (hsub : (pres.all fun p => S.contains p.slot) = true) (hnd : (pres.map (·.slot)).Nodup)
    (hp : ∀ ds, PW (C.at ds) ops S (fun us e => OverAll (fun e H => Q .normal e H) (fun _ => True) us e H0) H0 ops.toList [] (pres.map Pre.un) e) : W C F n ds (.region id ops true) Q e H := fun dd w hw a ha =>
  wpIn_mono (wpIn_region_any hm (draw_any (C := C.at dd) (ds := dd) hF pres S (fun _ hw => ⟨hw.1, hH _ _ hw.2, hw.3⟩) hph hdk hsub hnd (hp dd) w hw a ha)) fun _ _ _ h => lift_M h
end
end Go.Eng

/- What each kind of operation yields. No project text. -/
namespace Go.Eng
open Go.RowKit

/-- A block of plain cells. -/
def CB (vs : List Value) (T : TypeId) : Obj := .cells vs.toArray T (0, 0)

def I64 (x : Int) : Prop := -9223372036854775808 ≤ x ∧ x ≤ 9223372036854775807

def At (w : World) (b o : Nat) : List Value → Prop
  | [] => True
  | v :: vs => w.cell? ⟨b, o, none⟩ = some v ∧ At w b (o + 1) vs
def Mem (C : Ctx) (H : List Blk) (b o : Nat) (us : List Value) : Prop := ∀ w, St C H w → At w b o us

theorem at_block {w : World} {b : Nat} {vs : List Value} {T : TypeId} (h : w.heap[b]? = some (CB vs T)) : ∀ {us : List Value} {o : Nat} {rest : List Value}, vs.drop o = us ++ rest → At w b o us
  | [], _, _, _ => trivial
  | u :: us, o, rest, hd => by
    have hg : vs[o]? = some u := by
      have := congrArg (fun l => l[0]?) hd
      simpa using this
    have hd' : vs.drop (o + 1) = us ++ rest := by
      have := congrArg (fun l => l.drop 1) hd
      simpa [List.drop_drop, Nat.add_comm 1 o] using this
    refine ⟨?_, at_block h hd'⟩
    unfold World.cell?
    simp only [h, CB]
    simpa using hg
theorem Mem.own {C : Ctx} {H : List Blk} {b o : Nat} {vs us rest : List Value} {T : TypeId} (i : Nat) (hi : H[i]? = some (b, CB vs T)) (hd : vs.drop o = us ++ rest) : Mem C H b o us :=
  fun _ hw => at_block (hw.get hi) hd
theorem Mem.own1 {C : Ctx} {H : List Blk} {b o : Nat} {vs : List Value} {u : Value} {T : TypeId} (i : Nat) (hi : H[i]? = some (b, CB vs T)) (hd : vs[o]? = some u) : Mem C H b o [u] :=
  fun w hw => ⟨by unfold World.cell?; simp only [hw.get hi, CB]; simpa using hd, trivial⟩
theorem At.old {w w' : World} {b : Nat} (hb : Below w.heap.size w w') : ∀ {us : List Value} {o : Nat}, At w b o us → At w' b o us
  | [], _, _ => trivial
  | _ :: _, _, h => ⟨(hb.cell (p := ⟨b, _, none⟩) (World.block_lt_of_cell? _ _ h.1)).trans h.1, At.old hb h.2⟩
theorem Mem.old {C : Ctx} {H : List Blk} {b o : Nat} {us : List Value} (h : At C.w0 b o us) : Mem C H b o us := fun _ hw => At.old hw.1 h
theorem Mem.old1 {C : Ctx} {H : List Blk} {b o : Nat} {u : Value} (h : C.w0.cell? ⟨b, o, none⟩ = some u) : Mem C H b o [u] := Mem.old ⟨h, trivial⟩

section
variable {C : Ctx} {e : Env} {H : List Blk} {d : Option Tmp} {ty : TypeId} {pos : String} {af : Array Edge} {g : Option (Nat × Bool)}

def YD (C : Ctx) (o : Oper) (e : Env) (H : List Blk) (c : Value) : Prop := YR C o e H fun v _ => v = c

theorem yd_of {o : Oper} {c : Value} (h : ∀ w, St C H w → (execOp (ev e) o).run C.P w = .ok (.value c) w) : YD C o e H c := fun w hw => by
  rw [h w hw]; exact ⟨[], Below.refl _ _, HOk.nil _ _, rfl⟩

theorem YR.mono {o : Oper} {R R' : Value → List Blk → Prop} (h : YR C o e H R) (hr : ∀ v Hn, R v Hn → R' v Hn) : YR C o e H R' := fun w hw => by
  have := h w hw
  generalize (execOp (ev e) o).run C.P w = r at *
  cases r with
  | ok x w' =>
    cases x <;> simp only [OutRes] at this ⊢
    case value v => obtain ⟨Hn, h1, h2, h3⟩ := this; exact ⟨Hn, h1, h2, hr _ _ h3⟩
    case skip => obtain ⟨Hn, h1, h2, h3⟩ := this; exact ⟨Hn, h1, h2, hr _ _ h3⟩
    case enter f args =>
      refine ⟨this.1, Calls.mono this.2 ?_⟩
      rintro en w'' ⟨v, he, Hn, h1, h2, h3⟩
      exact ⟨v, he, Hn, h1, h2, hr _ _ h3⟩
  | halt => exact this

/-! #### Moves -/
theorem y_move {x : Operand} {c : Value} (h : ev e x = c) : YD C ⟨d, .move x, ty, pos, af, g⟩ e H c := yd_of fun w _ => by simp [execOp, h]
theorem y_assign {x : Operand} {c : Value} (h : ev e x = c) : YD C ⟨d, .assign x, ty, pos, af, g⟩ e H c := yd_of fun w _ => by simp [execOp, h]
theorem y_pick_t {x y z : Operand} {c : Value} (hx : ev e x = .bool true) (h : ev e y = c) : YD C ⟨d, .pick x y z, ty, pos, af, g⟩ e H c := yd_of fun w _ => by simp [execOp, hx, h, asBool]
theorem y_pick_f {x y z : Operand} {c : Value} (hx : ev e x = .bool false) (h : ev e z = c) : YD C ⟨d, .pick x y z, ty, pos, af, g⟩ e H c := yd_of fun w _ => by simp [execOp, hx, h, asBool]

/-! #### Numbers -/
section
variable {x y : Operand} {t t' : TypeId} {m n : Int} {k : IntKind}
theorem wrapI {x : Int} (h : I64 x) : IntKind.i64.wrap x = x := IntWalk.i64_in x (by unfold I64 at h; omega)
theorem y_add (hx : ev e x = .int .i64 m) (hy : ev e y = .int .i64 n) (h : I64 (m + n)) : YD C ⟨d, .binOp .add t x y t', ty, pos, af, g⟩ e H (.int .i64 (m + n)) :=
  yd_of fun w _ => by simp [execOp, hx, hy, eqGuard, binOp, Op.intArith, wrapI h]
theorem y_sub (hx : ev e x = .int .i64 m) (hy : ev e y = .int .i64 n) (h : I64 (m - n)) : YD C ⟨d, .binOp .sub t x y t', ty, pos, af, g⟩ e H (.int .i64 (m - n)) :=
  yd_of fun w _ => by simp [execOp, hx, hy, eqGuard, binOp, Op.intArith, wrapI h]
theorem y_lss (hx : ev e x = .int k m) (hy : ev e y = .int k n) : YD C ⟨d, .binOp .lss t x y t', ty, pos, af, g⟩ e H (.bool (decide (m < n))) :=
  yd_of fun w _ => by simp [execOp, hx, hy, eqGuard, binOp, Op.intCmp]
theorem y_leq (hx : ev e x = .int k m) (hy : ev e y = .int k n) : YD C ⟨d, .binOp .leq t x y t', ty, pos, af, g⟩ e H (.bool (decide (m ≤ n))) :=
  yd_of fun w _ => by simp [execOp, hx, hy, eqGuard, binOp, Op.intCmp]
theorem y_gtr (hx : ev e x = .int k m) (hy : ev e y = .int k n) : YD C ⟨d, .binOp .gtr t x y t', ty, pos, af, g⟩ e H (.bool (decide (n < m))) :=
  yd_of fun w _ => by simp [execOp, hx, hy, eqGuard, binOp, Op.intCmp]
theorem y_geq (hx : ev e x = .int k m) (hy : ev e y = .int k n) : YD C ⟨d, .binOp .geq t x y t', ty, pos, af, g⟩ e H (.bool (decide (n ≤ m))) :=
  yd_of fun w _ => by simp [execOp, hx, hy, eqGuard, binOp, Op.intCmp]
theorem y_eql (hx : ev e x = .int k m) (hy : ev e y = .int k n) : YD C ⟨d, .binOp .eql t x y t', ty, pos, af, g⟩ e H (.bool (decide (m = n))) :=
  yd_of fun w _ => by
    have : (m == n) = decide (m = n) := by by_cases h : m = n <;> simp [h]
    simp [execOp, hx, hy, eqGuard, binOp, Op.intCmp, this]
theorem y_neq (hx : ev e x = .int k m) (hy : ev e y = .int k n) : YD C ⟨d, .binOp .neq t x y t', ty, pos, af, g⟩ e H (.bool (decide (m ≠ n))) :=
  yd_of fun w _ => by
    have : (m != n) = decide (m ≠ n) := by by_cases h : m = n <;> simp [h]
    simp [execOp, hx, hy, eqGuard, binOp, Op.intCmp, this]
theorem y_not {b : Bool} (hx : ev e x = .bool b) : YD C ⟨d, .unOp .not t x, ty, pos, af, g⟩ e H (.bool (!b)) :=
  yd_of fun w _ => by simp [execOp, hx, Op.unary]
theorem y_min {ats : Array TypeId} (hx : ev e x = .int k m) (hy : ev e y = .int k n) : YD C ⟨d, .call ⟨.builtin .min, #[x, y], ats⟩, ty, pos, af, g⟩ e H (.int k (min m n)) :=
  yd_of fun w _ => by
    have h : (if n < m then n else m) = min m n := by omega
    simp [execOp, resolve, invoke, builtin, Builtin.min_, Builtin.min2, hx, hy, h]
end

/-! #### Tuples, functions, nil -/
theorem y_extract {x : Operand} {i : Nat} {vs : Array Value} {c : Value} (hx : ev e x = .tuple vs) (hi : vs[i]? = some c) : YD C ⟨d, .extract x i, ty, pos, af, g⟩ e H c :=
  yd_of fun w _ => by simp [execOp, hx, Instr.extract, hi]
theorem y_makeFunc {fn : Fn} {first captured : Array Operand} {a b : Array Value} (ha : first.map (ev e) = a) (hb : captured.map (ev e) = b) : YD C ⟨d, .makeFunc fn first captured, ty, pos, af, g⟩ e H (.func fn a b) :=
  yd_of fun w _ => by simp [execOp, ha, hb, Instr.makeFunc]

/-! #### Memory -/
theorem out_new {w : World} {o : Obj} {R : Value → List Blk → Prop} {v : Value} (hk : o ≠ .deferred (some [])) (h : R v [(w.heap.size, o)]) : Out R v w (w.alloc o) := by
  refine ⟨[(w.heap.size, o)], (Below.refl _ _).alloc (Nat.le_refl _) _, ⟨fun x hx => ?_, by simp, fun x hx => ?_⟩, h⟩
  · simp only [List.mem_singleton] at hx
    subst hx
    exact ⟨Nat.le_refl _, heap_alloc_new w _⟩
  · simp only [List.mem_singleton] at hx
    subst hx
    exact hk

def NewPtr (o : Obj) (v : Value) (Hn : List Blk) : Prop := ∃ b, v = .pointer (some ⟨b, 0, none⟩) ∧ Hn = [(b, o)]
theorem y_box {x : Operand} {T : TypeId} {vs : List Value} (hx : (ev e x).cells = vs.toArray) : YR C ⟨d, .box T x, ty, pos, af, g⟩ e H (NewPtr (CB vs T)) := fun w _ => by
  have : (execOp (ev e) ⟨d, .box T x, ty, pos, af, g⟩).run C.P w = .ok (.value (.pointer (some ⟨w.heap.size, 0, none⟩))) (w.alloc (CB vs T)) := by
    simp [execOp, Instr.box, newVar, newRow, newObj, hx, CB]; rfl
  rw [this]; exact out_new (fun h => by cases h) ⟨_, rfl, rfl⟩
theorem y_alloc {T : TypeId} {z : Value} {vs : List Value} (hz : ∀ w, (zeroValue T).run C.P w = .ok z w) (hc : z.cells = vs.toArray) : YR C ⟨d, .alloc T, ty, pos, af, g⟩ e H (NewPtr (CB vs T)) := fun w _ => by
  have : (execOp (ev e) ⟨d, .alloc T, ty, pos, af, g⟩).run C.P w = .ok (.value (.pointer (some ⟨w.heap.size, 0, none⟩))) (w.alloc (CB vs T)) := by
    simp [execOp, Instr.alloc, hz, newVar, newRow, newObj, hc, CB]; rfl
  rw [this]; exact out_new (fun h => by cases h) ⟨_, rfl, rfl⟩
theorem y_build {T : TypeId} {parts : Array (Nat × Operand)} {ps : Array (Nat × Value)} {c : Value} (hp : parts.map (fun x => (x.1, ev e x.2)) = ps) (hb : ∀ w, (Instr.build T ps).run C.P w = .ok c w) :
    YD C ⟨d, .build T parts, ty, pos, af, g⟩ e H c := yd_of fun w _ => by simp [execOp, hp, hb]
def NewSlice (o : Obj) (n : Nat) (v : Value) (Hn : List Blk) : Prop := ∃ b, v = .slice (some ⟨b, 0, none⟩) n n ∧ Hn = [(b, o)]
theorem y_buildSlice {T E : TypeId} {n : Nat} {parts : Array (Nat × Operand)} {ps : Array (Nat × Value)} {vs : List Value} (hp : parts.map (fun x => (x.1, ev e x.2)) = ps)
    (hb : ∀ w, (Instr.buildSlice T n ps).run C.P w = .ok (.slice (some ⟨w.heap.size, 0, none⟩) n n) (w.alloc (CB vs E))) :
    YR C ⟨d, .buildSlice T n parts, ty, pos, af, g⟩ e H (NewSlice (CB vs E) n) := fun w _ => by
  have : (execOp (ev e) ⟨d, .buildSlice T n parts, ty, pos, af, g⟩).run C.P w = .ok (.value (.slice (some ⟨w.heap.size, 0, none⟩) n n)) (w.alloc (CB vs E)) := by simp [execOp, hp, hb]
  rw [this]; exact out_new (fun h => by cases h) ⟨_, rfl, rfl⟩

theorem run_load1 {P : Program} {w : World} {a : Addr} {v : Value} (h : w.cell? a = some v) : (load a).run P w = .ok v w := by simp [load, Sem.run, h]
theorem run_loads {P : Program} {w : World} {b o : Nat} : ∀ {us : List Value} {i : Nat} {acc : Array Value}, At w b (o + i) us → (loadCellsFrom ⟨b, o, none⟩ i us.length acc).run P w = .ok (acc ++ us.toArray) w
  | [], i, acc, _ => by simp [loadCellsFrom]
  | u :: us, i, acc, h => by
    have ha : (⟨b, o, none⟩ : Addr).add i = ⟨b, o + i, none⟩ := by unfold Addr.add; split <;> simp_all
    have ih := run_loads (P := P) (us := us) (i := i + 1) (acc := acc.push u) (by rw [← Nat.add_assoc]; exact h.2)
    simp only [List.length_cons, loadCellsFrom, ha]
    simp [run_load1 h.1, ih]
theorem y_load1 {x : Operand} {T : TypeId} {b o : Nat} {v : Value} (hx : ev e x = .pointer (some ⟨b, o, none⟩)) (hT : ∀ w, (isAgg T).run C.P w = .ok false w) (hm : Mem C H b o [v]) :
    YD C ⟨d, .load T x, ty, pos, af, g⟩ e H v := yd_of fun w hw => by
  have := (hm w hw).1
  simp [execOp, hx, Instr.loadAt, Instr.sureAddr, loadVar, hT, this]
theorem y_loadN {x : Operand} {T : TypeId} {b o n : Nat} {us : List Value} (hx : ev e x = .pointer (some ⟨b, o, none⟩)) (hT : ∀ w, (isAgg T).run C.P w = .ok true w) (hs : ∀ w, (sizeOf T).run C.P w = .ok n w)
    (hm : Mem C H b o us) (hn : us.length = n) : YD C ⟨d, .load T x, ty, pos, af, g⟩ e H (.agg us.toArray) := yd_of fun w hw => by
  subst hn
  have := run_loads (P := C.P) (i := 0) (acc := #[]) (by simpa using hm w hw)
  simp [execOp, hx, Instr.loadAt, Instr.sureAddr, loadVar, hT, hs, loadCells, this]
theorem y_fieldAddr {x : Operand} {T : TypeId} {f b o o' : Nat} (hx : ev e x = .pointer (some ⟨b, o, none⟩)) (hf : ∀ b o w, (Instr.fieldAt T (.pointer (some ⟨b, o, none⟩)) f).run C.P w = .ok (.pointer (some ⟨b, o + o', none⟩)) w) :
    YD C ⟨d, .fieldAddr T x f, ty, pos, af, g⟩ e H (.pointer (some ⟨b, o + o', none⟩)) := yd_of fun w _ => by simp [execOp, hx, hf]
theorem y_index {x i : Operand} {T E : TypeId} {b o len cap sz k : Nat} {n : Int} {kk : IntKind} (hx : ev e x = .slice (some ⟨b, o, none⟩) len cap) (hi : ev e i = .int kk n) (hn : n = (k : Int)) (hk : k < len)
    (hT : ∀ w, (underlying T).run C.P w = .ok (.slice E) w) (hE : ∀ w, (sizeOf E).run C.P w = .ok sz w) : YD C ⟨d, .indexAddr T x i, ty, pos, af, g⟩ e H (.pointer (some ⟨b, o + k * sz, none⟩)) := yd_of fun w _ => by
  subst hn
  have h3 : (⟨b, o, none⟩ : Addr).add (k * sz) = ⟨b, o + k * sz, none⟩ := by unfold Addr.add; split <;> simp_all
  simp [execOp, hx, hi, Instr.indexAt, asIntOf, hT, hE, h3]
  exact fun h => absurd h (by omega)
theorem y_indexA {x i : Operand} {T E : TypeId} {b o len sz k : Nat} {n : Int} {kk : IntKind} (hx : ev e x = .pointer (some ⟨b, o, none⟩)) (hi : ev e i = .int kk n) (hn : n = (k : Int)) (hk : k < len)
    (hT : ∀ w, (underlying T).run C.P w = .ok (.array len E) w) (hE : ∀ w, (sizeOf E).run C.P w = .ok sz w) : YD C ⟨d, .indexAddr T x i, ty, pos, af, g⟩ e H (.pointer (some ⟨b, o + k * sz, none⟩)) := yd_of fun w _ => by
  subst hn
  have h3 : (⟨b, o, none⟩ : Addr).add (k * sz) = ⟨b, o + k * sz, none⟩ := by unfold Addr.add; split <;> simp_all
  simp [execOp, hx, hi, Instr.indexAt, Instr.sureAddr, asIntOf, hT, hE, h3]
  exact fun h => absurd h (by omega)
theorem y_len {x : Operand} {T E : TypeId} {a : Option Addr} {len cap : Nat} (hx : ev e x = .slice a len cap) (hT : ∀ w, (underlying T).run C.P w = .ok (.slice E) w) :
    YD C ⟨d, .call ⟨.builtin .len, #[x], #[T]⟩, ty, pos, af, g⟩ e H (.int .i64 len) := yd_of fun w _ => by
  simp [execOp, resolve, invoke, builtin, Builtin.len_, hx, hT, goInt]

/-! #### Calls -/
theorem y_call {x : Operand} {args : Array Operand} {ats : Array TypeId} {f : FuncId} {first captured vs : Array Value} {R : Value → List Blk → Prop} (hx : ev e x = .func (.func f) first captured)
    (ha : first ++ args.map (ev e) ++ captured = vs) (hc : ∀ args w, (callFunc f args).run C.P w = .ok (.enter f args) w) (hR : ∀ w, St C H w → Ct C.P f vs w R) :
    YR C ⟨d, .call ⟨.value x, args, ats⟩, ty, pos, af, g⟩ e H R := fun w hw => by
  have : (execOp (ev e) ⟨d, .call ⟨.value x, args, ats⟩, ty, pos, af, g⟩).run C.P w = .ok (.enter f vs) w := by
    simp only [execOp, resolve, hx, Deferred.ofValue]
    simp [invoke, ha, hc]
  rw [this]
  exact ⟨rfl, hR w hw⟩
end
end Go.Eng

/- Stores, results, a function's entry, and the walk of a region whose order is open. No project text. -/
namespace Go.Eng
open Go.RowKit

def splice (vs : List Value) (o : Nat) (us : List Value) : List Value := vs.take o ++ us ++ vs.drop (o + us.length)
theorem length_splice {vs us : List Value} {o : Nat} (h : o + us.length ≤ vs.length) : (splice vs o us).length = vs.length := by
  simp [splice]; omega

section
variable {C : Ctx} {F : Fence} {n : Nat} {ds : List Deferred} {all : Array Oper} {Q : Exit → Env → List Blk → Prop} {rest : List Oper} {e : Env} {H : List Blk}
variable {d : Option Tmp} {ty : TypeId} {pos : String} {af : Array Edge} {g : Option (Nat × Bool)}

theorem run_store {x v : Operand} {T Tb : TypeId} {b off k : Nat} {vs us : List Value} {w : World} (hp : ev e x = .pointer (some ⟨b, off, none⟩)) (hv : (ev e v).cells = us.toArray) (hs : ∀ w, (sizeOf T).run C.P w = .ok k w)
    (hl : us.length = k) (hone : us.all Value.oneCell' = true) (hfit : off + us.length ≤ vs.length) (hb : w.heap[b]? = some (CB vs Tb)) :
    (execOp (ev e) ⟨d, .store T x v, ty, pos, af, g⟩).run C.P w = .ok .skip (w.setRow b (splice vs off us).toArray) := by
  subst hl
  have h := run_storeCells_at (P := C.P) b off Tb us 0 vs.toArray w hb (by simpa using hfit) (fun v hv => List.all_eq_true.1 hone v hv)
  simp only [Nat.add_zero] at h
  have h' : (storeCells ⟨b, off, none⟩ us).run C.P w = .ok () (w.setRow b (splice vs off us).toArray) := h
  simp [execOp, Instr.storeAt, Instr.sureAddr, storeVar, hp, hv, hs, h']
theorem setRow_CB {w : World} {b : Nat} {vs vs' : List Value} {T : TypeId} (hb : w.heap[b]? = some (CB vs T)) : (w.setRow b vs'.toArray).heap[b]? = some (CB vs' T) := setRow_heap w b _ _ _ _ hb
theorem swap_setRow {w : World} {b : Nat} {vs vs' : List Value} {T : TypeId} (hb : w.heap[b]? = some (CB vs T)) : Swap [(b, CB vs T)] [(b, CB vs' T)] w (w.setRow b vs'.toArray) :=
  ⟨rfl, rfl, rfl, rfl, size_setRow .., fun k hk => setRow_other _ _ _ _ (by simpa using hk), fun x hx => by
    simp only [List.mem_singleton] at hx
    subst hx
    exact setRow_CB hb, fun x hx h => by
    simp only [List.mem_singleton] at hx
    subst hx
    cases h⟩

theorem perm_erase {x : Blk} : ∀ {H : List Blk} {i : Nat}, H[i]? = some x → H.Perm (x :: H.eraseIdx i)
  | [], _, h => by simp at h
  | y :: H, 0, h => by
    simp only [List.getElem?_cons_zero, Option.some.injEq] at h
    subst h
    exact List.Perm.refl _
  | y :: H, i + 1, h => by
    have ih := perm_erase (H := H) (i := i) (by simpa using h)
    rw [List.eraseIdx_cons_succ]
    exact (ih.cons y).trans (List.Perm.swap ..)
theorem perm_set {y : Blk} : ∀ {H : List Blk} {i : Nat}, i < H.length → (H.set i y).Perm (y :: H.eraseIdx i)
  | [], _, h => by simp at h
  | x :: H, 0, _ => List.Perm.refl _
  | x :: H, i + 1, h => by
    have ih := perm_set (y := y) (H := H) (i := i) (by simpa using h)
    rw [List.set_cons_succ, List.eraseIdx_cons_succ]
    exact (ih.cons x).trans (List.Perm.swap ..)
theorem St.set {C : Ctx} {H : List Blk} {w w' : World} {i b : Nat} {o o' : Obj} (hw : St C H w) (hi : H[i]? = some (b, o)) (hs : Swap [(b, o)] [(b, o')] w w') : St C (H.set i (b, o')) w' := by
  have hlt : i < H.length := (List.getElem?_eq_some_iff.1 hi).1
  have hp : H.Perm ((b, o) :: H.eraseIdx i) := perm_erase hi
  have hp' : (H.set i (b, o')).Perm ((b, o') :: H.eraseIdx i) := perm_set hlt
  have h1 := hw.2.perm hp.symm
  exact ⟨swap_below (X := H.eraseIdx i) (Hn := [(b, o)]) hs h1 hw.1, (swap_ok (X := H.eraseIdx i) (Hn := [(b, o)]) hs h1).perm hp', swap_marks (X := H.eraseIdx i) (Hn := [(b, o)]) hs h1 hw.3⟩

theorem WS_store (hF : Wide F) {x v : Operand} {T Tb : TypeId} {b off k i : Nat} {vs us : List Value} (hp : ev e x = .pointer (some ⟨b, off, none⟩)) (hv : (ev e v).cells = us.toArray)
    (hs : ∀ w, (sizeOf T).run C.P w = .ok k w) (hl : us.length = k) (hone : us.all Value.oneCell' = true) (hi : H[i]? = some (b, CB vs Tb)) (hfit : off + us.length ≤ vs.length)
    (hk : WS C F n ds all Q rest e (H.set i (b, CB (splice vs off us) Tb))) : WS C F n ds all Q (⟨none, .store T x v, ty, pos, af, none⟩ :: rest) e H := fun w hw a ha => by
  have hb := hw.get hi
  unfold wpListIn
  rw [if_pos (by rfl)]
  refine ⟨fun f _ => hF.fn f, ?_⟩
  rw [semAt_of rfl, ha.eval, run_store hp hv hs hl hone hfit hb]
  exact hk _ (hw.set hi (swap_setRow hb)) _ ha

/-! ### Results and entry -/
def LV (C : Ctx) (e : Env) (H : List Blk) (t : Tmp) (T : TypeId) (v : Value) : Prop := ∀ w, St C H w → ∃ a, e t = .pointer (some a) ∧ (loadVar T a).run C.P w = .ok v w
theorem lvN {t : Tmp} {T : TypeId} {b o n : Nat} {us : List Value} (hx : e t = .pointer (some ⟨b, o, none⟩)) (hT : ∀ w, (isAgg T).run C.P w = .ok true w) (hs : ∀ w, (sizeOf T).run C.P w = .ok n w)
    (hm : Mem C H b o us) (hn : us.length = n) : LV C e H t T (.agg us.toArray) := fun w hw => by
  subst hn
  have := run_loads (P := C.P) (i := 0) (acc := #[]) (by simpa using hm w hw)
  exact ⟨_, hx, by simp [loadVar, hT, hs, loadCells, this]⟩

def RVs (C : Ctx) (e : Env) (H : List Blk) : List ResultVar → List Value → Prop
  | [], [] => True
  | .tmp t :: rs, v :: vs => e t = v ∧ RVs C e H rs vs
  | .cell t T :: rs, v :: vs => LV C e H t T v ∧ RVs C e H rs vs
  | _, _ => False
def tupOf (vs : List Value) : Value := match vs with | [v] => v | vs => .tuple vs.toArray

theorem run_RVs {w : World} {f : ResultVar → Sem Value} (ht : ∀ t, f (.tmp t) = pure (e t)) (hc : ∀ a t, f (.cell a t) = (do loadVar t (← asAddr (e a)))) (hw : St C H w) :
    ∀ {rs : List ResultVar} {vs : List Value}, RVs C e H rs vs → (rs.mapM f).run C.P w = .ok vs w
  | [], [], _ => by simp
  | .tmp t :: rs, v :: vs, h => by
    have ih := run_RVs ht hc hw h.2
    have h1 := h.1
    subst h1
    rw [List.mapM_cons, ht]
    simp [ih]
  | .cell t T :: rs, v :: vs, h => by
    have ih := run_RVs ht hc hw h.2
    obtain ⟨a, ha, hr⟩ := h.1 w hw
    have hA : (asAddr (e t)).run C.P w = .ok a w := by rw [ha]; rfl
    rw [List.mapM_cons, hc]
    simp [ih, hA, hr]
  | [], _ :: _, h => h.elim
  | .tmp _ :: _, [], h => h.elim
  | .cell _ _ :: _, [], h => h.elim

theorem run_results' {w : World} {f : ResultVar → Sem Value} (ht : ∀ t, f (.tmp t) = pure (e t)) (hc : ∀ a t, f (.cell a t) = (do loadVar t (← asAddr (e a)))) (hw : St C H w) {rs : Array ResultVar} {vs : List Value}
    (h : RVs C e H rs.toList vs) : (do let vs ← rs.mapM f; pure (if h : vs.size = 1 then vs[0] else .tuple vs) : Sem Value).run C.P w = .ok (tupOf vs) w := by
  have h1 : (rs.mapM f).run C.P w = .ok vs.toArray w := by
    rw [Array.mapM_eq_mapM_toList]
    simp only [Sem.run_map, run_RVs ht hc hw h]
    rfl
  simp only [Sem.run_bind, h1]
  unfold tupOf
  split
  · rfl
  · rename_i hv
    simp only [Result.andThen, Sem.run_pure]
    rw [dif_neg]
    intro hl
    match vs, hl with
    | [v], _ => exact hv v rfl
theorem run_results {fn : Func} {tmps : Array Value} {w : World} {vs : List Value} (ht : ∀ t, tmps.getD t undef = e t) (hw : St C H w) (h : RVs C e H fn.results.toList vs) : (results fn tmps).run C.P w = .ok (tupOf vs) w := by
  unfold results
  exact run_results' (fun t => by simp only [ht]) (fun a t => by simp only [ht]) hw h

def HSub (H Hn : List Blk) : Prop := ∀ N w, HOk N w H → HOk N w Hn
theorem HSub.nil : HSub H [] := fun N w _ => HOk.nil N w
theorem HSub.refl : HSub H H := fun _ _ h => h
theorem HSub.sub {Hn : List Blk} (h : Hn.Sublist H) : HSub H Hn := fun _ _ h' => h'.sub h
theorem HSub.perm {Hn Hm : List Blk} (h : HSub H Hn) (p : Hm.Perm Hn) : HSub H Hm := fun N w h' => (h N w h').perm p

def Fin (C : Ctx) (fn : Func) (R : Value → List Blk → Prop) : Exit → Env → List Blk → Prop
  | .normal, e, H | .ret, e, H => ∃ vs Hn, RVs C e H fn.results.toList vs ∧ HSub H Hn ∧ R (tupOf vs) Hn
  | _, _, _ => False
def start (l : List Value) : Env := fun t => l.getD t undef

theorem calls_of_W {C : Ctx} {f : FuncId} {args : List Value} {w : World} {fn : Func} {c : Code} {R : Value → List Blk → Prop} {H : List Blk} (hf : C.P.funcs[f]? = some fn) (hb : fn.body = some c) (hl : Nat.ble args.length fn.ntmps = true)
    (hds : C.ds = []) (h : W C Fence.wide fn.ntmps [] c (Fin C fn R) (start args) H) (hw : St C H w) : Calls C.P f args.toArray w fun en w' => ∃ v Hn, en = .returned v ∧ St C Hn w' ∧ R v Hn := by
  have hl' : args.length ≤ fn.ntmps := Nat.le_of_ble_eq_true hl
  refine calls_of_in wide_wide (k := 0) (callsIn_of_wp_marks hf hb trivial ?_ rfl)
  have hrep : Rep fn.ntmps [] { tmps := args.toArray ++ Array.replicate (fn.ntmps - args.toArray.size) undef, defers := [] } (start args) := by
    refine ⟨by simp; omega, rfl, fun t => ?_⟩
    simp only [start, Array.getD_eq_getD_getElem?, List.getD_eq_getElem?_getD]
    rw [Array.getElem?_append]
    split
    · simp
    · rename_i hlt
      have hlt : args.length ≤ t := by simpa using hlt
      rw [List.getElem?_eq_none hlt, Array.getElem?_replicate]
      split <;> rfl
  refine wpIn_mono (h [] w ⟨hw.1, hw.2, by have := hw.3; rw [hds] at this; exact this⟩ _ hrep) ?_
  -- the marks are taken off, one by one
  have fin : ∀ (ds : List Deferred) {a : Act} {w' : World} {e : Env} {H : List Blk}, (∀ t, a.tmps.getD t undef = e t) → St (C.at ds) H w' → (∃ vs Hn, RVs C e H fn.results.toList vs ∧ HSub H Hn ∧ R (tupOf vs) Hn) →
      LeavesInM Fence.wide 0 C.P fn a.tmps (fun en w' => ∃ v Hn, en = .returned v ∧ St C Hn w' ∧ R v Hn) ds .returning w' := by
    intro ds
    induction ds with
    | nil =>
      rintro a w' e H ha hw ⟨vs, Hn, h1, h2, h3⟩
      have hw' : St C H w' := ⟨hw.1, hw.2, by rw [hds]; exact hw.3⟩
      exact ⟨_, run_results (C := C) ha hw' h1, _, Hn, rfl, ⟨hw'.1, h2 _ _ hw'.2, hw'.3⟩, h3⟩
    | cons d ds ih =>
      rintro a w' e H ha hw hq
      obtain ⟨D, rfl, hD, hK⟩ := hw.3.2 d (List.mem_cons_self ..)
      change C.w0.heap.size ≤ D at hD
      have hnd : { target := .collected D, args := #[] } ∉ ds ++ C.out ∧ (ds ++ C.out).Nodup := List.nodup_cons.1 hw.3.1
      refine ⟨by simp, .inl ⟨D, _, rfl, run_takeDeferred hK, ih ha ⟨?_, ⟨fun x hx => ?_, hw.2.nodup, hw.2.kind⟩, hnd.2, fun d' hd' => ?_⟩ hq⟩⟩
      · refine hw.1.trans ⟨rfl, rfl, rfl, by rw [World.putObj_size]; exact Nat.le_refl _, fun k hk => World.putObj_heap_other ?_⟩
        change k < C.w0.heap.size at hk
        omega
      · have hm := hw.2.mem x hx
        refine ⟨hm.1, (World.putObj_heap_other fun he => ?_).trans hm.2⟩
        have h2 := hm.2
        rw [he, hK] at h2
        exact hw.2.kind x hx (Option.some.inj h2).symm
      · obtain ⟨D', rfl, hD', hK'⟩ := hw.3.2 d' (List.mem_cons_of_mem _ hd')
        refine ⟨D', rfl, hD', (World.putObj_heap_other fun he => ?_).trans hK'⟩
        subst he
        exact hnd.1 hd'
  rintro x a w' ⟨ds, e, H, ha, hw, hq⟩
  cases x with
  | normal =>
    have h := fin ds ha.val hw hq
    rw [← ha.defers] at h; exact h
  | ret =>
    have h := fin ds ha.val hw hq
    rw [← ha.defers] at h; exact h
  | exit i => exact hq.elim
  | goto l => exact hq.elim
  | panic ch => exact hq.elim
  | outgrown => exact hq.elim
theorem Ct_of_W {P : Program} {f : FuncId} {args : List Value} {w : World} {fn : Func} {c : Code} {R : Value → List Blk → Prop} (hf : P.funcs[f]? = some fn) (hb : fn.body = some c) (hl : Nat.ble args.length fn.ntmps = true)
    (h : W ⟨P, w, [], []⟩ Fence.wide fn.ntmps [] c (Fin ⟨P, w, [], []⟩ fn R) (start args) []) : Ct P f args.toArray w R :=
  Calls.mono (calls_of_W (C := ⟨P, w, [], []⟩) hf hb hl rfl h ⟨Below.refl _ _, HOk.nil _ _, Mk.nil⟩) fun _ _ ⟨v, Hn, he, hw, hr⟩ => ⟨v, he, Hn, hw.1, hw.2, hr⟩
/-- A call that may write what lay before it: from these blocks, to those. -/
def Cs (C : Ctx) (f : FuncId) (args : Array Value) (H : List Blk) (R : Value → List Blk → Prop) : Prop :=
  ∀ w, St C H w → Calls C.P f args w fun en w' => ∃ v Hn, en = .returned v ∧ St C Hn w' ∧ R v Hn
/-! ### The walk of a region whose order is open -/
def gFree (all : Array Oper) (o : Oper) (us : List Un) : Bool := us.all fun u => !(gLooks all o).contains u.slot
def sFree (all : Array Oper) (S : List Nat) (o : Oper) (us : List Un) : Bool := us.all fun u => !(o.looksAt all).contains u.slot || !S.contains u.slot
theorem gFree_spec {o : Oper} {us : List Un} (h : gFree all o us = true) : ∀ u ∈ us, u.slot ∉ gLooks all o := fun u hu => by
  have := List.all_eq_true.1 h u hu
  simpa using this
theorem sFree_spec {S : List Nat} {o : Oper} {us : List Un} (h : sFree all S o us = true) : ∀ u ∈ us, u.slot ∈ o.looksAt all → u.slot ∉ S := fun u hu hl => by
  have := List.all_eq_true.1 h u hu
  have hc : (o.looksAt all).contains u.slot = true := by simpa using hl
  simp only [hc, Bool.not_true, Bool.false_or] at this
  simpa using this
theorem Over_nil {ts : List Nat} {K : Env → List Blk → Prop} (h : K e H) : Over ts K [] e H := h
theorem Over_out {ts : List Nat} {K : Env → List Blk → Prop} {u : Un} {us : List Un} (hu : ts.contains u.slot = false) (h : Over ts K us e H) : Over ts K (u :: us) e H :=
  ⟨fun hm => (by rw [List.contains_iff_mem.2 hm] at hu; cases hu), fun _ => h⟩
theorem Over_in {ts : List Nat} {K : Env → List Blk → Prop} {u : Un} {us : List Un} (hu : ts.contains u.slot = true) (h : Over (ts ++ u.deps) (fun e H => ∀ v Hn, u.R e v Hn → K (upd e u.slot v) (Hn ++ H)) us e H) : Over ts K (u :: us) e H :=
  ⟨fun _ => h, fun hm => absurd (List.contains_iff_mem.1 hu) hm⟩
theorem Cong0 {R : Value → List Blk → Prop} : Cong [] (fun _ => R) := fun _ _ _ _ _ h => h

variable {S : List Nat} {KK : List Un → Env → Prop} {done : List Nat} {us : List Un} {o : Oper}
theorem PW_det (c : Value) (hg : gdOf all e o = some true) (hu : gFree all o us = true) (hS : sFree all S o us = true) (hy : Over (o.looksAt all) (fun e H => YD C o e H c) us e H)
    (k : PW C all S KK H rest done us (updo e o.dst c)) : PW C all S KK H (o :: rest) done us e :=
  ⟨.det c, ⟨hg, gFree_spec hu, sFree_spec hS, hy⟩, fun d h => (by cases h), k⟩
def depB (all : Array Oper) (o : Oper) (us : List Un) (deps : List Nat) : Bool := deps.all fun t => (o.looksAt all).contains t && us.any fun u => Nat.beq u.slot t
theorem depB_spec {deps : List Nat} (h : depB all o us deps = true) : ∀ t ∈ deps, t ∈ o.looksAt all ∧ ∃ u ∈ us, u.slot = t := fun t ht => by
  have := List.all_eq_true.1 h t ht
  simp only [Bool.and_eq_true, List.any_eq_true] at this
  obtain ⟨h1, u, hu, he⟩ := this
  exact ⟨List.contains_iff_mem.1 h1, u, hu, Nat.eq_of_beq_eq_true he⟩
theorem PW_skip (hg : gdOf all e o = some false) (hu : gFree all o us = true) (k : PW C all S KK H rest done us (updo e o.dst undef)) : PW C all S KK H (o :: rest) done us e :=
  ⟨.skip, ⟨hg, gFree_spec hu⟩, fun d h => (by cases h), k⟩
/-- An open value that nothing is stored into. -/
theorem PW_new (deps : List Nat) (R : Env → Value → List Blk → Prop) {d : Nat} (hg : gdOf all e o = some true) (hu : gFree all o us = true) (hS : sFree all S o us = true) (hd : o.dst = some d) (hdep : depB all o us deps = true) (hc : Cong deps R)
    (hy : Over (o.looksAt all) (fun e H => YR C o e H (R e)) us e H)
    (k : PW C all S KK H rest done (⟨d, deps, R, deps, R⟩ :: us) e) : PW C all S KK H (o :: rest) done us e :=
  ⟨.new deps R deps R, ⟨hg, gFree_spec hu, sFree_spec hS, ⟨d, hd, fun _ => ⟨rfl, rfl⟩⟩, hy, depB_spec hdep, hc, hc⟩, fun d h => (by cases h), by simp only [nextU, hd, nextE]; exact k⟩
def dropU (d : Nat) : List Un → List Un
  | [] => []
  | u :: us => match Nat.beq u.slot d with
    | true => dropU d us
    | false => u :: dropU d us
theorem dropU_eq {d : Nat} : ∀ us : List Un, dropU d us = us.filter fun x => x.slot != d
  | [] => rfl
  | u :: us => by
    unfold dropU
    cases h : Nat.beq u.slot d with
    | true =>
      have := Nat.eq_of_beq_eq_true h
      rw [List.filter_cons_of_neg (by simp [this])]; exact dropU_eq us
    | false =>
      have := Nat.ne_of_beq_eq_false h
      rw [List.filter_cons_of_pos (by simp [this])]; exact congrArg _ (dropU_eq us)
def sdepB (all : Array Oper) (o : Oper) (us : List Un) (d : Nat) (deps : List Nat) : Bool := deps.all fun t => !Nat.beq t d && ((o.looksAt all).contains t && us.any fun u => Nat.beq u.slot t)
theorem PW_st (d : Nat) (i : Nat) {u : Un} (hd : o.dst = none) (hg : o.guard = none) (hdS : S.contains d = true) (hlk : ((o.looksAt all).contains d || all.all fun o' => o'.dst != some d) = true) (hi : us[i]? = some u) (hus : u.slot = d)
    (hu0 : u.deps = []) (hdep : sdepB all o us d u.deps' = true)
    (hst : Over (o.looksAt all) (fun e H => StoreOk C o e H u) (dropU d us) e H) (hno : (us.all fun u => u.slot == d || !((o.looksAt all).contains u.slot && S.contains u.slot)) = true) (hdn : done.contains d = false)
    (k : PW C all S KK H rest (d :: done) us e) : PW C all S KK H (o :: rest) done us e :=
  ⟨.st d, ⟨hd, hg, ⟨List.contains_iff_mem.1 hdS, hlk⟩, ⟨u, List.mem_of_getElem? hi, hus, hu0, fun t ht => by
    have := List.all_eq_true.1 hdep t ht
    simp only [Bool.and_eq_true, Bool.not_eq_true', List.any_eq_true] at this
    obtain ⟨h0, h1, u', hu', he⟩ := this
    exact ⟨List.contains_iff_mem.1 h1, Nat.ne_of_beq_eq_false h0, u', hu', Nat.eq_of_beq_eq_true he⟩, by rw [← dropU_eq]; exact hst⟩, fun u hu hne hl hS => by
    have := List.all_eq_true.1 hno u hu
    rw [List.contains_iff_mem.2 hl, List.contains_iff_mem.2 hS] at this
    simp [hne] at this⟩, fun d' h => (by cases h; intro hm; rw [List.contains_iff_mem.2 hm] at hdn; cases hdn), by
    have h1 : nextU o (.st d) us = us := by unfold nextU; cases o.dst <;> rfl
    rw [h1]; exact k⟩
theorem PW_end (hall : (S.all fun d => done.contains d) = true) (k : KK us e) : PW C all S KK H [] done us e := ⟨fun d hd => by
  have := List.all_eq_true.1 hall d hd
  simpa using this, k⟩
theorem OverAll_nil {K : Env → List Blk → Prop} {G : Env → Prop} (h : G e → K e H) : OverAll K G [] e H := h
theorem OverAll_cons {K : Env → List Blk → Prop} {G : Env → Prop} {u : Un} {us : List Un} (h : ∀ v Hn, OverAll K (fun e' => G e' ∧ u.R' e' v Hn) us (upd e u.slot v) (Hn ++ H)) : OverAll K G (u :: us) e H := h

/-- A value's cells. -/
def cellsL (v : Value) : List Value := v.cells.toList
theorem cellsL_eq (v : Value) : v.cells = (cellsL v).toArray := by simp [cellsL]
/-- What a store of an open value leaves. -/
def stR (t b off : Nat) (vs : List Value) (Tb : TypeId) : Env → Value → List Blk → Prop := fun e _ Hn => Hn = [(b, CB (splice vs off (cellsL (e t))) Tb)]
theorem stR_cong {t b off : Nat} {vs : List Value} {Tb : TypeId} : Cong [t] (stR t b off vs Tb) := fun e e' h v Hn hh => by
  unfold stR at hh ⊢
  rw [← h t (List.mem_singleton.2 rfl)]; exact hh
def stN (t : Nat) (vs : List Value) (Tb : TypeId) : Env → Value → List Blk → Prop := fun e => NewPtr (CB (splice vs 0 (cellsL (e t))) Tb)
def Pre.con (slot b : Nat) (o : Obj) (R' : Value → List Blk → Prop) : Pre := ⟨slot, b, o, [], fun _ => R', Cong0⟩
def Pre.dep (slot b off t : Nat) (vs : List Value) (Tb : TypeId) : Pre := ⟨slot, b, CB vs Tb, [t], stR t b off vs Tb, stR_cong⟩

theorem st_preD {x : Operand} {T Tb : TypeId} {b off k slot t : Nat} {vs us : List Value} (hp : ∀ u, ev (upd e slot u) x = .pointer (some ⟨b, off, none⟩)) (ht : Nat.beq t slot = false) (hv : cellsL (e t) = us)
    (hs : ∀ w, (sizeOf T).run C.P w = .ok k w) (hl : us.length = k) (hone : us.all Value.oneCell' = true) (hfit : off + us.length ≤ vs.length) :
    StoreOk C ⟨d, .store T x (.tmp t), ty, pos, af, g⟩ e H (Pre.un (Pre.dep slot b off t vs Tb)) := by
  subst hv
  rintro u Hn rfl w hw
  have hb : w.heap[b]? = some (CB vs Tb) := (hw.sub (List.sublist_append_left _ _)).get (i := 0) rfl
  have hv : (ev (upd e slot u) (.tmp t)).cells = (cellsL (e t)).toArray := by
    rw [show ev (upd e slot u) (.tmp t) = e t from upd_ne e u (Nat.ne_of_beq_eq_false ht)]; exact cellsL_eq _
  exact ⟨_, _, run_store (hp u) hv hs hl hone hfit hb, swap_setRow hb, rfl⟩
end
end Go.Eng

/- The rules as the walks use them. No project text. -/
namespace Go.Eng
open Go.RowKit

def chk (n : Nat) (all : Array Oper) (e : Env) (o : Oper) : Bool := noDefer o && (match gdOf all e o with | some b => b | none => false) && gOk n all o && dOk n o.dst
def chkS (n : Nat) (all : Array Oper) (e : Env) (o : Oper) : Bool := (match gdOf all e o with | some b => !b | none => false) && gOk n all o && dOk n o.dst
theorem chk_spec {n : Nat} {all : Array Oper} {e : Env} {o : Oper} (h : chk n all e o = true) : noDefer o = true ∧ gdOf all e o = some true ∧ gOk n all o = true ∧ dOk n o.dst = true := by
  unfold chk at h
  simp only [Bool.and_eq_true] at h
  obtain ⟨⟨⟨h1, h2⟩, h3⟩, h4⟩ := h
  refine ⟨h1, ?_, h3, h4⟩
  cases hg : gdOf all e o with
  | none => rw [hg] at h2; cases h2
  | some b => rw [hg] at h2; simp only at h2; rw [h2]
theorem chkS_spec {n : Nat} {all : Array Oper} {e : Env} {o : Oper} (h : chkS n all e o = true) : gdOf all e o = some false ∧ gOk n all o = true ∧ dOk n o.dst = true := by
  unfold chkS at h
  simp only [Bool.and_eq_true] at h
  obtain ⟨⟨h2, h3⟩, h4⟩ := h
  refine ⟨?_, h3, h4⟩
  cases hg : gdOf all e o with
  | none => rw [hg] at h2; cases h2
  | some b => rw [hg] at h2; simp only [Bool.not_eq_true'] at h2; rw [h2]

section
variable {C : Ctx} {F : Fence} {n : Nat} {ds : List Deferred} {all : Array Oper} {Q : Exit → Env → List Blk → Prop} {rest : List Oper} {e : Env} {H : List Blk} {o : Oper}
variable {d : Option Tmp} {ty : TypeId} {pos : String} {af : Array Edge} {g : Option (Nat × Bool)}

theorem WS_gen (hF : Wide F) (hc : chk n all e o = true) {R : Value → List Blk → Prop} (hy : YR C o e H R) (hk : ∀ v Hn, R v Hn → WS C F n ds all Q rest (updo e o.dst v) (Hn ++ H)) : WS C F n ds all Q (o :: rest) e H :=
  let h := chk_spec hc
  WS_step hF h.1 h.2.1 h.2.2.1 h.2.2.2 hy hk
theorem WS_det (hF : Wide F) {c : Value} (hc : chk n all e o = true) (hy : YD C o e H c) (hk : WS C F n ds all Q rest (updo e o.dst c) H) : WS C F n ds all Q (o :: rest) e H :=
  WS_gen hF hc hy fun v Hn h => by subst h; exact WS_weak (List.sublist_append_right _ _) hk
theorem WS_new (hF : Wide F) {ob : Obj} (hc : chk n all e o = true) (hy : YR C o e H (NewPtr ob)) (hk : ∀ b, WS C F n ds all Q rest (updo e o.dst (.pointer (some ⟨b, 0, none⟩))) ((b, ob) :: H)) : WS C F n ds all Q (o :: rest) e H :=
  WS_gen hF hc hy fun v Hn h => by obtain ⟨b, rfl, rfl⟩ := h; exact hk b
theorem WS_newS (hF : Wide F) {ob : Obj} {m : Nat} (hc : chk n all e o = true) (hy : YR C o e H (NewSlice ob m)) (hk : ∀ b, WS C F n ds all Q rest (updo e o.dst (.slice (some ⟨b, 0, none⟩) m m)) ((b, ob) :: H)) :
    WS C F n ds all Q (o :: rest) e H :=
  WS_gen hF hc hy fun v Hn h => by obtain ⟨b, rfl, rfl⟩ := h; exact hk b
theorem WS_no (hF : Wide F) (hc : chkS n all e o = true) (hk : WS C F n ds all Q rest (updo e o.dst undef) H) : WS C F n ds all Q (o :: rest) e H :=
  let h := chkS_spec hc
  WS_skip hF h.1 h.2.1 h.2.2 hk

/-! Calls, builds: over lists -/
theorem y_callL {x : Operand} {args : List Operand} {ats : Array TypeId} {f : FuncId} {first captured vs : List Value} {R : Value → List Blk → Prop} (hx : ev e x = .func (.func f) first.toArray captured.toArray)
    (ha : first ++ (args.map (ev e) ++ captured) = vs) (hc : ∀ args w, (callFunc f args).run C.P w = .ok (.enter f args) w) (hR : ∀ w, St C H w → Ct C.P f vs.toArray w R) :
    YR C ⟨d, .call ⟨.value x, args.toArray, ats⟩, ty, pos, af, g⟩ e H R :=
  y_call (vs := vs.toArray) hx (by subst ha; simp) hc hR
theorem y_buildL {T : TypeId} {parts : List (Nat × Operand)} {ps : List (Nat × Value)} {c : Value} (hb : ∀ w, (Instr.build T ps.toArray).run C.P w = .ok c w) (hp : parts.map (fun x => (x.1, ev e x.2)) = ps) :
    YD C ⟨d, .build T parts.toArray, ty, pos, af, g⟩ e H c := y_build (ps := ps.toArray) (by subst hp; simp) hb
theorem y_buildSliceL {T E : TypeId} {n : Nat} {parts : List (Nat × Operand)} {ps : List (Nat × Value)} {vs : List Value}
    (hb : ∀ w, (Instr.buildSlice T n ps.toArray).run C.P w = .ok (.slice (some ⟨w.heap.size, 0, none⟩) n n) (w.alloc (CB vs E))) (hp : parts.map (fun x => (x.1, ev e x.2)) = ps) :
    YR C ⟨d, .buildSlice T n parts.toArray, ty, pos, af, g⟩ e H (NewSlice (CB vs E) n) := y_buildSlice (ps := ps.toArray) (by subst hp; simp) hb
theorem y_makeFuncL {fn : Go.Fn} {first captured : List Operand} {a b : List Value} (ha : first.map (ev e) = a) (hb : captured.map (ev e) = b) : YD C ⟨d, .makeFunc fn first.toArray captured.toArray, ty, pos, af, g⟩ e H (.func fn a.toArray b.toArray) :=
  y_makeFunc (by subst ha; simp) (by subst hb; simp)

def chkP (all : Array Oper) (S : List Nat) (us : List Un) (e : Env) (o : Oper) : Bool := (match gdOf all e o with | some b => b | none => false) && gFree all o us && sFree all S o us
def chkPS (all : Array Oper) (us : List Un) (e : Env) (o : Oper) : Bool := (match gdOf all e o with | some b => !b | none => false) && gFree all o us
variable {S : List Nat} {KK : List Un → Env → Prop} {done : List Nat} {us : List Un}
theorem chkP_spec (h : chkP all S us e o = true) : gdOf all e o = some true ∧ gFree all o us = true ∧ sFree all S o us = true := by
  unfold chkP at h
  simp only [Bool.and_eq_true] at h
  obtain ⟨⟨h2, h3⟩, h4⟩ := h
  refine ⟨?_, h3, h4⟩
  cases hg : gdOf all e o with
  | none => rw [hg] at h2; cases h2
  | some b => rw [hg] at h2; simp only at h2; rw [h2]
theorem P_det {c : Value} (hc : chkP all S us e o = true) (hy : Over (o.looksAt all) (fun e H => YD C o e H c) us e H) (k : PW C all S KK H rest done us (updo e o.dst c)) : PW C all S KK H (o :: rest) done us e :=
  let h := chkP_spec hc
  PW_det c h.1 h.2.1 h.2.2 hy k
theorem P_no (hc : chkPS all us e o = true) (k : PW C all S KK H rest done us (updo e o.dst undef)) : PW C all S KK H (o :: rest) done us e := by
  unfold chkPS at hc
  simp only [Bool.and_eq_true] at hc
  refine PW_skip ?_ hc.2 k
  have h2 := hc.1
  cases hg : gdOf all e o with
  | none => rw [hg] at h2; cases h2
  | some b => rw [hg] at h2; simp only [Bool.not_eq_true'] at h2; rw [h2]
theorem P_new {R : Value → List Blk → Prop} {d : Nat} (hc : chkP all S us e o = true) (hd : o.dst = some d) (hy : Over (o.looksAt all) (fun e H => YR C o e H R) us e H)
    (k : PW C all S KK H rest done (⟨d, [], fun _ => R, [], fun _ => R⟩ :: us) e) : PW C all S KK H (o :: rest) done us e :=
  let h := chkP_spec hc
  PW_new [] (fun _ => R) h.1 h.2.1 h.2.2 hd rfl Cong0 hy k
def YD0 (C : Ctx) (o : Oper) (e : Env) (H : List Blk) (c : Value) : Prop := YR C o e H fun v Hn => v = c ∧ Hn = []
theorem YD0_of {c : Value} (h : YD C o e H c) : YD0 C o e H c := fun w hw => by
  have := h w hw
  generalize (execOp (ev e) o).run C.P w = r at *
  have out : ∀ {v w w'}, Out (fun v _ => v = c) v w w' → Out (fun v Hn => v = c ∧ Hn = []) v w w' := fun ⟨Hn, h1, h2, h3⟩ => ⟨[], h1, HOk.nil _ _, h3, rfl⟩
  cases r with
  | ok x w' =>
    cases x with
    | value v => exact out this
    | skip => exact out this
    | enter f args => exact ⟨this.1, Calls.mono this.2 fun _ _ ⟨v, he, ho⟩ => ⟨v, he, out ho⟩⟩
    | _ => exact this
  | _ => exact this
/-- A value made of open ones. -/
def alR (f : Env → Value) : Env → Value → List Blk → Prop := fun e v Hn => v = f e ∧ Hn = []
theorem P_ali (deps : List Nat) (f : Env → Value) {d : Nat} (hc : chkP all S us e o = true) (hd : o.dst = some d) (hdep : depB all o us deps = true) (hf : ∀ e e' : Env, (∀ t ∈ deps, e t = e' t) → f e = f e')
    (hy : Over (o.looksAt all) (fun e H => YD0 C o e H (f e)) us e H)
    (k : PW C all S KK H rest done (⟨d, deps, alR f, deps, alR f⟩ :: us) e) : PW C all S KK H (o :: rest) done us e :=
  let h := chkP_spec hc
  PW_new deps (alR f) h.1 h.2.1 h.2.2 hd hdep (fun e e' he v Hn hh => ⟨hh.1.trans (hf e e' he), hh.2⟩) hy k
/-- A struct made of open values and of known ones. -/
def partV (e : Env) : Value ⊕ Nat → Value
  | .inl c => c
  | .inr t => e t
def aggP (ps : List (Value ⊕ Nat)) (e : Env) : Value := .agg (ps.map (partV e)).toArray
def partIn (deps : List Nat) : Value ⊕ Nat → Bool
  | .inl _ => true
  | .inr t => deps.contains t
theorem aggP_congr {deps : List Nat} {ps : List (Value ⊕ Nat)} (h : ps.all (partIn deps) = true) : ∀ e e' : Env, (∀ t ∈ deps, e t = e' t) → aggP ps e = aggP ps e' := fun e e' he => by
  unfold aggP
  congr 2
  refine List.map_congr_left fun x hx => ?_
  have := List.all_eq_true.1 h x hx
  cases x with
  | inl c => rfl
  | inr t => exact he t (List.contains_iff_mem.1 this)
/-- A slot's Bool, both ways, in a region whose order is open. -/
theorem P_split (s : Nat) {b : Bool} (hb : e s = .bool b) (ht : b = true → PW C all S KK H rest done us (upd e s (.bool true))) (hf : b = false → PW C all S KK H rest done us (upd e s (.bool false))) :
    PW C all S KK H rest done us e := by
  cases b with
  | true => have := ht rfl; rw [← hb, upd_eta] at this; exact this
  | false => have := hf rfl; rw [← hb, upd_eta] at this; exact this

def stOkB (all : Array Oper) (S : List Nat) (us : List Un) (done : List Nat) (o : Oper) (d : Nat) : Bool :=
  (match o.dst with | none => true | some _ => false) && (match o.guard with | none => true | some _ => false) && S.contains d && ((o.looksAt all).contains d || all.toList.all fun o' => match o'.dst with | some d' => !Nat.beq d' d | none => true) &&
  (us.all fun u => u.slot == d || !((o.looksAt all).contains u.slot && S.contains u.slot)) && !done.contains d
theorem P_st (d : Nat) (i : Nat) {u : Un} (hc : stOkB all S us done o d = true) (hi : us[i]? = some u) (hus : u.slot = d) (hu0 : u.deps = []) (hdep : sdepB all o us d u.deps' = true)
    (hst : Over (o.looksAt all) (fun e H => StoreOk C o e H u) (dropU d us) e H) (k : PW C all S KK H rest (d :: done) us e) :
    PW C all S KK H (o :: rest) done us e := by
  unfold stOkB at hc
  simp only [Bool.and_eq_true, Bool.not_eq_true'] at hc
  obtain ⟨⟨⟨⟨⟨h1, h2⟩, h3⟩, h4⟩, h5⟩, h6⟩ := hc
  have h4' : ((o.looksAt all).contains d || all.all fun o' => o'.dst != some d) = true := by
    simp only [Bool.or_eq_true] at h4 ⊢
    rcases h4 with h4 | h4
    · exact .inl h4
    · refine .inr ?_
      rw [Array.all_eq_true]
      intro j hj
      have := List.all_eq_true.1 h4 all[j] (by simp)
      cases hd : all[j].dst with
      | none => rfl
      | some d' =>
        rw [hd] at this
        simp only [Bool.not_eq_true'] at this
        simp only [bne_iff_ne, ne_eq, Option.some.injEq]
        intro he
        subst he
        simp at this
  refine PW_st d i ?_ ?_ h3 h4' hi hus hu0 hdep hst h5 h6 k
  · cases hd : o.dst with
    | none => rfl
    | some _ => rw [hd] at h1; cases h1
  · cases hd : o.guard with
    | none => rfl
    | some _ => rw [hd] at h2; cases h2

theorem W_drawL {id : Nat} {l : List Oper} {H0 : List Blk} (hF : Wide F) (hm : C.P.follows .mixedOrders = true) (pres : List Pre) (S : List Nat)
    (hH : HSub H (pres.map (fun p => (p.b, p.o)) ++ H0))
    (hph : (phased l.toArray (pres.map (·.slot)) && (l.all fun o => dOk n o.dst && gOk n l.toArray o) && (pres.all fun p => S.contains p.slot)) = true) (hnd : (pres.map (·.slot)).Nodup)
    (hp : ∀ ds, PW (C.at ds) l.toArray S (fun us e => OverAll (fun e H => Q .normal e H) (fun _ => True) us e H0) H0 l [] (pres.map Pre.un) e) : W C F n ds (.region id l.toArray true) Q e H := by
  simp only [Bool.and_eq_true] at hph
  exact W_draw hF hm pres S hH hph.1.1 (by simpa using hph.1.2) hph.2 hnd (fun ds => by simpa using hp ds)

theorem Ct_start {P : Program} {f : FuncId} {args : List Value} {w : World} {fn : Func} {c : Code} {k : Nat} {R : Value → List Blk → Prop} (hf : P.funcs[f]? = some fn) (hb : fn.body = some c) (hn : fn.ntmps = k) (hl : Nat.ble args.length k = true)
    (h : W ⟨P, w, [], []⟩ Fence.wide k [] c (Fin ⟨P, w, [], []⟩ fn R) (start args) []) : Ct P f args.toArray w R := by
  subst hn
  exact Ct_of_W hf hb hl h
theorem Fin_ret {fn : Func} {rs : List ResultVar} {R : Value → List Blk → Prop} (vs : List Value) (Hn : List Blk) (hr : fn.results = rs.toArray) (h1 : RVs C e H rs vs) (h2 : HSub H Hn) (h3 : R (tupOf vs) Hn) : Fin C fn R .ret e H :=
  ⟨vs, Hn, by rw [hr]; exact h1, h2, h3⟩

theorem Then_normal {K : Env → List Blk → Prop} (h : K e H) : Then K Q .normal e H := h
theorem Then_exit {K : Env → List Blk → Prop} {i : Nat} (h : Q (.exit i) e H) : Then K Q (.exit i) e H := h
theorem Then_ret {K : Env → List Blk → Prop} (h : Q .ret e H) : Then K Q .ret e H := h
theorem InB_normal {i : Nat} (h : Q .normal e H) : InB i Q .normal e H := h
theorem InB_ret {i : Nat} (h : Q .ret e H) : InB i Q .ret e H := h
theorem InB_same {i : Nat} (h : Q .normal e H) : InB i Q (.exit i) e H := by simp only [InB, if_true]; exact h
theorem InB_other {i j : Nat} (hij : Nat.beq i j = false) (h : Q (.exit i) e H) : InB j Q (.exit i) e H := by
  simp only [InB]
  rw [if_neg fun he => by subst he; simp at hij]; exact h
section
variable {γ : Type} {I : γ → Prop} {L : γ → List (Nat × Value)} {B : γ → List Blk} {μ : γ → Nat} {m : Nat}
theorem Loop_ret (h : Q .ret e H) : LoopPost I L B μ m Q .ret e H := h
theorem Loop_exit {i : Nat} (h : Q (.exit i) e H) : LoopPost I L B μ m Q (.exit i) e H := h
theorem Loop_next (g : γ) (hI : I g) (hL : Slots e (L g)) (hB : (B g).Sublist H) (hm : μ g < m) : LoopPost I L B μ m Q .normal e H := ⟨g, hI, hL, hB, hm⟩
end

theorem At.get {w : World} {b : Nat} : ∀ {vs : List Value} {o : Nat}, At w b o vs → ∀ (j : Nat) (v : Value), vs[j]? = some v → w.cell? ⟨b, o + j, none⟩ = some v
  | [], _, _, j, v, h => by simp at h
  | u :: vs, o, h, 0, v, hv => by
    simp only [List.getElem?_cons_zero, Option.some.injEq] at hv
    subst hv; exact h.1
  | u :: vs, o, h, j + 1, v, hv => by
    have := At.get h.2 j v (by simpa using hv)
    rwa [show o + 1 + j = o + (j + 1) by omega] at this
theorem At.of {w : World} {b : Nat} : ∀ {vs : List Value} {o : Nat}, (∀ (j : Nat) (v : Value), vs[j]? = some v → w.cell? ⟨b, o + j, none⟩ = some v) → At w b o vs
  | [], _, _ => trivial
  | u :: vs, o, h => ⟨h 0 u (by simp), At.of fun j v hv => by
    have := h (j + 1) v (by simpa using hv)
    rwa [show o + (j + 1) = o + 1 + j by omega] at this⟩
theorem At.sub {w : World} {b o k : Nat} {vs us rest : List Value} (h : At w b o vs) (hd : vs.drop k = us ++ rest) : At w b (o + k) us := At.of fun j v hv => by
  have hj : vs[k + j]? = some v := by
    rw [← List.getElem?_drop, hd, List.getElem?_append_left (List.getElem?_eq_some_iff.1 hv).1]; exact hv
  have := h.get (k + j) v hj
  rwa [← Nat.add_assoc] at this
theorem Mem.oldAt {b o k : Nat} {vs us rest : List Value} (h : At C.w0 b o vs) (hd : vs.drop k = us ++ rest) : Mem C H b (o + k) us := Mem.old (h.sub hd)
theorem Mem.oldAt1 {b o k : Nat} {vs : List Value} {u : Value} (h : At C.w0 b o vs) (hd : vs[k]? = some u) : Mem C H b (o + k) [u] := Mem.old (h.sub (rest := vs.drop (k + 1)) (by
  have hlt : k < vs.length := (List.getElem?_eq_some_iff.1 hd).1
  rw [List.drop_eq_getElem_cons hlt, (List.getElem?_eq_some_iff.1 hd).2]; rfl))

/-- One block of the call's own is stored into. -/
theorem W_draw1P {id : Nat} {l : List Oper} (hF : Wide F) (hm : C.P.follows .mixedOrders = true) (S : List Nat) {i : Nat} (p : Pre) (hps : p.slot = 1000000) (hi : H[i]? = some (p.b, p.o))
    (hph : (phased l.toArray [1000000] && (l.all fun o => dOk n o.dst && gOk n l.toArray o) && S.contains 1000000) = true)
    (hp : ∀ ds, PW (C.at ds) l.toArray S (fun us e => OverAll (fun e H => Q .normal e H) (fun _ => True) us e (H.eraseIdx i)) (H.eraseIdx i) l [] [Pre.un p] e) : W C F n ds (.region id l.toArray true) Q e H :=
  W_drawL (H0 := H.eraseIdx i) hF hm [p] S (fun _ _ h => h.perm (perm_erase hi).symm) (by simpa [hps] using hph) (by simp) hp
theorem W_draw1D {id : Nat} {l : List Oper} (hF : Wide F) (hm : C.P.follows .mixedOrders = true) (S : List Nat) (t off : Nat) {i b : Nat} {vs : List Value} {Tb : TypeId} (hi : H[i]? = some (b, CB vs Tb))
    (hph : (phased l.toArray [1000000] && (l.all fun o => dOk n o.dst && gOk n l.toArray o) && S.contains 1000000) = true)
    (hp : ∀ ds, PW (C.at ds) l.toArray S (fun us e => OverAll (fun e H => Q .normal e H) (fun _ => True) us e (H.eraseIdx i)) (H.eraseIdx i) l [] [Pre.un (Pre.dep 1000000 b off t vs Tb)] e) : W C F n ds (.region id l.toArray true) Q e H :=
  W_draw1P hF hm S (Pre.dep 1000000 b off t vs Tb) rfl hi hph hp
theorem W_draw0 {id : Nat} {l : List Oper} (hF : Wide F) (hm : C.P.follows .mixedOrders = true) (S : List Nat)
    (hph : (phased l.toArray [] && (l.all fun o => dOk n o.dst && gOk n l.toArray o)) = true)
    (hp : ∀ ds, PW (C.at ds) l.toArray S (fun us e => OverAll (fun e H => Q .normal e H) (fun _ => True) us e H) H l [] [] e) : W C F n ds (.region id l.toArray true) Q e H :=
  W_drawL (H0 := H) hF hm [] S HSub.refl (by simpa using hph) (by simp) hp

/-! Slicing a slice -/
def shiftA (a : Option Addr) (l sz cap : Nat) : Option Addr := if cap = l then a else a.map (·.add (l * sz))
end
end Go.Eng

/- Pure facts about tanks. -/
namespace Go.Proofs.YtjekjehgmljbgaaDoor.T
open Go.RowKit Go.Eng

/-- A slice of ints that reads as a list. -/
structure Ints (w : World) (a : Option Addr) (n cap : Nat) (xs : List Int) : Prop where
  len : xs.length = n
  le : n ≤ cap
  cell : ∀ k, k < n → ∃ b o, a = some ⟨b, o, none⟩ ∧ At w b (o + k * 1) [.int .i64 (xs.getD k 0)]

theorem Ints.below {w w' : World} {a : Option Addr} {n cap : Nat} {xs : List Int} (h : Ints w a n cap xs) (hb : Below w.heap.size w w') : Ints w' a n cap xs :=
  ⟨h.len, h.le, fun k hk => by obtain ⟨b, o, h1, h2⟩ := h.cell k hk; exact ⟨b, o, h1, At.old hb h2⟩⟩
theorem Ints.st {C : Ctx} {H : List Blk} {a : Option Addr} {n cap : Nat} {xs : List Int} (h : Ints C.w0 a n cap xs) (w : World) (hw : St C H w) : Ints w a n cap xs := h.below hw.1
theorem Ints.at {w : World} {b o n cap : Nat} {xs : List Int} (h : Ints w (some ⟨b, o, none⟩) n cap xs) {k : Nat} (hk : k < n) : At w b (o + k * 1) [.int .i64 (xs.getD k 0)] := by
  obtain ⟨b', o', h1, h2⟩ := h.cell k hk
  simp only [Option.some.injEq, Addr.mk.injEq] at h1
  obtain ⟨rfl, rfl, _⟩ := h1
  exact h2
theorem Ints.adr {w : World} {a : Option Addr} {n cap : Nat} {xs : List Int} (h : Ints w a n cap xs) (hn : 0 < n) : ∃ b o, a = some ⟨b, o, none⟩ := by
  obtain ⟨b, o, h1, _⟩ := h.cell 0 hn
  exact ⟨b, o, h1⟩
theorem Ints.mem {C : Ctx} {H : List Blk} {b n cap T : Nat} {xs : List Int} {rest : List Value} (i : Nat) (hi : H[i]? = some (b, CB (xs.map (Value.int .i64) ++ rest) T)) (hn : xs.length = n) (hc : n ≤ cap) (w : World) (hw : St C H w) :
    Ints w (some ⟨b, 0, none⟩) n cap xs := by
  refine ⟨hn, hc, fun k hk => ⟨b, 0, rfl, ?_⟩⟩
  have hb := hw.get hi
  refine at_block (rest := (xs.map (Value.int .i64) ++ rest).drop (k + 1)) hb ?_
  have hlt : k < (xs.map (Value.int .i64) ++ rest).length := by simp; omega
  rw [show 0 + k * 1 = k by omega, List.drop_eq_getElem_cons hlt]
  simp [hn, hk, List.getD_eq_getElem?_getD]
theorem Ints.one {C : Ctx} {H : List Blk} {b T : Nat} {x : Int} (i : Nat) (hi : H[i]? = some (b, CB [.int .i64 x] T)) (w : World) (hw : St C H w) : Ints w (some ⟨b, 0, none⟩) 1 1 [x] := Ints.mem (xs := [x]) (rest := []) i hi rfl (Nat.le_refl _) w hw
theorem Ints.two {C : Ctx} {H : List Blk} {b T : Nat} {x y : Int} (i : Nat) (hi : H[i]? = some (b, CB [.int .i64 x, .int .i64 y] T)) (w : World) (hw : St C H w) : Ints w (some ⟨b, 0, none⟩) 2 2 [x, y] := Ints.mem (xs := [x, y]) (rest := []) i hi rfl (Nat.le_refl _) w hw
theorem Ints.nil (w : World) (a : Option Addr) (cap : Nat) : Ints w a 0 cap [] := ⟨rfl, Nat.zero_le _, fun k hk => by omega⟩
theorem Ints.drop {w : World} {a : Option Addr} {n cap l : Nat} {xs : List Int} (h : Ints w a n cap xs) (hl : l < n) : Ints w (shiftA a l 1 cap) (n - l) (cap - l) (xs.drop l) := by
  have hle := h.le
  have hlen := h.len
  refine ⟨by simp [h.len], by omega, fun k hk => ?_⟩
  obtain ⟨b, o, rfl⟩ := h.adr (by omega)
  have h2 := h.at (k := l + k) (by omega)
  have h3 : (⟨b, o, none⟩ : Addr).add (l * 1) = ⟨b, o + l, none⟩ := by unfold Addr.add; split <;> simp_all
  refine ⟨b, o + l, by unfold shiftA; rw [if_neg (by omega)]; simp only [Option.map_some, h3], ?_⟩
  rw [show o + l + k * 1 = o + (l + k) * 1 by omega]
  rw [show (xs.drop l).getD k 0 = xs.getD (l + k) 0 by simp [List.getD_eq_getElem?_getD]]
  exact h2

def outB (lo hi n : Int) : Bool := decide (n < lo) || decide (hi < n)
def inB (lo hi : Int) (xs : List Int) : Bool := xs.all fun n => !outB lo hi n
def firstOut (lo hi : Int) : List Int → Nat → Int
  | [], _ => -1
  | x :: l, k => if outB lo hi x then (k : Int) else firstOut lo hi l (k + 1)
theorem inB_any {lo hi : Int} {xs : List Int} : inB lo hi xs = !xs.any (outB lo hi) := by
  unfold inB; induction xs with
  | nil => rfl
  | cons x l ih => simp only [List.all_cons, List.any_cons, ih, Bool.not_or]
theorem outB_iff {lo hi n : Int} : outB lo hi n = false ↔ lo ≤ n ∧ n ≤ hi := by unfold outB; simp
theorem inB1 {lo hi n : Int} : inB lo hi [n] = true ↔ lo ≤ n ∧ n ≤ hi := by unfold inB; simp [outB_iff]
theorem inB2 {lo hi m n : Int} : inB lo hi [m, n] = true ↔ (lo ≤ m ∧ m ≤ hi) ∧ lo ≤ n ∧ n ≤ hi := by unfold inB; simp [outB_iff]
theorem inB1f {lo hi n : Int} : inB lo hi [n] = false ↔ ¬ (lo ≤ n ∧ n ≤ hi) := by rw [← inB1]; simp

/-! ### Tanks -/
structure Tk where
  pints : List Int
  leak : Int
  foot : Int
def Tk.n (t : Tk) : Nat := t.pints.length
def Tk.p (t : Tk) (k : Nat) : Int := t.pints.getD k 0
def Tk.full (t : Tk) : Int := t.p (t.n - 1)
def Tk.height (t : Tk) : Int := 8 * ((t.n : Int) - 1)
def Tk.incB (t : Tk) (m : Nat) : Bool := (List.range m).all fun k => inB (t.p k + 1) 600 [t.p (k + 1)]
def Tk.okB (t : Tk) : Bool := inB 2 21 [(t.n : Int)] && decide (t.p 0 = 0) && inB 0 50 [t.leak] && t.incB (t.n - 1) && inB 0 t.height [t.foot]
structure Tk.Ok (t : Tk) : Prop where
  n2 : 2 ≤ t.n
  n21 : t.n ≤ 21
  p0 : t.p 0 = 0
  leak0 : 0 ≤ t.leak
  leak1 : t.leak ≤ 50
  inc : ∀ k, k + 1 < t.n → t.p k + 1 ≤ t.p (k + 1) ∧ t.p (k + 1) ≤ 600
  foot0 : 0 ≤ t.foot
  foot1 : t.foot ≤ t.height
theorem Tk.ok_iff {t : Tk} : t.okB = true ↔ t.Ok := by
  unfold Tk.okB Tk.incB
  simp only [Bool.and_eq_true, inB1, decide_eq_true_eq, List.all_eq_true, List.mem_range]
  constructor
  · rintro ⟨⟨⟨⟨⟨h1, h2⟩, h3⟩, h4, h5⟩, h6⟩, h7, h8⟩
    exact ⟨by omega, by omega, h3, h4, h5, fun k hk => h6 k (by omega), h7, h8⟩
  · intro h
    have := h.n2
    have := h.n21
    exact ⟨⟨⟨⟨⟨by omega, by omega⟩, h.p0⟩, h.leak0, h.leak1⟩, fun k hk => h.inc k (by omega)⟩, h.foot0, h.foot1⟩
theorem Tk.Ok.bd {t : Tk} (h : t.Ok) : ∀ k, k < t.n → 0 ≤ t.p k ∧ t.p k ≤ 600
  | 0, _ => by rw [h.p0]; omega
  | k + 1, hk => by
    have := h.inc k hk
    have := Tk.Ok.bd h k (by omega)
    omega
theorem Tk.Ok.mono {t : Tk} (h : t.Ok) {j : Nat} : ∀ {k : Nat}, j < k → k < t.n → t.p j < t.p k
  | 0, hj, _ => by omega
  | k + 1, hj, hk => by
    have h1 := h.inc k hk
    by_cases hjk : j = k
    · subst hjk; omega
    · have := Tk.Ok.mono h (j := j) (k := k) (by omega) (by omega); omega
/-- Eight times what it holds at an eighth. -/
def Tk.seg (t : Tk) (x : Int) : Nat := (min (x / 8) ((t.n : Int) - 2)).toNat
def Tk.eight (t : Tk) (x : Int) : Int := 8 * t.p (t.seg x) + (x - 8 * (t.seg x : Int)) * (t.p (t.seg x + 1) - t.p (t.seg x))
def Tk.up (t : Tk) (x : Int) : Int := (t.eight x + 7) / 8
def Tk.down (t : Tk) (x : Int) : Int := t.eight x / 8
theorem Tk.Ok.seg {t : Tk} (h : t.Ok) {x : Int} (h0 : 0 ≤ x) (h1 : x ≤ t.height) : min (x / 8) ((t.n : Int) - 2) = (t.seg x : Int) ∧ t.seg x + 1 < t.n ∧ 0 ≤ x - 8 * (t.seg x : Int) ∧ x - 8 * (t.seg x : Int) ≤ 8 := by
  have := h.n2
  unfold Tk.height at h1
  unfold Tk.seg
  omega
theorem Tk.Ok.full_bd {t : Tk} (h : t.Ok) : 0 ≤ t.full ∧ t.full ≤ 600 := by
  have := h.n2
  exact h.bd (t.n - 1) (by omega)
end Go.Proofs.YtjekjehgmljbgaaDoor.T

/- Pure facts about cans and pourings. -/
namespace Go.Proofs.YtjekjehgmljbgaaDoor.T
open Go.RowKit Go.Eng

structure Cn where
  sz : List Int
  inn : List Int
  st : Int
def Cn.n (c : Cn) : Nat := c.sz.length
def Cn.s (c : Cn) (k : Nat) : Int := c.sz.getD k 0
def Cn.i (c : Cn) (k : Nat) : Int := c.inn.getD k 0
def Cn.fitB (c : Cn) (m : Nat) : Bool := (List.range m).all fun k => inB 0 (c.s k) [c.i k]
def Cn.okB (c : Cn) : Bool := (inB 1 3 [(c.n : Int)] && decide (c.inn.length = c.n)) && (inB 1 20 c.sz && inB 0 600 [c.st]) && c.fitB c.n
theorem Cn.fitB_succ (c : Cn) (m : Nat) : c.fitB (m + 1) = (c.fitB m && inB 0 (c.s m) [c.i m]) := by
  unfold Cn.fitB; rw [List.range_succ, List.all_append]; simp
theorem Cn.fitB_false {c : Cn} {k m : Nat} (h : k < m) (hk : inB 0 (c.s k) [c.i k] = false) : c.fitB m = false := by
  unfold Cn.fitB
  exact List.all_eq_false.2 ⟨k, List.mem_range.2 h, by simp [hk]⟩
theorem inB_all {lo hi : Int} {xs : List Int} : inB lo hi xs = true ↔ ∀ k, k < xs.length → lo ≤ xs.getD k 0 ∧ xs.getD k 0 ≤ hi := by
  unfold inB
  simp only [List.all_eq_true, Bool.not_eq_true', outB_iff]
  constructor
  · intro h k hk
    have := h xs[k] (List.getElem_mem hk)
    simpa [List.getD_eq_getElem?_getD, hk] using this
  · intro h x hx
    obtain ⟨k, hk, rfl⟩ := List.getElem_of_mem hx
    simpa [List.getD_eq_getElem?_getD, hk] using h k hk
structure Cn.Ok (c : Cn) : Prop where
  n1 : 1 ≤ c.n
  n3 : c.n ≤ 3
  len : c.inn.length = c.n
  st0 : 0 ≤ c.st
  st1 : c.st ≤ 600
  s : ∀ k, k < c.n → 1 ≤ c.s k ∧ c.s k ≤ 20
  i : ∀ k, k < c.n → 0 ≤ c.i k ∧ c.i k ≤ c.s k
theorem Cn.ok_iff {c : Cn} : c.okB = true ↔ c.Ok := by
  unfold Cn.okB Cn.fitB
  simp only [Bool.and_eq_true, inB1, decide_eq_true_eq, List.all_eq_true, List.mem_range]
  rw [inB_all]
  constructor
  · rintro ⟨⟨⟨⟨h1, h2⟩, h3⟩, h4, h5, h6⟩, h7⟩
    exact ⟨by omega, by omega, h3, h5, h6, h4, h7⟩
  · intro h
    have := h.n1
    have := h.n3
    exact ⟨⟨⟨⟨by omega, by omega⟩, h.len⟩, h.s, h.st0, h.st1⟩, h.i⟩

structure Po where
  f : Int
  t : Int
deriving DecidableEq
def Po.cells (p : Po) : List Value := [.int .i64 p.f, .int .i64 p.t]
def Po.z : Po := ⟨0, 0⟩
/-- What is in the tank and the cans. -/
structure Co where
  a : Int
  b : Int
  c : Int
  d : Int
deriving DecidableEq
def Co.cells (x : Co) : List Value := [.int .i64 x.a, .int .i64 x.b, .int .i64 x.c, .int .i64 x.d]
def Co.z : Co := ⟨0, 0, 0, 0⟩
def Co.g (x : Co) : Nat → Int
  | 0 => x.a
  | 1 => x.b
  | 2 => x.c
  | _ => x.d
def Co.w (x : Co) (k : Nat) (v : Int) : Co :=
  match k with
  | 0 => ⟨v, x.b, x.c, x.d⟩
  | 1 => ⟨x.a, v, x.c, x.d⟩
  | 2 => ⟨x.a, x.b, v, x.d⟩
  | _ => ⟨x.a, x.b, x.c, v⟩
theorem lt4 {k : Nat} (h : k < 4) : k = 0 ∨ k = 1 ∨ k = 2 ∨ k = 3 := by omega
theorem Co.drop (x : Co) {k : Nat} (h : k < 4) : ∃ rest, List.drop (0 + k * 1) x.cells = [.int .i64 (x.g k)] ++ rest := by
  obtain rfl | rfl | rfl | rfl := lt4 h
  all_goals exact ⟨_, rfl⟩
theorem Co.splice (x : Co) (v : Int) {k : Nat} (h : k < 4) : splice x.cells (0 + k * 1) [.int .i64 v] = (x.w k v).cells := by
  obtain rfl | rfl | rfl | rfl := lt4 h
  all_goals rfl
theorem Co.g_w (x : Co) (v : Int) {k j : Nat} (hk : k < 4) (hj : j < 4) : (x.w k v).g j = if j = k then v else x.g j := by
  obtain rfl | rfl | rfl | rfl := lt4 hk <;> obtain rfl | rfl | rfl | rfl := lt4 hj
  all_goals rfl
theorem Co.ext4 {x y : Co} (h : ∀ k, k < 4 → x.g k = y.g k) : x = y := by
  obtain ⟨a, b, c, d⟩ := x
  obtain ⟨a', b', c', d'⟩ := y
  have h0 : a = a' := h 0 (by decide)
  have h1 : b = b' := h 1 (by decide)
  have h2 : c = c' := h 2 (by decide)
  have h3 : d = d' := h 3 (by decide)
  subst h0 h1 h2 h3; rfl
def Cn.co (c : Cn) : Co := ⟨c.st, c.i 0, c.i 1, c.i 2⟩
def Cn.room (c : Cn) (k : Nat) : Int := if k = 0 then 600 else c.s (k - 1)
def Cn.vldB (c : Cn) (p : Po) : Bool := inB 0 (c.n : Int) [p.f, p.t] && decide (p.f ≠ p.t)
def Cn.lack (c : Cn) (x : Co) (t : Nat) : Int := c.room t - x.g t
def Cn.amt (c : Cn) (x : Co) (f t : Nat) : Int := min (x.g f) (c.lack x t)
def Cn.noB (c : Cn) (x : Co) (f t : Nat) : Bool := decide (f = 0) && decide (x.g f < c.lack x t) || decide (t = 0) && decide (c.lack x t < x.g f)
def Cn.to (c : Cn) (x : Co) (f t : Nat) : Co := (x.w f (x.g f - c.amt x f t)).w t (x.g t + c.amt x f t)
def Cn.canB (c : Cn) (x : Co) (f t : Nat) : Bool := !c.noB x f t && decide (0 < c.amt x f t)
/-- Cans of such a content. -/
def Cn.of (c : Cn) (x : Co) : Cn := ⟨c.sz, [x.b, x.c, x.d].take c.n, x.a⟩
structure Cn.In (c : Cn) (x : Co) : Prop where
  lo : ∀ k, k < 4 → 0 ≤ x.g k
  hi : ∀ k, k ≤ c.n → x.g k ≤ c.room k
  z : ∀ k, c.n < k → k < 4 → x.g k = 0
theorem Cn.room_s (c : Cn) (k : Nat) : c.room (k + 1) = c.s k := rfl
theorem Cn.co_g (c : Cn) (k : Nat) (h : k < 3) : c.co.g (k + 1) = c.i k := by
  obtain rfl | rfl | rfl : k = 0 ∨ k = 1 ∨ k = 2 := by omega
  all_goals rfl
theorem Cn.Ok.co_in {c : Cn} (h : c.Ok) : c.In c.co := by
  have h3 := h.n3
  refine ⟨fun k hk => ?_, fun k hk => ?_, fun k hk hk4 => ?_⟩
  · cases k with
    | zero => exact h.st0
    | succ k =>
      rw [c.co_g k (by omega)]
      by_cases hkn : k < c.n
      · exact (h.i k hkn).1
      · unfold Cn.i
        rw [List.getD_eq_getElem?_getD, List.getElem?_eq_none (by rw [h.len]; omega)]
        exact Int.le_refl _
  · cases k with
    | zero => exact h.st1
    | succ k => rw [c.co_g k (by omega)]; exact (h.i k (by omega)).2
  · cases k with
    | zero => omega
    | succ k =>
      rw [c.co_g k (by omega)]
      unfold Cn.i
      rw [List.getD_eq_getElem?_getD, List.getElem?_eq_none (by rw [h.len]; omega)]
      rfl
theorem Cn.to_g (c : Cn) (x : Co) {f t k : Nat} (hf : f < 4) (ht : t < 4) (hk : k < 4) : (c.to x f t).g k = if k = t then x.g t + c.amt x f t else if k = f then x.g f - c.amt x f t else x.g k := by
  unfold Cn.to
  rw [Co.g_w _ _ ht hk, Co.g_w _ _ hf hk]
theorem Cn.In.to {c : Cn} {x : Co} {f t : Nat} (h : c.In x) (hn : c.n ≤ 3) (hf : f ≤ c.n) (ht : t ≤ c.n) (ha : 0 ≤ c.amt x f t) : c.In (c.to x f t) := by
  have hm : c.amt x f t ≤ x.g f ∧ c.amt x f t ≤ c.room t - x.g t := by unfold Cn.amt Cn.lack; omega
  have h0 := h.lo t (by omega)
  refine ⟨fun k hk => ?_, fun k hk => ?_, fun k hk hk4 => ?_⟩
  · rw [c.to_g x (by omega) (by omega) hk]
    have := h.lo k hk
    split
    · omega
    · split <;> omega
  · rw [c.to_g x (by omega) (by omega) (by omega)]
    split
    · rename_i hkt; subst hkt; omega
    · split
      · rename_i hkf
        subst hkf
        have := h.hi k hk
        omega
      · exact h.hi k hk
  · rw [c.to_g x (by omega) (by omega) hk4, if_neg (by omega), if_neg (by omega)]
    exact h.z k hk hk4
theorem Cn.canB_iff {c : Cn} {x : Co} {f t : Nat} : c.canB x f t = true ↔ (¬ (f = 0 ∧ x.g f < c.lack x t) ∧ ¬ (t = 0 ∧ c.lack x t < x.g f)) ∧ 0 < c.amt x f t := by
  unfold Cn.canB Cn.noB
  simp only [Bool.and_eq_true, Bool.not_eq_true', Bool.or_eq_false_iff, Bool.and_eq_false_iff, decide_eq_true_eq, decide_eq_false_iff_not]
  constructor
  · rintro ⟨⟨h1, h2⟩, h3⟩; exact ⟨⟨by omega, by omega⟩, h3⟩
  · rintro ⟨⟨h1, h2⟩, h3⟩; exact ⟨⟨by omega, by omega⟩, h3⟩
theorem Cn.of_i (c : Cn) (x : Co) (k : Nat) (h : k < c.n) (hn : c.n ≤ 3) : (c.of x).i k = x.g (k + 1) := by
  unfold Cn.i Cn.of
  obtain rfl | rfl | rfl : k = 0 ∨ k = 1 ∨ k = 2 := by omega
  all_goals
    obtain h1 | h1 | h1 : c.n = 1 ∨ c.n = 2 ∨ c.n = 3 := by omega
    all_goals first | omega | (simp only [h1]; rfl)
theorem Cn.of_len (c : Cn) (x : Co) (hn : c.n ≤ 3) : (c.of x).inn.length = c.n := by
  unfold Cn.of
  simp only [List.length_take, List.length_cons, List.length_nil]
  omega
theorem Cn.Ok.of {c : Cn} (h : c.Ok) {x : Co} (hx : c.In x) : (c.of x).Ok := by
  refine ⟨h.n1, h.n3, c.of_len x h.n3, hx.lo 0 (by decide), hx.hi 0 (Nat.zero_le _), h.s, fun k hk => ?_⟩
  have hk' : k < c.n := hk
  have := h.n3
  rw [c.of_i x k hk h.n3]
  exact ⟨hx.lo (k + 1) (by omega), hx.hi (k + 1) (by omega)⟩
theorem Cn.Ok.of_co {c : Cn} (h : c.Ok) {x : Co} (hx : c.In x) : (c.of x).co = x := by
  have h3 := h.n3
  have hi := (h.of hx).co_in
  refine Co.ext4 fun k hk => ?_
  cases k with
  | zero => rfl
  | succ k =>
    by_cases hkn : k < c.n
    · rw [(c.of x).co_g k (by omega), c.of_i x k hkn h3]
    · rw [hi.z (k + 1) (show c.n < k + 1 by omega) hk, hx.z (k + 1) (by omega) hk]
theorem Cn.Ok.co_of {c : Cn} (h : c.Ok) : c.of c.co = c := by
  obtain ⟨s, i, t⟩ := c
  have h1 := h.n1
  have h3 := h.n3
  have hl := h.len
  change i.length = s.length at hl
  unfold Cn.of Cn.co Cn.n Cn.i
  simp only [Cn.mk.injEq, and_true, true_and]
  rw [← hl]
  change s.length ≤ 3 at h3
  match i, hl with
  | [], _ => rfl
  | [_], _ => rfl
  | [_, _], _ => rfl
  | [_, _, _], _ => rfl
  | _ :: _ :: _ :: _ :: _, hl => simp only [List.length_cons] at hl; omega
/-- Lists of pourings. -/
def Cn.stp (c : Cn) (x : Co) (p : Po) : Co := c.to x p.f.toNat p.t.toNat
def Cn.pE (c : Cn) (x : Co) (p : Po) : Int := if c.vldB p then if c.canB x p.f.toNat p.t.toNat then 0 else 6 else 81
def Cn.runK (c : Cn) (l : List Po) : Nat → Co
  | 0 => c.co
  | k + 1 => c.stp (c.runK l k) (l.getD k Po.z)
def bk (x y : Co) : Int := max 0 (y.a - x.a)
def Cn.backK (c : Cn) (l : List Po) : Nat → Int
  | 0 => 0
  | k + 1 => c.backK l k + bk (c.runK l k) (c.runK l (k + 1))
def Cn.badK (c : Cn) (l : List Po) : Nat → Nat → Option Nat
  | _, 0 => none
  | k, m + 1 => if c.pE (c.runK l k) (l.getD k Po.z) = 0 then c.badK l (k + 1) m else some k
def Cn.zero : Cn := ⟨[], [], 0⟩
def Cn.err (c : Cn) : Int := if c.okB then 0 else 80
def Cn.bad (c : Cn) (l : List Po) : Option Nat := c.badK l 0 l.length
def Cn.plC (c : Cn) (l : List Po) : Cn := if c.okB then match c.bad l with | none => c.of (c.runK l l.length) | some _ => Cn.zero else Cn.zero
def Cn.plB (c : Cn) (l : List Po) : Int := if c.okB then match c.bad l with | none => c.backK l l.length | some _ => 0 else 0
def Cn.plA (c : Cn) (l : List Po) : Int := if c.okB then match c.bad l with | none => 0 | some k => (k : Int) else 0
def Cn.plE (c : Cn) (l : List Po) : Int := if c.okB then match c.bad l with | none => 0 | some k => c.pE (c.runK l k) (l.getD k Po.z) else 80
def Cn.poC (c : Cn) (p : Po) : Cn := if c.okB then if c.pE c.co p = 0 then c.of (c.stp c.co p) else Cn.zero else Cn.zero
def Cn.poE (c : Cn) (p : Po) : Int := if c.okB then c.pE c.co p else 80
theorem Cn.vld_iff {c : Cn} {p : Po} : c.vldB p = true ↔ (0 ≤ p.f ∧ p.f ≤ c.n) ∧ (0 ≤ p.t ∧ p.t ≤ c.n) ∧ p.f ≠ p.t := by
  unfold Cn.vldB
  simp only [Bool.and_eq_true, inB2, decide_eq_true_eq]
  constructor
  · rintro ⟨⟨h1, h2⟩, h3⟩; exact ⟨h1, h2, h3⟩
  · rintro ⟨h1, h2, h3⟩; exact ⟨⟨h1, h2⟩, h3⟩
theorem Cn.pE_zero {c : Cn} {x : Co} {p : Po} : c.pE x p = 0 ↔ c.vldB p = true ∧ c.canB x p.f.toNat p.t.toNat = true := by
  unfold Cn.pE
  split
  · rename_i h; split
    · rename_i h2; simp [h, h2]
    · rename_i h2; simp [h2]
  · rename_i h; simp [h]
theorem Cn.In.stp {c : Cn} {x : Co} {p : Po} (h : c.In x) (hn : c.n ≤ 3) (hp : c.pE x p = 0) : c.In (c.stp x p) := by
  obtain ⟨h1, h2⟩ := Cn.pE_zero.1 hp
  rw [Cn.vld_iff] at h1
  exact h.to hn (by omega) (by omega) (Int.le_of_lt (Cn.canB_iff.1 h2).2)
end Go.Proofs.YtjekjehgmljbgaaDoor.T

/- Ways: lists of pourings, their order, the best ones, and how they are found level by level. Pure. -/
namespace Go.Proofs.YtjekjehgmljbgaaDoor.T
open Go.RowKit Go.Eng

def Cn.runO (c : Cn) : Co → List Po → Option Co
  | x, [] => some x
  | x, p :: l => if c.pE x p = 0 then c.runO (c.stp x p) l else none
def Cn.bkO (c : Cn) : Co → List Po → Int
  | _, [] => 0
  | x, p :: l => bk x (c.stp x p) + c.bkO (c.stp x p) l
theorem Cn.runO_snoc (c : Cn) (p : Po) : ∀ (l : List Po) (x : Co), c.runO x (l ++ [p]) = (c.runO x l).bind fun y => if c.pE y p = 0 then some (c.stp y p) else none
  | [], x => by simp [Cn.runO]
  | q :: l, x => by
    simp only [List.cons_append, Cn.runO]
    split
    · exact Cn.runO_snoc c p l _
    · rfl
theorem Cn.bkO_snoc (c : Cn) (p : Po) : ∀ (l : List Po) (x y : Co), c.runO x l = some y → c.bkO x (l ++ [p]) = c.bkO x l + bk y (c.stp y p)
  | [], x, y, h => by cases h; simp [Cn.bkO]
  | q :: l, x, y, h => by
    simp only [List.cons_append, Cn.bkO]
    unfold Cn.runO at h
    split at h
    · rw [Cn.bkO_snoc c p l _ y h]; omega
    · cases h
def Po.lt (p q : Po) : Bool := decide (p.f < q.f) || (decide (p.f = q.f) && decide (p.t < q.t))
theorem Po.lt_iff {p q : Po} : p.lt q = true ↔ p.f < q.f ∨ (p.f = q.f ∧ p.t < q.t) := by
  unfold Po.lt
  simp only [Bool.or_eq_true, Bool.and_eq_true, decide_eq_true_eq]
theorem Po.eq_of {p q : Po} (h1 : ¬ p.lt q = true) (h2 : ¬ q.lt p = true) : p = q := by
  rw [Po.lt_iff] at h1 h2
  obtain ⟨a, b⟩ := p
  obtain ⟨a', b'⟩ := q
  simp only at h1 h2
  simp only [Po.mk.injEq]
  omega
/-- One list is before another one as long. -/
def plt : List Po → List Po → Bool
  | p :: l, q :: m => p.lt q || (decide (p = q) && plt l m)
  | _, _ => false
theorem plt_irrefl : ∀ l, plt l l = false
  | [] => rfl
  | p :: l => by
    have : p.lt p = false := by
      cases h : p.lt p with
      | false => rfl
      | true => rw [Po.lt_iff] at h; omega
    simp [plt, this, plt_irrefl l]
theorem plt_trans : ∀ {l m r : List Po}, plt l m = true → plt m r = true → plt l r = true
  | [], _, _, h, _ => by simp [plt] at h
  | _ :: _, [], _, h, _ => by simp [plt] at h
  | _ :: _, _ :: _, [], _, h => by simp [plt] at h
  | p :: l, q :: m, s :: r, h1, h2 => by
    simp only [plt, Bool.or_eq_true, Bool.and_eq_true, decide_eq_true_eq, Po.lt_iff] at h1 h2 ⊢
    rcases h1 with h1 | ⟨rfl, h1⟩
    · rcases h2 with h2 | ⟨rfl, h2⟩
      · left; omega
      · left; exact h1
    · rcases h2 with h2 | ⟨rfl, h2⟩
      · left; exact h2
      · right; exact ⟨rfl, plt_trans h1 h2⟩
theorem plt_tot : ∀ {l m : List Po}, l.length = m.length → plt l m = false → plt m l = false → l = m
  | [], [], _, _, _ => rfl
  | [], _ :: _, h, _, _ => by cases h
  | _ :: _, [], h, _, _ => by cases h
  | p :: l, q :: m, h, h1, h2 => by
    simp only [plt, Bool.or_eq_false_iff, Bool.and_eq_false_iff, decide_eq_false_iff_not] at h1 h2
    have hpq : p = q := Po.eq_of (by rw [h1.1]; simp) (by rw [h2.1]; simp)
    subst hpq
    simp only [not_true_eq_false, false_or] at h1 h2
    rw [plt_tot (by simpa using h) h1.2 h2.2]
theorem plt_snoc {p : Po} : ∀ {l m : List Po}, plt l m = true → l.length = m.length → plt (l ++ [p]) (m ++ [p]) = true
  | [], _, h, _ => by simp [plt] at h
  | _ :: _, [], h, _ => by simp [plt] at h
  | q :: l, s :: m, h, hl => by
    simp only [List.cons_append, plt, Bool.or_eq_true, Bool.and_eq_true] at h ⊢
    rcases h with h | ⟨h1, h2⟩
    · exact .inl h
    · exact .inr ⟨h1, plt_snoc h2 (by simpa using hl)⟩
structure Wy where
  l : List Po
  back : Int
deriving DecidableEq
def Wy.lt (a b : Wy) : Bool := decide (a.l.length < b.l.length) || (decide (a.l.length = b.l.length) && (decide (a.back < b.back) || (decide (a.back = b.back) && plt a.l b.l)))
theorem Wy.lt_iff {a b : Wy} : a.lt b = true ↔ a.l.length < b.l.length ∨ (a.l.length = b.l.length ∧ (a.back < b.back ∨ (a.back = b.back ∧ plt a.l b.l = true))) := by
  unfold Wy.lt
  simp only [Bool.or_eq_true, Bool.and_eq_true, decide_eq_true_eq]
theorem Wy.lt_irrefl (a : Wy) : a.lt a = false := by
  cases h : a.lt a with
  | false => rfl
  | true =>
    rw [Wy.lt_iff, plt_irrefl] at h
    rcases h with h | ⟨_, h | ⟨_, h⟩⟩
    · omega
    · omega
    · cases h
theorem Wy.lt_trans {a b d : Wy} (h1 : a.lt b = true) (h2 : b.lt d = true) : a.lt d = true := by
  rw [Wy.lt_iff] at h1 h2 ⊢
  rcases h1 with h1 | ⟨e1, h1⟩
  · rcases h2 with h2 | ⟨e2, h2⟩ <;> (left; omega)
  · rcases h2 with h2 | ⟨e2, h2⟩
    · left; omega
    · right
      refine ⟨by omega, ?_⟩
      rcases h1 with h1 | ⟨f1, h1⟩
      · rcases h2 with h2 | ⟨f2, h2⟩ <;> (left; omega)
      · rcases h2 with h2 | ⟨f2, h2⟩
        · left; omega
        · right; exact ⟨by omega, plt_trans h1 h2⟩
theorem Wy.tot {a b : Wy} (h1 : a.lt b = false) (h2 : b.lt a = false) : a = b := by
  have g1 : ¬ a.lt b = true := by rw [h1]; simp
  have g2 : ¬ b.lt a = true := by rw [h2]; simp
  rw [Wy.lt_iff] at g1 g2
  have hl : a.l.length = b.l.length := by omega
  have hb : a.back = b.back := by
    by_cases h : a.back < b.back
    · exact absurd (.inr ⟨hl, .inl h⟩) g1
    · by_cases h' : b.back < a.back
      · exact absurd (.inr ⟨hl.symm, .inl h'⟩) g2
      · omega
  have e1 : plt a.l b.l = false := by
    cases h : plt a.l b.l with
    | false => rfl
    | true => exact absurd (.inr ⟨hl, .inr ⟨hb, h⟩⟩) g1
  have e2 : plt b.l a.l = false := by
    cases h : plt b.l a.l with
    | false => rfl
    | true => exact absurd (.inr ⟨hl.symm, .inr ⟨hb.symm, h⟩⟩) g2
  obtain ⟨al, ab⟩ := a
  obtain ⟨bl, bb⟩ := b
  simp only at hl hb e1 e2
  rw [plt_tot hl e1 e2, hb]
/-- A way leads to some content. -/
structure Cn.Way (c : Cn) (w : Wy) (y : Co) : Prop where
  run : c.runO c.co w.l = some y
  back : w.back = c.bkO c.co w.l
structure Cn.Best (c : Cn) (w : Wy) (y : Co) : Prop where
  way : c.Way w y
  least : ∀ v, c.Way v y → v.lt w = false
theorem Cn.Best.uniq {c : Cn} {w v : Wy} {y : Co} (h : c.Best w y) (h' : c.Best v y) : w = v := Wy.tot (h'.least w h.way) (h.least v h'.way)
theorem Cn.Way.snoc {c : Cn} {w : Wy} {x : Co} {p : Po} (h : c.Way w x) (hp : c.pE x p = 0) : c.Way ⟨w.l ++ [p], w.back + bk x (c.stp x p)⟩ (c.stp x p) :=
  ⟨by simp only [Cn.runO_snoc, h.run, Option.bind_some, if_pos hp], by simp only [c.bkO_snoc p _ _ _ h.run, h.back]⟩
theorem Cn.Way.init {c : Cn} {l : List Po} {p : Po} {b : Int} {y : Co} (h : c.Way ⟨l ++ [p], b⟩ y) : ∃ x, c.Way ⟨l, c.bkO c.co l⟩ x ∧ c.pE x p = 0 ∧ y = c.stp x p ∧ b = c.bkO c.co l + bk x (c.stp x p) := by
  have h1 := h.run
  have h2 := h.back
  simp only [Cn.runO_snoc] at h1
  cases hx : c.runO c.co l with
  | none => rw [hx] at h1; cases h1
  | some x =>
    rw [hx, Option.bind_some] at h1
    split at h1
    · rename_i hp
      cases h1
      exact ⟨x, ⟨hx, rfl⟩, hp, rfl, by simp only [c.bkO_snoc p _ _ _ hx] at h2; exact h2⟩
    · cases h1
theorem Wy.lt_snoc {v w : Wy} {p : Po} {d : Int} (h : v.lt w = true) : Wy.lt ⟨v.l ++ [p], v.back + d⟩ ⟨w.l ++ [p], w.back + d⟩ = true := by
  rw [Wy.lt_iff] at h ⊢
  simp only [List.length_append, List.length_singleton]
  rcases h with h | ⟨h1, h2 | ⟨h2, h3⟩⟩
  · left; omega
  · right; exact ⟨by omega, .inl (by omega)⟩
  · right; exact ⟨by omega, .inr ⟨by omega, plt_snoc h3 h1⟩⟩
theorem Cn.Best.init {c : Cn} {l : List Po} {p : Po} {b : Int} {y : Co} (h : c.Best ⟨l ++ [p], b⟩ y) : ∃ x, c.Best ⟨l, c.bkO c.co l⟩ x ∧ c.pE x p = 0 ∧ y = c.stp x p ∧ b = c.bkO c.co l + bk x (c.stp x p) := by
  obtain ⟨x, h1, h2, rfl, rfl⟩ := h.way.init
  refine ⟨x, ⟨h1, fun v hv => ?_⟩, h2, rfl, rfl⟩
  cases hlt : v.lt ⟨l, c.bkO c.co l⟩ with
  | false => rfl
  | true =>
    have := h.least _ (hv.snoc h2)
    rw [Wy.lt_snoc hlt] at this
    exact this
/-- Of some ways, which lead to such a content, the least. -/
theorem exists_min {α : Type} (S : α → Prop) (lt : α → α → Bool) (m : α → Nat) (hirr : ∀ a, lt a a = false) (htr : ∀ {a b d}, lt a b = true → lt b d = true → lt a d = true) (l : List α) (hl : ∃ a ∈ l, S a) :
    ∃ a ∈ l, S a ∧ ∀ b ∈ l, S b → lt b a = false := by
  induction l with
  | nil => obtain ⟨_, h, _⟩ := hl; cases h
  | cons x l ih =>
    by_cases h : ∃ a ∈ l, S a
    · obtain ⟨a, ha, hs, hm⟩ := ih h
      by_cases hx : S x ∧ lt x a = true
      · refine ⟨x, List.mem_cons_self, hx.1, fun b hb hsb => ?_⟩
        rcases List.mem_cons.1 hb with rfl | hb
        · exact hirr _
        · cases hbx : lt b x with
          | false => rfl
          | true => have := hm b hb hsb; rw [htr hbx hx.2] at this; exact this
      · refine ⟨a, List.mem_cons_of_mem _ ha, hs, fun b hb hsb => ?_⟩
        rcases List.mem_cons.1 hb with rfl | hb
        · cases hba : lt b a with
          | false => rfl
          | true => exact absurd ⟨hsb, hba⟩ hx
        · exact hm b hb hsb
    · obtain ⟨a, ha, hs⟩ := hl
      rcases List.mem_cons.1 ha with rfl | ha
      · refine ⟨a, List.mem_cons_self, hs, fun b hb hsb => ?_⟩
        rcases List.mem_cons.1 hb with rfl | hb
        · exact hirr _
        · exact absurd ⟨b, hb, hsb⟩ h
      · exact absurd ⟨a, ha, hs⟩ h
end Go.Proofs.YtjekjehgmljbgaaDoor.T

/- Ways: there is a best one, how long it can be, and what is known after each level; pure. -/
namespace Go.Proofs.YtjekjehgmljbgaaDoor.T
open Go.RowKit Go.Eng

theorem nodup_bd : ∀ {N : Nat} {l : List Nat}, l.Nodup → (∀ x ∈ l, x < N) → l.length ≤ N
  | 0, [], _, _ => Nat.le_refl _
  | 0, x :: l, _, h => absurd (h x List.mem_cons_self) (Nat.not_lt_zero _)
  | N + 1, l, hn, h => by
    have h1 : (l.erase N).Nodup := hn.erase N
    have h2 : ∀ x ∈ l.erase N, x < N := fun x hx => by
      have h3 := hn.mem_erase_iff.1 hx
      have := h x h3.2
      have := h3.1
      omega
    have h4 := nodup_bd h1 h2
    have h5 : l.length ≤ (l.erase N).length + 1 := by rw [List.length_erase]; split <;> omega
    omega
/-! ### What pourings keep -/
def Co.sm (x : Co) : Int := x.a + x.b + x.c + x.d
theorem Cn.to_sm (c : Cn) (x : Co) {f t : Nat} (hf : f < 4) (ht : t < 4) (hft : f ≠ t) : (c.to x f t).sm = x.sm := by
  unfold Cn.to Co.sm
  generalize c.amt x f t = m
  obtain rfl | rfl | rfl | rfl := lt4 hf <;> obtain rfl | rfl | rfl | rfl := lt4 ht
  all_goals first | exact absurd rfl hft | (simp only [Co.w, Co.g]; omega)
theorem Cn.stp_sm {c : Cn} {x : Co} {p : Po} (hn : c.n ≤ 3) (hp : c.pE x p = 0) : (c.stp x p).sm = x.sm := by
  obtain ⟨h1, _⟩ := Cn.pE_zero.1 hp
  rw [Cn.vld_iff] at h1
  exact c.to_sm x (by omega) (by omega) (by omega)
theorem Cn.runO_in {c : Cn} (hn : c.n ≤ 3) : ∀ {l : List Po} {x y : Co}, c.In x → c.runO x l = some y → c.In y ∧ y.sm = x.sm
  | [], x, y, hx, h => by cases h; exact ⟨hx, rfl⟩
  | p :: l, x, y, hx, h => by
    unfold Cn.runO at h
    split at h
    · rename_i hp
      obtain ⟨h1, h2⟩ := Cn.runO_in hn (hx.stp hn hp) h
      exact ⟨h1, h2.trans (Cn.stp_sm hn hp)⟩
    · cases h
theorem Cn.Way.in {c : Cn} {w : Wy} {y : Co} (hok : c.Ok) (h : c.Way w y) : c.In y ∧ y.sm = c.co.sm := Cn.runO_in hok.n3 hok.co_in h.run
/-- The number of what is in the cans. -/
def kyL : Int → List Int → Int
  | n, [] => n
  | n, x :: l => kyL (21 * n + x) l
def Cn.ky (c : Cn) (x : Co) : Int := kyL 0 (c.of x).inn
theorem Cn.In.bd {c : Cn} {x : Co} (hok : c.Ok) (h : c.In x) {k : Nat} (hk : k < 4) (h0 : k ≠ 0) : 0 ≤ x.g k ∧ x.g k ≤ 20 := by
  refine ⟨h.lo k hk, ?_⟩
  obtain ⟨j, rfl⟩ : ∃ j, k = j + 1 := ⟨k - 1, by omega⟩
  by_cases hj : j < c.n
  · have := h.hi (j + 1) (by omega)
    rw [c.room_s] at this
    have := (hok.s j hj).2
    omega
  · have := h.z (j + 1) (by omega) hk
    omega
theorem Cn.ky_eq {c : Cn} (hok : c.Ok) (x : Co) : c.ky x = if c.n = 1 then x.b else if c.n = 2 then 21 * x.b + x.c else 21 * (21 * x.b + x.c) + x.d := by
  have h1 := hok.n1
  have h3 := hok.n3
  unfold Cn.ky Cn.of
  simp only
  obtain h | h | h : c.n = 1 ∨ c.n = 2 ∨ c.n = 3 := by omega
  all_goals rw [h]; simp [kyL]
theorem Cn.ky_bd {c : Cn} (hok : c.Ok) {x : Co} (h : c.In x) : 0 ≤ c.ky x ∧ c.ky x < 9261 := by
  have hb : 0 ≤ x.b ∧ x.b ≤ 20 := h.bd hok (k := 1) (by decide) (by decide)
  have hc : 0 ≤ x.c ∧ x.c ≤ 20 := h.bd hok (k := 2) (by decide) (by decide)
  have hd : 0 ≤ x.d ∧ x.d ≤ 20 := h.bd hok (k := 3) (by decide) (by decide)
  rw [Cn.ky_eq hok]
  split
  · omega
  · split <;> omega
theorem Cn.ky_inj {c : Cn} (hok : c.Ok) {x y : Co} (hx : c.In x) (hy : c.In y) (hs : x.sm = y.sm) (h : c.ky x = c.ky y) : x = y := by
  have h1 := hok.n1
  have h3 := hok.n3
  have hb : 0 ≤ x.b ∧ x.b ≤ 20 := hx.bd hok (k := 1) (by decide) (by decide)
  have hc : 0 ≤ x.c ∧ x.c ≤ 20 := hx.bd hok (k := 2) (by decide) (by decide)
  have hd : 0 ≤ x.d ∧ x.d ≤ 20 := hx.bd hok (k := 3) (by decide) (by decide)
  have hb' : 0 ≤ y.b ∧ y.b ≤ 20 := hy.bd hok (k := 1) (by decide) (by decide)
  have hc' : 0 ≤ y.c ∧ y.c ≤ 20 := hy.bd hok (k := 2) (by decide) (by decide)
  have hd' : 0 ≤ y.d ∧ y.d ≤ 20 := hy.bd hok (k := 3) (by decide) (by decide)
  have z2 : c.n < 2 → x.c = 0 ∧ y.c = 0 := fun hn => ⟨hx.z 2 hn (by decide), hy.z 2 hn (by decide)⟩
  have z3 : c.n < 3 → x.d = 0 ∧ y.d = 0 := fun hn => ⟨hx.z 3 hn (by decide), hy.z 3 hn (by decide)⟩
  rw [Cn.ky_eq hok, Cn.ky_eq hok] at h
  obtain ⟨xa, xb, xc, xd⟩ := x
  obtain ⟨ya, yb, yc, yd⟩ := y
  unfold Co.sm at hs
  simp only at hs hb hc hd hb' hc' hd' z2 z3 h
  simp only [Co.mk.injEq]
  obtain hn | hn | hn : c.n = 1 ∨ c.n = 2 ∨ c.n = 3 := by omega
  · simp only [hn, if_true] at h
    have := z2 (by omega)
    have := z3 (by omega)
    omega
  · simp only [hn, if_true, show ¬ ((2 : Nat) = 1) by decide, if_false] at h
    have := z3 (by omega)
    omega
  · simp only [hn, show ¬ ((3 : Nat) = 1) by decide, show ¬ ((3 : Nat) = 2) by decide, if_false] at h
    omega
/-! ### How long -/
theorem Cn.Best.chain {c : Cn} : ∀ {m : Nat} {w : Wy} {y : Co}, w.l.length = m → c.Best w y → ∃ xs : List Co, xs.length = m + 1 ∧ ∀ i x, xs[i]? = some x → ∃ v, c.Best v x ∧ v.l.length = i
  | 0, w, y, hl, h => ⟨[y], rfl, fun i x hx => by
      cases i with
      | zero => cases hx; exact ⟨w, h, hl⟩
      | succ i => simp at hx⟩
  | m + 1, w, y, hl, h => by
    obtain ⟨l, b⟩ := w
    simp only at hl
    obtain ⟨l0, p, rfl⟩ : ∃ l0 p, l = l0 ++ [p] := by
      rcases List.eq_nil_or_concat l with rfl | ⟨l0, p, rfl⟩
      · cases hl
      · exact ⟨l0, p, by simp⟩
    rw [List.length_append, List.length_singleton] at hl
    obtain ⟨x, hb, _, _, _⟩ := h.init
    obtain ⟨xs, h1, h2⟩ := Cn.Best.chain (m := m) (show l0.length = m by omega) hb
    refine ⟨xs ++ [y], by rw [List.length_append, h1]; rfl, fun i z hz => ?_⟩
    by_cases hi : i < xs.length
    · rw [List.getElem?_append_left hi] at hz
      exact h2 i z hz
    · rw [List.getElem?_append_right (by omega)] at hz
      have hi2 : i = xs.length := by
        by_cases hj : i - xs.length = 0
        · omega
        · obtain ⟨j, hj⟩ : ∃ j, i - xs.length = j + 1 := ⟨i - xs.length - 1, by omega⟩
          rw [hj] at hz
          simp at hz
      subst hi2
      rw [Nat.sub_self] at hz
      cases hz
      exact ⟨_, h, by simp only [List.length_append, List.length_singleton]; omega⟩
theorem Cn.Best.len {c : Cn} (hok : c.Ok) {w : Wy} {y : Co} (h : c.Best w y) : w.l.length ≤ 9260 := by
  obtain ⟨xs, h1, h2⟩ := h.chain rfl
  have hin : ∀ i x, xs[i]? = some x → c.In x ∧ x.sm = c.co.sm := fun i x hx => by
    obtain ⟨v, hv, _⟩ := h2 i x hx
    exact hv.way.in hok
  have hm : ∀ x ∈ xs, c.In x := fun x hx => by
    obtain ⟨i, hi⟩ := List.getElem?_of_mem hx
    exact (hin i x hi).1
  have hnd : (xs.map fun x => (c.ky x).toNat).Nodup := by
    rw [List.nodup_iff_pairwise_ne] <;> rw [List.pairwise_iff_getElem]
    intro i j hi hj hij he
    simp only [List.length_map] at hi hj
    simp only [List.getElem_map] at he
    have e1 : xs[i]? = some xs[i] := List.getElem?_eq_getElem hi
    have e2 : xs[j]? = some xs[j] := List.getElem?_eq_getElem hj
    obtain ⟨i1, i2⟩ := hin _ _ e1
    obtain ⟨j1, j2⟩ := hin _ _ e2
    have k1 := Cn.ky_bd hok i1
    have k2 := Cn.ky_bd hok j1
    have hx := Cn.ky_inj hok i1 j1 (i2.trans j2.symm) (by omega)
    obtain ⟨v, hv, hvl⟩ := h2 _ _ e1
    obtain ⟨u, hu, hul⟩ := h2 _ _ e2
    rw [hx] at hv
    have := hv.uniq hu
    subst this
    omega
  have := nodup_bd (N := 9261) hnd fun n hn => by
    obtain ⟨x, hx, rfl⟩ := List.mem_map.1 hn
    have := Cn.ky_bd hok (hm x hx)
    omega
  rw [List.length_map, h1] at this
  omega
/-! ### There is a best one -/
def allP : List Po := [0, 1, 2, 3].flatMap fun f => [0, 1, 2, 3].map fun t => ⟨f, t⟩
def lists : Nat → List (List Po)
  | 0 => [[]]
  | m + 1 => [] :: (lists m).flatMap fun l => allP.map fun p => p :: l
theorem mem_lists : ∀ {m : Nat} {l : List Po}, l.length ≤ m → (∀ p ∈ l, p ∈ allP) → l ∈ lists m
  | 0, [], _, _ => List.mem_cons_self
  | 0, _ :: _, h, _ => absurd h (by simp)
  | m + 1, [], _, _ => List.mem_cons_self
  | m + 1, p :: l, h, hp => by
    unfold lists
    refine List.mem_cons_of_mem _ (List.mem_flatMap.2 ⟨l, mem_lists (by simp only [List.length_cons] at h; omega) fun q hq => hp q (List.mem_cons_of_mem _ hq), ?_⟩)
    exact List.mem_map.2 ⟨p, hp p List.mem_cons_self, rfl⟩
theorem Cn.pE_all {c : Cn} (hn : c.n ≤ 3) {x : Co} {p : Po} (hp : c.pE x p = 0) : p ∈ allP := by
  obtain ⟨h1, _⟩ := Cn.pE_zero.1 hp
  rw [Cn.vld_iff] at h1
  obtain ⟨f, t⟩ := p
  simp only at h1
  have hf : f = 0 ∨ f = 1 ∨ f = 2 ∨ f = 3 := by omega
  have ht : t = 0 ∨ t = 1 ∨ t = 2 ∨ t = 3 := by omega
  rcases hf with rfl | rfl | rfl | rfl <;> rcases ht with rfl | rfl | rfl | rfl
  all_goals decide
theorem Cn.runO_all {c : Cn} (hn : c.n ≤ 3) : ∀ {l : List Po} {x y : Co}, c.runO x l = some y → ∀ p ∈ l, p ∈ allP
  | [], _, _, _, p, hp => by cases hp
  | q :: l, x, y, h, p, hp => by
    unfold Cn.runO at h
    split at h
    · rename_i hq
      rcases List.mem_cons.1 hp with rfl | hp
      · exact Cn.pE_all hn hq
      · exact Cn.runO_all hn h p hp
    · cases h
theorem Cn.Way.best {c : Cn} (hn : c.n ≤ 3) {w : Wy} {y : Co} (h : c.Way w y) : ∃ v, c.Best v y := by
  have hmem : ∀ v, c.Way v y → v.l.length ≤ w.l.length → v ∈ (lists w.l.length).map fun l => (⟨l, c.bkO c.co l⟩ : Wy) := fun v hv hl =>
    List.mem_map.2 ⟨v.l, mem_lists hl (Cn.runO_all hn hv.run), by rw [← hv.back]⟩
  obtain ⟨a, ha, hs, hm⟩ := exists_min (fun v => c.Way v y ∧ v.l.length ≤ w.l.length) Wy.lt (fun v => v.l.length) Wy.lt_irrefl Wy.lt_trans _ ⟨w, hmem w h (Nat.le_refl _), h, Nat.le_refl _⟩
  refine ⟨a, hs.1, fun v hv => ?_⟩
  by_cases hl : v.l.length ≤ w.l.length
  · exact hm v (hmem v hv hl) ⟨hv, hl⟩
  · cases hlt : v.lt a with
    | false => rfl
    | true =>
      rw [Wy.lt_iff] at hlt
      have := hs.2
      omega
/-! ### Least ones -/
def IsMin (T : Wy → Prop) : Option Wy → Prop
  | none => ∀ v, ¬ T v
  | some w => T w ∧ ∀ v, T v → v.lt w = false
theorem IsMin.uniq {T : Wy → Prop} : ∀ {a b : Option Wy}, IsMin T a → IsMin T b → a = b
  | none, none, _, _ => rfl
  | none, some w, h, h' => absurd h'.1 (h w)
  | some w, none, h, h' => absurd h.1 (h' w)
  | some w, some v, h, h' => by rw [Wy.tot (h'.2 w h.1) (h.2 v h'.1)]
theorem IsMin.congr {T T' : Wy → Prop} (h : ∀ v, T v ↔ T' v) : ∀ {a : Option Wy}, IsMin T a → IsMin T' a
  | none, ha => fun v hv => ha v ((h v).2 hv)
  | some w, ha => ⟨(h w).1 ha.1, fun v hv => ha.2 v ((h v).2 hv)⟩
def pickW (r : Option Wy) (v : Wy) : Wy :=
  match r with
  | none => v
  | some w => if v.lt w then v else w
theorem IsMin.step {T : Wy → Prop} (v0 : Wy) : ∀ {r : Option Wy}, IsMin T r → IsMin (fun v => T v ∨ v = v0) (some (pickW r v0))
  | none, h => ⟨.inr rfl, fun v hv => by
      rcases hv with hv | rfl
      · exact absurd hv (h v)
      · exact Wy.lt_irrefl _⟩
  | some w, h => by
    unfold pickW
    simp only
    by_cases hl : v0.lt w = true
    · rw [if_pos hl]
      refine ⟨.inr rfl, fun v hv => ?_⟩
      rcases hv with hv | rfl
      · cases hvl : v.lt v0 with
        | false => rfl
        | true => have := h.2 v hv; rw [Wy.lt_trans hvl hl] at this; exact this
      · exact Wy.lt_irrefl _
    · rw [if_neg hl]
      refine ⟨.inl h.1, fun v hv => ?_⟩
      rcases hv with hv | rfl
      · exact h.2 v hv
      · simpa using hl
/-! ### Levels -/
def Cn.Lv (c : Cn) (n : Nat) (w : Wy) (y : Co) : Prop := c.Best w y ∧ w.l.length = n
def Cn.nx (c : Cn) (w : Wy) (x : Co) (p : Po) : Wy := ⟨w.l ++ [p], w.back + bk x (c.stp x p)⟩
def Cn.Kn (c : Cn) (n : Nat) (y : Co) : Prop := ∃ u, c.Best u y ∧ u.l.length ≤ n
theorem Cn.Lv.cand {c : Cn} {n : Nat} {w : Wy} {y : Co} (h : c.Lv (n + 1) w y) : ∃ x v p, c.Lv n v x ∧ c.pE x p = 0 ∧ y = c.stp x p ∧ w = c.nx v x p := by
  obtain ⟨h, hl⟩ := h
  obtain ⟨l, b⟩ := w
  simp only at hl
  obtain ⟨l0, p, rfl⟩ : ∃ l0 p, l = l0 ++ [p] := by
    rcases List.eq_nil_or_concat l with rfl | ⟨l0, p, rfl⟩
    · cases hl
    · exact ⟨l0, p, by simp⟩
  rw [List.length_append, List.length_singleton] at hl
  obtain ⟨x, hb, hp, rfl, rfl⟩ := h.init
  exact ⟨x, _, p, ⟨hb, by simp only; omega⟩, hp, rfl, rfl⟩
theorem Cn.Lv.way {c : Cn} {n : Nat} {w : Wy} {x : Co} {p : Po} (h : c.Lv n w x) (hp : c.pE x p = 0) : c.Way (c.nx w x p) (c.stp x p) ∧ (c.nx w x p).l.length = n + 1 :=
  ⟨h.1.way.snoc hp, by unfold Cn.nx; simp only [List.length_append, List.length_singleton]; have := h.2; omega⟩
theorem Cn.level {c : Cn} (hn : c.n ≤ 3) {n : Nat} {P : Co → Wy → Prop} {look : Co → Option Wy} (hM : ∀ y, IsMin (P y) (look y))
    (hs : ∀ y v, P y v → ¬ c.Kn n y ∧ ∃ x w p, c.Lv n w x ∧ c.pE x p = 0 ∧ y = c.stp x p ∧ v = c.nx w x p)
    (hc : ∀ x w p, c.Lv n w x → c.pE x p = 0 → ¬ c.Kn n (c.stp x p) → P (c.stp x p) (c.nx w x p)) (y : Co) (w : Wy) : look y = some w ↔ c.Lv (n + 1) w y := by
  have key : ∀ y w, look y = some w → c.Lv (n + 1) w y := fun y w h => by
    have hm := hM y
    rw [h] at hm
    obtain ⟨hP, hmin⟩ := hm
    obtain ⟨hk, x, w', p, hl, hp, rfl, rfl⟩ := hs _ _ hP
    obtain ⟨hway, hlen⟩ := hl.way hp
    obtain ⟨u, hu⟩ := hway.best hn
    have h1 := hu.least _ hway
    have h2 : u.l.length = n + 1 := by
      have h3 : n < u.l.length := Nat.lt_of_not_le fun h => hk ⟨u, hu, h⟩
      have h4 : ¬ (c.nx w' x p).l.length < u.l.length := fun h => by
        have : (c.nx w' x p).lt u = true := Wy.lt_iff.2 (.inl h)
        rw [h1] at this; cases this
      omega
    obtain ⟨x2, v2, p2, hl2, hp2, he2, rfl⟩ := Cn.Lv.cand ⟨hu, h2⟩
    have hP2 := hc x2 v2 p2 hl2 hp2 (by rw [← he2]; exact hk)
    rw [← he2] at hP2
    have h5 := hmin _ hP2
    rw [Wy.tot h1 h5]
    exact ⟨hu, h2⟩
  refine ⟨key y w, fun h => ?_⟩
  obtain ⟨x, v, p, hl, hp, rfl, rfl⟩ := h.cand
  have hk : ¬ c.Kn n (c.stp x p) := fun ⟨u, hu, hul⟩ => by
    have := h.1.uniq hu
    subst this
    have := h.2
    omega
  have hP := hc x v p hl hp hk
  have hm := hM (c.stp x p)
  cases hlk : look (c.stp x p) with
  | none => rw [hlk] at hm; exact absurd hP (hm _)
  | some w' => rw [(key _ _ hlk).1.uniq h.1]
theorem Cn.no_more {c : Cn} {n : Nat} (h : ∀ w y, ¬ c.Lv n w y) {w : Wy} {y : Co} (hb : c.Best w y) : w.l.length < n := by
  refine Nat.lt_of_not_le fun hl => ?_
  obtain ⟨xs, h1, h2⟩ := hb.chain rfl
  obtain ⟨v, hv, hvl⟩ := h2 n xs[n] (List.getElem?_eq_getElem (by omega))
  exact h v _ ⟨hv, hvl⟩
theorem Cn.lv_zero {c : Cn} {w : Wy} {y : Co} : c.Lv 0 w y ↔ w = ⟨[], 0⟩ ∧ y = c.co := by
  constructor
  · rintro ⟨h, hl⟩
    have h1 := h.way.run
    have h2 := h.way.back
    obtain ⟨l, b⟩ := w
    obtain rfl : l = [] := List.eq_nil_of_length_eq_zero hl
    simp only [Cn.runO, Cn.bkO, Option.some.injEq] at h1 h2
    exact ⟨by rw [h2], h1.symm⟩
  · rintro ⟨rfl, rfl⟩
    refine ⟨⟨⟨rfl, rfl⟩, fun v hv => ?_⟩, rfl⟩
    cases hlt : v.lt ⟨[], 0⟩ with
    | false => rfl
    | true =>
      rw [Wy.lt_iff] at hlt
      obtain ⟨l, b⟩ := v
      rcases hlt with h | ⟨h1, h2⟩
      · exact absurd h (Nat.not_lt_zero _)
      · obtain rfl : l = [] := List.eq_nil_of_length_eq_zero h1
        have hb := hv.back
        simp only [Cn.bkO] at hb
        subst hb
        rcases h2 with h2 | ⟨_, h2⟩
        · exact absurd h2 (by decide)
        · cases h2
theorem Cn.Best.back {c : Cn} (hok : c.Ok) {w : Wy} {y : Co} (h : c.Way w y) : 0 ≤ w.back ∧ w.back ≤ 600 * (w.l.length : Int) := by
  rw [h.back]
  have : ∀ {l : List Po} {x : Co}, c.In x → c.runO x l = some y → 0 ≤ c.bkO x l ∧ c.bkO x l ≤ 600 * (l.length : Int) := by
    intro l
    induction l with
    | nil => intro x _ _; exact ⟨Int.le_refl _, by simp [Cn.bkO]⟩
    | cons p l ih =>
      intro x hx hr
      unfold Cn.runO at hr
      split at hr
      · rename_i hp
        have hs := hx.stp hok.n3 hp
        obtain ⟨h1, h2⟩ := ih hs hr
        have a1 : 0 ≤ x.a := hx.lo 0 (by decide)
        have a2 : (c.stp x p).a ≤ 600 := hs.hi 0 (Nat.zero_le _)
        unfold Cn.bkO bk
        simp only [List.length_cons]
        omega
      · cases hr
  exact this hok.co_in h.run
end Go.Proofs.YtjekjehgmljbgaaDoor.T

/- Walks of tank: met, empty, in, span, times, up, down, dip. -/
namespace Go.Proofs.YtjekjehgmljbgaaDoor.T
open Go.RowKit Go.Proofs Go.Eng
set_option maxRecDepth 100000
set_option maxHeartbeats 1000000
set_option linter.unusedVariables false
set_option linter.unusedSimpArgs false

theorem Trydmixed : Tryd.prog.follows .mixedOrders = true := by kernel_rfl
theorem bs22_2_0_1 {x0 : Int} {x1 : Int} : ∀ w, (Instr.buildSlice 22 2 #[(0, .int .i64 x0), (1, .int .i64 x1)]).run Tryd.prog w = .ok (.slice (some ⟨w.heap.size, 0, none⟩) 2 2) (w.alloc (CB [.int .i64 x0, .int .i64 x1] 3)) := fun w => by kernel_rfl
/-- A gauge in memory. -/
structure Gg (w : World) (g og : Nat) (t : Tk) : Prop where
  ok : t.Ok
  ex : ∃ a cap, At w g og [.slice a t.n cap, .int .i64 t.leak, .int .i64 t.foot, .int .i64 t.full, .int .i64 t.height] ∧ Ints w a t.n cap t.pints
theorem Gg.below {w w' : World} {g og : Nat} {t : Tk} (h : Gg w g og t) (hb : Below w.heap.size w w') : Gg w' g og t := by
  obtain ⟨hok, a, cap, h1, h2⟩ := h
  exact ⟨hok, a, cap, At.old hb h1, h2.below hb⟩
theorem Gg.st {C : Ctx} {H : List Blk} {g og : Nat} {t : Tk} (h : Gg C.w0 g og t) (w : World) (hw : St C H w) : Gg w g og t := h.below hw.1

end Go.Proofs.YtjekjehgmljbgaaDoor.T

/- append onto a slice without room, equality of flat structs. No project text. -/
namespace Go.Eng
open Go.RowKit
section
variable {C : Ctx} {F : Fence} {n : Nat} {ds : List Deferred} {all : Array Oper} {Q : Exit → Env → List Blk → Prop} {rest : List Oper} {e : Env} {H : List Blk} {o : Oper}
variable {d : Option Tmp} {ty : TypeId} {pos : String} {af : Array Edge} {g : Option (Nat × Bool)}

/-- The cells of a slice's first elements. -/
def Src (C : Ctx) (H : List Blk) (a : Option Addr) (m : Nat) (us : List Value) : Prop := m = 0 ∧ us = [] ∨ ∃ b o, a = some ⟨b, o, none⟩ ∧ Mem C H b o us

/-- A new row that begins with some cells; no row at all if there are none. -/
def NewRow (T : TypeId) (sz m : Nat) (us : List Value) (v : Value) (Hn : List Blk) : Prop :=
  ∃ a cap, v = .slice a m cap ∧ m ≤ cap ∧ ((0 < m ∧ ∃ b junk, a = some ⟨b, 0, none⟩ ∧ Hn = [(b, CB (us ++ junk) T)] ∧ (us ++ junk).length = cap * sz) ∨ (m = 0 ∧ Hn = [] ∧ cap = 0))

theorem run_firstCells {P : Program} {w : World} {a : Option Addr} {m sz cap : Nat} {us : List Value} (h : m = 0 ∧ us = [] ∨ ∃ b o, a = some ⟨b, o, none⟩ ∧ At w b o us) (hl : us.length = m * sz) :
    (Builtin.firstCells sz m (.slice a m cap)).run P w = .ok us.toArray w := by
  rcases h with ⟨rfl, rfl⟩ | ⟨b, o, rfl, h⟩
  · cases a with
    | none => simp [Builtin.firstCells]
    | some a => simp [Builtin.firstCells, loadCells, loadCellsFrom]
  · have := run_loads (P := P) (i := 0) (acc := #[]) (by simpa using h)
    simp [Builtin.firstCells, loadCells, ← hl, this]

theorem out_new_drew {w : World} {o : Obj} {R : Value → List Blk → Prop} {v : Value} (hk : o ≠ .deferred (some [])) (h : R v [(w.heap.size, o)]) : Out R v w (w.drew.alloc o) := by
  refine ⟨[(w.heap.size, o)], (Below.refl _ _).drew.alloc (Nat.le_refl _) _, ⟨fun x hx => ?_, by simp, fun x hx => ?_⟩, h⟩
  · simp only [List.mem_singleton] at hx
    subst hx
    exact ⟨Nat.le_refl _, heap_alloc_new w.drew _⟩
  · simp only [List.mem_singleton] at hx
    subst hx
    exact hk

theorem addr_add (b o j : Nat) : (⟨b, o, none⟩ : Addr).add j = ⟨b, o + j, none⟩ := by unfold Addr.add; split <;> simp_all
theorem exec_append {x y : Operand} {T : TypeId} {s t v : Value} {w w' : World} {P : Program} (hx : ev e x = s) (hy : ev e y = t) (h : (Builtin.append_ #[T, T] ty #[s, t]).run P w = .ok v w') :
    (execOp (ev e) ⟨d, .call ⟨.builtin .append, #[x, y], #[T, T]⟩, ty, pos, af, g⟩).run P w = .ok (.value v) w' := by
  simp [execOp, resolve, invoke, builtin, hx, hy, h]
theorem run_append_none {P : Program} {w : World} {T E : TypeId} {i : TypeInfo} {s a : Option Addr} {n cap c : Nat} (hT : P.underlying T = some (.slice E)) (hE : P.info? E = some i) :
    (Builtin.append_ #[T, T] ty #[.slice s n cap, .slice a 0 c]).run P w = if n ≤ cap then .ok (.slice s n cap) w else (Builtin.append_ #[T, T] ty #[.slice s n cap, .slice a 0 c]).run P w := by
  split
  · rename_i hle
    cases s with
    | none => cases a with
      | none => simp [Builtin.append_, run_underlying hT, sizeOf, typeInfo, hE, Builtin.lenOf, Builtin.firstCells, hle]
      | some a => simp [Builtin.append_, run_underlying hT, sizeOf, typeInfo, hE, Builtin.lenOf, Builtin.firstCells, loadCells, loadCellsFrom, hle]
    | some s => cases a with
      | none => simp [Builtin.append_, run_underlying hT, sizeOf, typeInfo, hE, Builtin.lenOf, Builtin.firstCells, hle, storeCells]
      | some a => simp [Builtin.append_, run_underlying hT, sizeOf, typeInfo, hE, Builtin.lenOf, Builtin.firstCells, loadCells, loadCellsFrom, hle, storeCells]
  · rfl
theorem src_get {w : World} {a : Addr} {b o : Nat} {us : List Value} (ha : a = ⟨b, o, none⟩) (h : At w b o us) : ∀ j v, us[j]? = some v → w.cell? (a.add j) = some v := fun j v hv => by
  subst ha; rw [addr_add]; exact h.get j v hv
theorem y_append0 {x y : Operand} {T E : TypeId} {a0 a : Option Addr} {m cap sz by_ : Nat} {us : List Value} {z : Value} (hx : ev e x = .slice a0 0 0) (hy : ev e y = .slice a m cap)
    (hT : C.P.underlying T = some (.slice E)) (hinf : (C.P.info? E).map (fun i => (i.zero, i.size, i.bytes)) = some (some z, sz, by_))
    (hzs : z.cells.size = sz) (hs : Src C H a m us) (hl : us.length = m * sz) (hb : m * by_ ≤ 140737488355328) (hm : m ≤ 140737488355328) :
    YR C ⟨d, .call ⟨.builtin .append, #[x, y], #[T, T]⟩, ty, pos, af, g⟩ e H (NewRow E sz m us) := fun w hw => by
  obtain ⟨i, hi, hz, hsz, hby⟩ := info_parts hinf
  by_cases h0 : m = 0
  · subst h0
    have hus : us = [] := by simpa using hl
    subst hus
    have h1 := run_append_none (ty := ty) (w := w) (s := a0) (a := a) (n := 0) (cap := 0) (c := cap) hT hi
    rw [if_pos (Nat.le_refl _)] at h1
    rw [exec_append hx hy h1]
    exact ⟨[], Below.refl _ _, HOk.nil _ _, a0, 0, rfl, Nat.le_refl _, .inr ⟨rfl, rfl, rfl⟩⟩
  · obtain ⟨b, o, rfl, hmem⟩ := hs.resolve_left fun h => h0 h.1
    have hat := src_get rfl (hmem w hw)
    subst hsz hby
    have hge := grownCap_ge w m 0 E
    have hlen : ∀ (l : List Value), l.length = m * i.size → (l ++ (Builtin.zeroCells z.cells (grownCap w m 0 E - m)).toList).length = grownCap w m 0 E * i.size := fun l hl => by
      rw [List.length_append, hl, Array.length_toList, size_zeroCells, hzs, ← Nat.add_mul]
      congr 1; omega
    have key : (Builtin.append_ #[T, T] ty #[.slice a0 0 0, .slice (some ⟨b, o, none⟩) m cap]).run C.P w =
        .ok (.slice (some ⟨w.heap.size, 0, none⟩) m (grownCap w m 0 E)) (w.drew.alloc (CB (us ++ (Builtin.zeroCells z.cells (grownCap w m 0 E - m)).toList) E)) := by
      have hobj : CB (us ++ (Builtin.zeroCells z.cells (grownCap w m 0 E - m)).toList) E = .cells (us.toArray ++ Builtin.zeroCells z.cells (grownCap w m 0 E - m)) E := by
        unfold CB; congr 1; simp
      rw [hobj]
      cases a0 with
      | none => exact run_append_nil (P := C.P) w T ty E i z hT hi hz ⟨b, o, none⟩ m cap us hl hat (by omega) (by omega) (by omega)
      | some a0 =>
        have := run_append_grow (P := C.P) w T ty E i z hT hi hz a0 0 0 [] (by simp) (by simp) ⟨b, o, none⟩ m cap us hl hat (by omega) (by omega) (growslice_fits (by omega) (by rw [Nat.zero_add]; exact hb))
        simpa using this
    rw [exec_append hx hy key]
    exact out_new_drew (fun h => by cases h) ⟨_, _, rfl, hge, .inl ⟨by omega, _, _, rfl, rfl, hlen us hl⟩⟩

/-- A slice of the call's own: nil, or at the head of a block of its own. -/
def Row (E : TypeId) (sz : Nat) (a : Option Addr) (n cap : Nat) (us : List Value) (Hn : List Blk) : Prop :=
  (a = none ∧ n = 0 ∧ cap = 0 ∧ us = [] ∧ Hn = []) ∨ ∃ b junk, a = some ⟨b, 0, none⟩ ∧ Hn = [(b, CB (us ++ junk) E)] ∧ us.length = n * sz ∧ (us ++ junk).length = cap * sz ∧ n ≤ cap
theorem Row.nil (E : TypeId) (sz : Nat) : Row E sz none 0 0 [] [] := .inl ⟨rfl, rfl, rfl, rfl, rfl⟩
theorem NewRow.row {E : TypeId} {sz m : Nat} {us : List Value} {v : Value} {Hn : List Blk} (h : NewRow E sz m us v Hn) (hl : us.length = m * sz) (hm : 0 < m) : ∃ a cap, v = .slice a m cap ∧ Row E sz a m cap us Hn := by
  obtain ⟨a, cap, rfl, hle, ⟨_, b, junk, rfl, rfl, hlen⟩ | ⟨h0, _⟩⟩ := h
  · exact ⟨_, _, rfl, .inr ⟨b, junk, rfl, rfl, hl, hlen, hle⟩⟩
  · omega

theorem WS_append (hF : Wide F) {x y : Operand} {T E : TypeId} {a a' : Option Addr} {n' m cap cap' sz by_ : Nat} {us news : List Value} {z : Value} {H1 Hn H2 : List Blk} (hc : chk n all e ⟨d, .call ⟨.builtin .append, #[x, y], #[T, T]⟩, ty, pos, af, g⟩ = true)
    (hx : ev e x = .slice a n' cap) (hy : ev e y = .slice a' m cap') (hT : C.P.underlying T = some (.slice E)) (hinf : (C.P.info? E).map (fun i => (i.zero, i.size, i.bytes)) = some (some z, sz, by_))
    (hzs : z.cells.size = sz) (hH : H = H1 ++ (Hn ++ H2)) (hrow : Row E sz a n' cap us Hn) (hs : Src C H a' m news) (hl : news.length = m * sz) (hone : news.all Value.oneCell' = true) (hb : (n' + m) * by_ ≤ 140737488355328) (hm : n' + m ≤ 140737488355328)
    (hk : ∀ a' cap' Hn', Row E sz a' (n' + m) cap' (us ++ news) Hn' → WS C F n ds all Q rest (updo e d (.slice a' (n' + m) cap')) (H1 ++ (Hn' ++ H2))) :
    WS C F n ds all Q (⟨d, .call ⟨.builtin .append, #[x, y], #[T, T]⟩, ty, pos, af, g⟩ :: rest) e H := fun w hw act ha => by
  have hck := chk_spec hc
  have hwant := gd_wanted ha hck.2.1 (gOk_lt hck.2.2.1)
  unfold wpListIn
  rw [if_pos hwant]
  refine ⟨fun f _ => hF.fn f, ?_⟩
  rw [semAt_of hck.1, ha.eval]
  obtain ⟨i, hi, hz, hsz, hby⟩ := info_parts hinf
  have hput := fun v => ha.put (v := v) d hck.2.2.2
  have nil_sub : St C (H1 ++ (Hn ++ H2)) w := by rw [← hH]; exact hw
  by_cases h0 : m = 0
  · subst h0
    have hn : news = [] := by simpa using hl
    subst hn
    have hle : n' ≤ cap := by rcases hrow with ⟨_, h1, h2, _⟩ | ⟨_, _, _, _, _, _, h⟩ <;> omega
    have h1 := run_append_none (ty := ty) (w := w) (s := a) (a := a') (n := n') (cap := cap) (c := cap') hT hi
    rw [if_pos hle] at h1
    rw [exec_append hx hy h1]
    refine hk a cap Hn (by simpa using hrow) w nil_sub _ (hput _)
  · obtain ⟨b', o', rfl, hmem⟩ := hs.resolve_left fun h => h0 h.1
    have hat := src_get rfl (hmem w hw)
    subst hsz hby
    -- a new row
    have grow : ∀ old, old < n' + m → us.length = n' * i.size → ∀ X : List Blk, St C (Hn ++ X) w → X = H1 ++ H2 →
        (Builtin.append_ #[T, T] ty #[.slice a n' cap, .slice (some ⟨b', o', none⟩) m cap']).run C.P w = .ok (.slice (some ⟨w.heap.size, 0, none⟩) (n' + m) (grownCap w (n' + m) old E)) (w.drew.alloc (.cells (us.toArray ++ news.toArray ++ Builtin.zeroCells z.cells (grownCap w (n' + m) old E - (n' + m))) E)) →
        Oper.uponIn F 0 C.P ⟨d, .call ⟨.builtin .append, #[x, y], #[T, T]⟩, ty, pos, af, g⟩ act (wpListIn F 0 C.P all (lift C n ds Q) rest) (lift C n ds Q)
          ((execOp (ev e) ⟨d, .call ⟨.builtin .append, #[x, y], #[T, T]⟩, ty, pos, af, g⟩).run C.P w) := by
      intro old hold hul X hX hXe hr
      rw [exec_append hx hy hr]
      have hge := grownCap_ge w (n' + m) old E
      have hobj : (Obj.cells (us.toArray ++ news.toArray ++ Builtin.zeroCells z.cells (grownCap w (n' + m) old E - (n' + m))) E) = CB ((us ++ news) ++ (Builtin.zeroCells z.cells (grownCap w (n' + m) old E - (n' + m))).toList) E := by
        unfold CB; congr 1; simp
      rw [hobj]
      have hlen : ((us ++ news) ++ (Builtin.zeroCells z.cells (grownCap w (n' + m) old E - (n' + m))).toList).length = grownCap w (n' + m) old E * i.size := by
        rw [List.length_append, List.length_append, hul, hl, Array.length_toList, size_zeroCells, hzs, ← Nat.add_mul, ← Nat.add_mul]
        congr 1; omega
      refine hk _ _ [(w.heap.size, _)] (.inr ⟨_, _, rfl, rfl, by rw [List.length_append, hul, hl, Nat.add_mul], hlen, hge⟩) _ ?_ _ (hput _)
      have h1 : St C ([(w.heap.size, CB ((us ++ news) ++ (Builtin.zeroCells z.cells (grownCap w (n' + m) old E - (n' + m))).toList) E)] ++ (Hn ++ X)) (w.drew.alloc (CB ((us ++ news) ++ (Builtin.zeroCells z.cells (grownCap w (n' + m) old E - (n' + m))).toList) E)) :=
        hX.grow ((Below.refl _ _).drew.alloc (Nat.le_refl _) _) ⟨fun x hx => by simp only [List.mem_singleton] at hx; subst hx; exact ⟨Nat.le_refl _, heap_alloc_new w.drew _⟩, by simp, fun x hx h => by simp only [List.mem_singleton] at hx; subst hx; cases h⟩
      subst hXe
      have h2 := h1.sub (H' := [(w.heap.size, CB ((us ++ news) ++ (Builtin.zeroCells z.cells (grownCap w (n' + m) old E - (n' + m))).toList) E)] ++ (H1 ++ H2)) (List.Sublist.append_left (List.sublist_append_right _ _) _)
      exact h2.perm (List.perm_append_comm_assoc ..)
    have hX : St C (Hn ++ (H1 ++ H2)) w := nil_sub.perm (List.perm_append_comm_assoc ..)
    rcases hrow with ⟨rfl, rfl, rfl, rfl, rfl⟩ | ⟨b, junk, rfl, rfl, hul, hcl, hle⟩
    · refine grow 0 (by omega) (by simp) (H1 ++ H2) hX rfl ?_
      have := run_append_nil (P := C.P) w T ty E i z hT hi hz ⟨b', o', none⟩ m cap' news hl hat (by omega) (by omega) (by rw [Nat.zero_add] at hb; omega)
      simpa using this
    · have hbk : w.heap[b]? = some (CB (us ++ junk) E) := hX.get (i := 0) rfl
      by_cases hroom : n' + m ≤ cap
      · have hr := run_append_room (P := C.P) w T ty E i hT hi b n' cap (us ++ junk).toArray hbk ⟨b', o', none⟩ m cap' news hl hat (fun u hu => List.all_eq_true.1 hone u hu) hroom (by
          rw [hl, List.size_toArray, hcl, ← Nat.add_mul]; exact Nat.mul_le_mul_right _ hroom)
        rw [exec_append hx hy hr]
        have hsp : (us ++ junk).toArray.toList.take (n' * i.size) ++ news ++ (us ++ junk).toArray.toList.drop (n' * i.size + news.length) = (us ++ news) ++ junk.drop news.length := by
          rw [← hul, List.take_left, List.append_assoc, List.append_assoc, ← List.drop_drop, List.drop_left]
        rw [hsp]
        refine hk _ _ [(b, CB ((us ++ news) ++ junk.drop news.length) E)] (.inr ⟨b, _, rfl, rfl, by rw [List.length_append, hul, hl, Nat.add_mul], ?_, hroom⟩) _ ?_ _ (hput _)
        · have h1 : news.length ≤ junk.length := by
            have h2 : n' * i.size + m * i.size ≤ cap * i.size := by rw [← Nat.add_mul]; exact Nat.mul_le_mul_right _ hroom
            rw [List.length_append, hul] at hcl
            omega
          simp only [List.length_append, List.length_drop] at hcl ⊢
          omega
        · have h3 := hX.set (i := 0) (o' := CB ((us ++ news) ++ junk.drop news.length) E) rfl (swap_setRow hbk)
          exact h3.perm (List.perm_append_comm_assoc ..)
      · refine grow cap (by omega) hul (H1 ++ H2) hX rfl ?_
        exact run_append_grow (P := C.P) w T ty E i z hT hi hz ⟨b, 0, none⟩ n' cap us hul (fun j u hu => by
          rw [addr_add]; exact (at_block (rest := junk) hbk (by simp)).get j u hu) ⟨b', o', none⟩ m cap' news hl hat (by omega) (by omega) (growslice_fits (by omega) hb)

/-! Equality of flat structs -/
theorem y_eqlA {x y : Operand} {T T' : TypeId} {xs ys : Array Value} {b : Bool} (hx : ev e x = .agg xs) (hy : ev e y = .agg ys)
    (hr : ∀ w, ((do eqGuard .eql T x y (.agg xs) (.agg ys); binOp .eql T (.agg xs) (.agg ys)) : Sem Value).run C.P w = .ok (.bool b) w) : YD C ⟨d, .binOp .eql T x y T', ty, pos, af, g⟩ e H (.bool b) :=
  yd_of fun w _ => by
    have := hr w
    simp only [execOp, hx, hy]
    simp only [Sem.run_bind, this]
    rfl
end
end Go.Eng

/- More operations: shifts, bits. No project text. -/
namespace Go.Eng
open Go.RowKit
/-! Equality of flat structs: the generator prints a lemma for each type -/
def ieq (a b : Int) : Bool := decide (a = b)
theorem eq_int {P : Program} {d t : Nat} {k k' : IntKind} {x y : Int} (hT : ∀ w, (underlying t).run P w = .ok (.int k') w) : ∀ w, (Op.equalIn (d + 1) t (.int k x) (.int k y)).run P w = .ok (ieq x y) w := fun w => by
  unfold Op.equalIn
  have : (x == y) = ieq x y := by unfold ieq; by_cases h : x = y <;> simp [h]
  simp [hT, this]
theorem eq_top {P : Program} {T : Nat} {x y : Operand} {xs ys : Array Value} {b : Bool} (hg : ∀ w, (eqGuard .eql T x y (.agg xs) (.agg ys)).run P w = .ok () w) (he : ∀ w, (Op.equalIn Op.maxDepth T (.agg xs) (.agg ys)).run P w = .ok b w) :
    ∀ w, ((do eqGuard .eql T x y (.agg xs) (.agg ys); binOp .eql T (.agg xs) (.agg ys)) : Sem Value).run P w = .ok (.bool b) w := fun w => by
  simp [hg, binOp, Op.equal, he]
section
variable {C : Ctx} {e : Env} {H : List Blk} {d : Option Tmp} {ty : TypeId} {pos : String} {af : Array Edge} {g : Option (Nat × Bool)}
theorem y_eqlT {x y : Operand} {T T' : TypeId} {k : IntKind} {m : Int} (hx : ev e x = .int k m) (hy : ev e y = .int k m) : YD C ⟨d, .binOp .eql T x y T', ty, pos, af, g⟩ e H (.bool true) :=
  (y_eql hx hy).mono fun v Hn h => h.trans (by simp)
theorem shift_some {b o l sz cap : Nat} (h : cap ≠ l) : shiftA (some ⟨b, o, none⟩) l sz cap = some ⟨b, o + l * sz, none⟩ := by
  have h3 : (⟨b, o, none⟩ : Addr).add (l * sz) = ⟨b, o + l * sz, none⟩ := by unfold Addr.add; split <;> simp_all
  unfold shiftA
  rw [if_neg h, Option.map_some, h3]
end
section
variable {C : Ctx} {F : Fence} {n : Nat} {ds : List Deferred} {all : Array Oper} {Q : Exit → Env → List Blk → Prop} {rest : List Oper} {e : Env} {H Hn : List Blk}
/-- New blocks go behind the others. -/
theorem WS_back (h : WS C F n ds all Q rest e (H ++ Hn)) : WS C F n ds all Q rest e (Hn ++ H) := fun w hw a ha => h w ⟨hw.1, hw.2.perm List.perm_append_comm, hw.3⟩ a ha
end
end Go.Eng

/- Calls that write the caller's blocks; loops over functions. No project text. -/
namespace Go.Eng
open Go.RowKit
section
variable {C : Ctx} {F : Fence} {n : Nat} {ds : List Deferred} {all : Array Oper} {Q : Exit → Env → List Blk → Prop} {rest : List Oper} {e : Env} {H : List Blk}
variable {d : Option Tmp} {ty : TypeId} {pos : String} {af : Array Edge} {g : Option (Nat × Bool)}

theorem run_call {x : Operand} {args : Array Operand} {ats : Array TypeId} {f : FuncId} {first captured vs : Array Value} {w : World} (hx : ev e x = .func (.func f) first captured)
    (ha : first ++ args.map (ev e) ++ captured = vs) (hc : ∀ args w, (callFunc f args).run C.P w = .ok (.enter f args) w) :
    (execOp (ev e) ⟨d, .call ⟨.value x, args, ats⟩, ty, pos, af, g⟩).run C.P w = .ok (.enter f vs) w := by
  simp only [execOp, resolve, hx, Deferred.ofValue]
  simp [invoke, ha, hc]
/-- A call that may write the blocks that are there. -/
theorem WS_callS (hF : Wide F) {x : Operand} {args : List Operand} {ats : Array TypeId} {f : FuncId} {first captured vs : List Value} {R : Value → List Blk → Prop} (hck : chk n all e ⟨d, .call ⟨.value x, args.toArray, ats⟩, ty, pos, af, g⟩ = true)
    (hx : ev e x = .func (.func f) first.toArray captured.toArray) (ha : first ++ (args.map (ev e) ++ captured) = vs) (hc : ∀ args w, (callFunc f args).run C.P w = .ok (.enter f args) w) (hR : Cs C f vs.toArray H R)
    (hk : ∀ v H', R v H' → WS C F n ds all Q rest (updo e d v) H') : WS C F n ds all Q (⟨d, .call ⟨.value x, args.toArray, ats⟩, ty, pos, af, g⟩ :: rest) e H := fun w hw a hra => by
  have hs := chk_spec hck
  have hwant := gd_wanted hra hs.2.1 (gOk_lt hs.2.2.1)
  unfold wpListIn
  rw [if_pos hwant]
  refine ⟨fun f _ => hF.fn f, ?_⟩
  rw [semAt_of hs.1, hra.eval, run_call (vs := vs.toArray) hx (by subst ha; simp) hc]
  refine ⟨fun hd => (by rw [hF.depth] at hd; cases hd), calls_in hF (Calls.mono (hR w hw) ?_)⟩
  rintro en w' ⟨v, H', rfl, hw', hr⟩
  exact hk v H' hr w' hw' _ (hra.put d hs.2.2.2)

/-- What a yield does to the blocks. -/
def Yi (C : Ctx) (l : Nat) (args : List Value) (H : List Blk) (R : Bool → List Blk → Prop) : Prop :=
  ∀ w, St C H w → YieldAt Fence.wide 0 C.P l args.toArray w fun en w' => ∃ b H', en = .returned (.bool b) ∧ St C H' w' ∧ R b H'
/-- An iterator: it yields these, in their order, till it is told to stop. -/
def It (C : Ctx) (gf : FuncId) (lb : List Value) (encs : Nat → List Value) (N : Nat) (H0 : List Blk) : Prop :=
  ∀ (l : Nat) (J Jx : Nat → List Blk → Prop),
    (∀ k, k < N → ∀ ds H G, J k G → Yi (C.inner.at ds) l (encs k) (H ++ G) fun b H' => ∃ G', H' = H ++ G' ∧ (b = true ∧ J (k + 1) G' ∨ b = false ∧ Jx (k + 1) G')) →
    ∀ G, J 0 G → Cs C gf (.func (.yield l) #[] #[] :: lb).toArray (H0 ++ G) fun _ H' => ∃ G', H' = H0 ++ G' ∧ (J N G' ∨ ∃ k, k < N ∧ Jx (k + 1) G')

def setz (e : Env) : List Nat → List Value → Env
  | p :: ps, v :: vs => setz (upd e p v) ps vs
  | _, _ => e
theorem Rep.setz {n : Nat} {ds : List Deferred} : ∀ {ps : List Nat} {vs : List Value} {t : Array Value} {e : Env}, Rep n ds { tmps := t, defers := ds } e → (ps.all fun p => Nat.blt p n) = true →
    Rep n ds { tmps := (ps.zip vs).foldl (fun t x => t.setIfInBounds x.1 x.2) t, defers := ds } (setz e ps vs)
  | [], _, _, _, h, _ => h
  | p :: ps, [], _, _, h, _ => h
  | p :: ps, v :: vs, t, e, h, hp => by
    simp only [List.all_cons, Bool.and_eq_true] at hp
    exact Rep.setz (ps := ps) (vs := vs) (h.put (some p) hp.1) hp.2

theorem Mk.right {ds out : List Deferred} {N : Nat} {w : World} (h : Mk (ds ++ out) N w) : Mk out N w := ⟨(List.nodup_append.1 h.1).2.1, fun d hd => h.2 d (List.mem_append_right _ hd)⟩
theorem swap_put {w : World} {l : Nat} {o o' : Obj} (h : w.heap[l]? = some o) (hk : o' ≠ .deferred (some [])) : Swap [(l, o)] [(l, o')] w (w.putObj l o') :=
  ⟨rfl, rfl, rfl, rfl, World.putObj_size, fun k hk => World.putObj_heap_other (by simpa using hk), fun x hx => by
    simp only [List.mem_singleton] at hx
    subst hx
    exact World.putObj_heap_same (Array.getElem?_eq_some_iff.1 h).1, fun x hx => by
    simp only [List.mem_singleton] at hx
    subst hx
    exact hk⟩
theorem St.put {C : Ctx} {X : List Blk} {w : World} {l : Nat} {o o' : Obj} (h : St C ((l, o) :: X) w) (hk : o' ≠ .deferred (some [])) : St C ((l, o') :: X) (w.putObj l o') := by
  have hl := h.get (i := 0) rfl
  have hs := swap_put hl hk
  exact ⟨swap_below (X := X) hs h.2 h.1, swap_ok (X := X) hs h.2, swap_marks (X := X) hs h.2 h.3⟩

/-- How a round may end. -/
def RoundQ (J : Nat → List Blk → Prop) (Jx : Code → Nat → List Blk → Prop) (k : Nat) (R : List Blk) : Exit → Env → List Blk → Prop
  | .normal, _, H => ∃ G, HSub H (G ++ R) ∧ J (k + 1) G
  | .ret, _, H => ∃ G, HSub H (G ++ R) ∧ Jx .ret (k + 1) G
  | .exit i, _, H => ∃ G, HSub H (G ++ R) ∧ Jx (.exit i) (k + 1) G
  | _, _, _ => False

end
end Go.Eng

/- A region whose order is open, with operations at its end whose order is not. No project text. -/
namespace Go.Eng
open Go.RowKit
section
variable {P : Program} {F : Fence}

theorem uponIn_to {o : Oper} {a : Act} {K K' : Act → World → Prop} {Q Q' : Exit → Act → World → Prop} (hk : ∀ a w, K a w → K' a w) (hq : ∀ x, x ≠ .normal → ∀ a w, Q x a w → Q' x a w) :
    ∀ {r : Result Next}, o.uponIn F 0 P a K Q r → o.uponIn F 0 P a K' Q' r := by
  have hl : LetsOut Q → LetsOut Q' := fun ⟨a, w, h⟩ => ⟨a, w, hq _ (by simp) _ _ h⟩
  intro r h
  cases r with
  | ok x w =>
    cases x
    case value v => exact hk _ _ h
    case skip => exact hk _ _ h
    case defer d => exact hk _ _ h
    case enter f args =>
      refine ⟨h.1, CallsIn.mono h.2 fun en w' h => ?_⟩
      cases en with
      | returned v => exact hk _ _ h
      | panicked c => exact hq _ (by simp) _ _ h
      | outgrown => exact hl h
    case round l f tmps asg b =>
      refine ⟨h.1, RoundIn.mono h.2 fun en w' h => ?_⟩
      cases en with
      | returned v => exact hk _ _ h
      | panicked c => exact hq _ (by simp) _ _ h
      | outgrown => exact hl h
    case row r args => exact ⟨h.1, RowsIn.mono h.2 fun _ _ h => hk _ _ h⟩
    all_goals exact h.elim
  | halt x w =>
    cases x
    case panic v => exact hq _ (by simp) _ _ h
    all_goals exact h.elim

theorem wpIn_to {o : Oper} {a : Act} {w : World} {K K' : Act → World → Prop} {Q Q' : Exit → Act → World → Prop} (hk : ∀ a w, K a w → K' a w) (hq : ∀ x, x ≠ .normal → ∀ a w, Q x a w → Q' x a w)
    (h : o.wpIn F 0 P a w K Q) : o.wpIn F 0 P a w K' Q' := ⟨h.1, uponIn_to hk hq h.2⟩

/-- The last operations, from m on, go one behind the other, behind all others. -/
structure Tail (ops : Array Oper) (m : Nat) : Prop where
  down : ∀ i k, edge ops i k = true → k < i
  chain : ∀ i, m < i → i < ops.size → edge ops i (i - 1) = true
  all : ∀ j, j < m → ∃ k, j < k ∧ k ≤ m ∧ edge ops k j = true
  guard : ∀ (i : Nat) (o : Oper), i < m → ops[i]? = some o → ∀ j b, o.guard = some (j, b) → j < m
def tailB (ops : Array Oper) (m : Nat) : Bool :=
  ((List.range ops.size).all fun i => (ops[i]?.map fun o => o.after.all fun e => !Region.binds .any e || Nat.blt e.on i).getD true) &&
  ((List.range ops.size).all fun i => !Nat.blt m i || edge ops i (i - 1)) &&
  ((List.range m).all fun j => (List.range (m + 1)).any fun k => Nat.blt j k && edge ops k j) &&
  ((List.range m).all fun i => (ops[i]?.map fun o => match o.guard with | some (j, _) => Nat.blt j m | none => true).getD true)
theorem edge_lt {ops : Array Oper} {i k : Nat} (h : edge ops i k = true) : i < ops.size := by
  unfold edge at h
  cases ho : ops[i]? with
  | none => rw [ho] at h; cases h
  | some o => exact (Array.getElem?_eq_some_iff.1 ho).1
theorem tail_of {ops : Array Oper} {m : Nat} (h : tailB ops m = true) : Tail ops m := by
  unfold tailB at h
  simp only [Bool.and_eq_true, List.all_eq_true, List.mem_range] at h
  obtain ⟨⟨⟨h1, h2⟩, h3⟩, h4⟩ := h
  refine ⟨fun i k hk => ?_, fun i hi hs => ?_, fun j hj => ?_, fun i o hi ho j b hg => ?_⟩
  · have hi := edge_lt hk
    have := h1 i hi
    unfold edge at hk
    rw [Array.getElem?_eq_getElem hi] at hk this
    simp only [Option.map_some, Option.getD_some, Array.any_eq_true, Array.all_eq_true, Bool.and_eq_true, beq_iff_eq] at hk this
    obtain ⟨x, hx, he, hb⟩ := hk
    have := this x hx
    rw [he, hb] at this
    simpa using this
  · have := h2 i hs
    have hb : Nat.blt m i = true := by rw [Nat.blt_eq]; exact hi
    simpa [hb] using this
  · have := h3 j hj
    simp only [List.any_eq_true, List.mem_range, Bool.and_eq_true, Nat.blt_eq] at this
    obtain ⟨k, hk, hjk, he⟩ := this
    exact ⟨k, hjk, by omega, he⟩
  · have := h4 i hi
    rw [ho] at this
    simp only [Option.map_some, Option.getD_some, hg, Nat.blt_eq] at this
    exact this

/-- The operations at the end, in their order. -/
theorem tail_run {ops : Array Oper} {m : Nat} {Q : Exit → Act → World → Prop} (ht : Tail ops m) : ∀ (rest : List Oper) (i fuel : Nat) (listed : Array Bool) (a : Act) (w : World),
    (∀ j, rest[j]? = ops[i + j]?) → m ≤ i → i + rest.length = ops.size → listed.size = ops.size → (∀ j, Lst listed j ↔ j < i) → rest.length ≤ fuel → wpListIn F 0 P ops Q rest a w →
    wpAnyIn F 0 P .any ops Q fuel listed a w := by
  intro rest
  induction rest with
  | nil =>
    intro i fuel listed a w _ _ hsz hls hl _ h
    have hr : Region.ready .any ops listed = [] := by
      refine List.eq_nil_iff_forall_not_mem.2 fun j hj => ?_
      obtain ⟨h1, h2, _⟩ := ready_mem.1 hj
      have : Lst listed j := (hl j).2 (by simp at hsz; omega)
      unfold Lst at this
      rw [Array.getD_eq_getD_getElem?, Array.getElem?_eq_getElem (by rw [hls]; exact h1)] at this h2
      simp only [Option.getD_some] at this h2
      rw [this] at h2; cases h2
    cases fuel with
    | zero => exact ⟨hr, h⟩
    | succ f => exact ⟨fun _ => h, fun j hj => (by rw [hr] at hj; cases hj)⟩
  | cons o rest ih =>
    intro i fuel listed a w hget hm hsz hls hl hf h
    obtain ⟨f, rfl⟩ : ∃ f, fuel = f + 1 := ⟨fuel - 1, by simp at hf; omega⟩
    have hi : i < ops.size := by simp at hsz; omega
    have ho : ops[i]? = some o := by have := hget 0; simpa using this.symm
    have hni : listed.getD i true = false := by
      cases hb : listed.getD i true with
      | false => rfl
      | true =>
        have : Lst listed i := by
          unfold Lst
          rw [Array.getD_eq_getD_getElem?, Array.getElem?_eq_getElem (by rw [hls]; exact hi)] at hb ⊢
          exact hb
        have := (hl i).1 this
        omega
    have hin : i ∈ Region.ready .any ops listed := ready_mem.2 ⟨hi, hni, o, ho, fun e he hb => by
      have hed : edge ops i e.on = true := by
        unfold edge
        rw [ho]
        simp only [Option.map_some, Option.getD_some, Array.any_eq_true]
        obtain ⟨k, hk, rfl⟩ := Array.mem_iff_getElem.1 he
        exact ⟨k, hk, by simp [hb]⟩
      exact (hl e.on).2 (ht.down i e.on hed)⟩
    refine ⟨fun hr => (by rw [hr] at hin; cases hin), fun j hj => ?_⟩
    have hji : j = i := by
      obtain ⟨h1, h2, _⟩ := ready_mem.1 hj
      have hnl : ¬ Lst listed j := fun hlj => by
        unfold Lst at hlj
        rw [Array.getD_eq_getD_getElem?, Array.getElem?_eq_getElem (by rw [hls]; exact h1)] at hlj h2
        simp only [Option.getD_some] at hlj h2
        rw [hlj] at h2; cases h2
      rw [hl] at hnl
      refine Classical.byContradiction fun hne => ?_
      have := edge_of_ready hj (j - 1) (ht.chain j (by omega) h1)
      rw [hl] at this
      omega
    subst hji
    unfold wpOpIn
    rw [ho]
    simp only []
    have hrec : ∀ a w, wpListIn F 0 P ops Q rest a w → wpAnyIn F 0 P .any ops Q f (listed.setIfInBounds j true) a w := fun a w h => by
      refine ih (j + 1) f _ a w (fun t => ?_) (by omega) (by simp at hsz ⊢; omega) (by simp [hls]) (fun t => ?_) (by simp at hf; omega) h
      · have := hget (t + 1)
        rw [List.getElem?_cons_succ] at this
        rw [this]; congr 1; omega
      · rw [lst_set (by rw [hls]; exact hi), hl]; omega
    unfold wpListIn at h
    split at h
    · rename_i hw
      rw [if_pos hw]
      exact wpIn_to hrec (fun _ _ _ _ h => h) h
    · rename_i hw
      rw [if_neg hw]
      exact ⟨h.1, hrec _ _ h.2⟩

/-- The operations ahead of these, in whatever order; then these. -/
theorem tail_any {pre post : List Oper} {Q Q' : Exit → Act → World → Prop} (ht : Tail (pre ++ post).toArray pre.length) (hd : ∀ i k, edge pre.toArray i k = true → k < i)
    (hq : ∀ x, x ≠ .normal → ∀ a w, Q' x a w → Q x a w) (hn : ∀ a w, Q' .normal a w → wpListIn F 0 P (pre ++ post).toArray Q post a w) :
    ∀ (fuel fuel2 : Nat) (listed : Array Bool) (a : Act) (w : World), listed.size = pre.length → (∀ j k, Lst listed j → edge pre.toArray j k = true → Lst listed k) → fuel + post.length ≤ fuel2 →
      wpAnyIn F 0 P .any pre.toArray Q' fuel listed a w → wpAnyIn F 0 P .any (pre ++ post).toArray Q fuel2 (listed ++ Array.replicate post.length false) a w := by
  have hgetl : ∀ (listed : Array Bool) (j : Nat) (b : Bool), listed.size = pre.length → j < pre.length → (listed ++ Array.replicate post.length false).getD j b = listed.getD j b := fun listed j b hs hj => by
    rw [Array.getD_eq_getD_getElem?, Array.getD_eq_getD_getElem?, Array.getElem?_append_left (by omega)]
  have hgetr : ∀ (listed : Array Bool) (j : Nat), listed.size = pre.length → pre.length ≤ j → (listed ++ Array.replicate post.length false).getD j false = false := fun listed j hs hj => by
    rw [Array.getD_eq_getD_getElem?, Array.getElem?_append_right (by omega), Array.getElem?_replicate]
    split <;> rfl
  have hop : ∀ j, j < pre.length → (pre ++ post).toArray[j]? = pre.toArray[j]? := fun j hj => by simp [List.getElem?_append_left hj]
  have hedge : ∀ j k, j < pre.length → edge (pre ++ post).toArray j k = edge pre.toArray j k := fun j k hj => by unfold edge; rw [hop j hj]
  -- all that is ahead is done
  have full : ∀ (fuel2 : Nat) (listed : Array Bool) (a : Act) (w : World), listed.size = pre.length → (∀ j, j < pre.length → Lst listed j) → post.length ≤ fuel2 → Q' .normal a w →
      wpAnyIn F 0 P .any (pre ++ post).toArray Q fuel2 (listed ++ Array.replicate post.length false) a w := fun fuel2 listed a w hs hl hf h => by
    refine tail_run ht post pre.length fuel2 _ a w (fun j => by simp [List.getElem?_append_right]) (Nat.le_refl _) (by simp) (by simp [hs]) (fun j => ?_) hf (hn a w h)
    unfold Lst
    by_cases hj : j < pre.length
    · rw [hgetl listed j false hs hj]; exact ⟨fun _ => hj, fun _ => hl j hj⟩
    · rw [hgetr listed j hs (by omega)]; exact ⟨fun h => (by cases h), fun h => absurd h hj⟩
  intro fuel
  induction fuel with
  | zero =>
    intro fuel2 listed a w hs _ hf h
    exact full fuel2 listed a w hs (fun j hj => all_of_ready_nil hd (by simp [hs]) h.1 j (by simpa using hj)) (by omega) h.2
  | succ fuel ih =>
    intro fuel2 listed a w hs hdc hf h
    by_cases hr : Region.ready .any pre.toArray listed = []
    · exact full fuel2 listed a w hs (fun j hj => all_of_ready_nil hd (by simp [hs]) hr j (by simpa using hj)) (by omega) (h.1 hr)
    · obtain ⟨f2, rfl⟩ : ∃ f2, fuel2 = f2 + 1 := ⟨fuel2 - 1, by omega⟩
      have hiff : ∀ i, i ∈ Region.ready .any (pre ++ post).toArray (listed ++ Array.replicate post.length false) → i ∈ Region.ready .any pre.toArray listed := fun i hi => by
        have hed := edge_of_ready hi
        obtain ⟨h1, h2, o, ho, h3⟩ := ready_mem.1 hi
        have him : i < pre.length := by
          refine Classical.byContradiction fun hge => ?_
          by_cases hm : i = pre.length
          · subst hm
            -- all ahead of it are done: none is ready
            have hall : ∀ t, ∀ j, pre.length - t ≤ j → j < pre.length → Lst listed j := by
              intro t
              induction t with
              | zero => intro j h1 h2; omega
              | succ t iht =>
                intro j hj1 hj2
                by_cases hlt : pre.length - t ≤ j
                · exact iht j hlt hj2
                · obtain ⟨k, hk1, hk2, hk3⟩ := ht.all j hj2
                  by_cases hkm : k = pre.length
                  · subst hkm
                    have := hed j hk3
                    unfold Lst at this ⊢
                    rwa [hgetl listed j false hs hj2] at this
                  · have hk := iht k (by omega) (by omega)
                    rw [hedge k j (by omega)] at hk3
                    exact hdc k j hk hk3
            refine hr (List.eq_nil_iff_forall_not_mem.2 fun j hj => ?_)
            obtain ⟨g1, g2, _⟩ := ready_mem.1 hj
            have hjl : j < pre.length := by simpa using g1
            have := hall pre.length j (by omega) hjl
            unfold Lst at this
            rw [Array.getD_eq_getD_getElem?, Array.getElem?_eq_getElem (by omega)] at this g2
            simp only [Option.getD_some] at this g2
            rw [this] at g2; cases g2
          · have := hed (i - 1) (ht.chain i (by omega) h1)
            unfold Lst at this
            rw [hgetr listed (i - 1) hs (by omega)] at this
            cases this
        rw [hop i him] at ho
        refine ready_mem.2 ⟨by simpa using him, by rwa [hgetl listed i true hs him] at h2, o, ho, fun e he hb => ?_⟩
        have hek := h3 e he hb
        have hlt : e.on < i := hd i e.on (by
          unfold edge
          rw [ho]
          simp only [Option.map_some, Option.getD_some, Array.any_eq_true]
          obtain ⟨k, hk, rfl⟩ := Array.mem_iff_getElem.1 he
          exact ⟨k, hk, by simp [hb]⟩)
        rwa [hgetl listed e.on false hs (by omega)] at hek
      refine ⟨fun hr2 => ?_, fun i hi => ?_⟩
      · -- some operation is ready
        exfalso
        obtain ⟨i, hi⟩ := List.exists_mem_of_ne_nil _ hr
        obtain ⟨h1, h2, o, ho, h3⟩ := ready_mem.1 hi
        have him : i < pre.length := by simpa using h1
        have : i ∈ Region.ready .any (pre ++ post).toArray (listed ++ Array.replicate post.length false) := ready_mem.2 ⟨by simp; omega, by rw [hgetl listed i true hs him]; exact h2, o, by rw [hop i him]; exact ho, fun e he hb => by
          have hlt : e.on < i := hd i e.on (by
            unfold edge
            rw [ho]
            simp only [Option.map_some, Option.getD_some, Array.any_eq_true]
            obtain ⟨k, hk, rfl⟩ := Array.mem_iff_getElem.1 he
            exact ⟨k, hk, by simp [hb]⟩)
          rw [hgetl listed e.on false hs (by omega)]
          exact h3 e he hb⟩
        rw [hr2] at this; cases this
      · have hi' := hiff i hi
        have hh := h.2 i hi'
        have hpre := edge_of_ready hi'
        obtain ⟨h1, h2, o, ho, h3⟩ := ready_mem.1 hi'
        have him : i < pre.length := by simpa using h1
        have hset : (listed ++ Array.replicate post.length false).setIfInBounds i true = listed.setIfInBounds i true ++ Array.replicate post.length false := by
          refine Array.ext_getElem? fun t => ?_
          rw [Array.getElem?_setIfInBounds, Array.getElem?_append, Array.getElem?_append, Array.getElem?_setIfInBounds]
          simp only [Array.size_append, Array.size_setIfInBounds]
          by_cases hit : i = t
          · subst hit; simp [hs, him]; omega
          · simp [hit]
        have hrec : ∀ a w, wpAnyIn F 0 P .any pre.toArray Q' fuel (listed.setIfInBounds i true) a w → wpAnyIn F 0 P .any (pre ++ post).toArray Q f2 ((listed ++ Array.replicate post.length false).setIfInBounds i true) a w := fun a w h => by
          rw [hset]
          refine ih f2 _ a w (by simp [hs]) (fun j k hj he => ?_) (by omega) h
          rw [lst_set (by omega)] at hj ⊢
          rcases hj with rfl | hj
          · exact .inr (hpre k he)
          · exact .inr (hdc j k hj he)
        unfold wpOpIn at hh ⊢
        rw [hop i him, ho]
        rw [ho] at hh
        simp only [] at hh ⊢
        have hwant : Region.wanted o (yielded (pre ++ post).toArray a.tmps) = Region.wanted o (yielded pre.toArray a.tmps) := by
          unfold Region.wanted
          cases hg : o.guard with
          | none => rfl
          | some gg =>
            obtain ⟨j, b⟩ := gg
            have hj := ht.guard i o him (by rw [hop i him]; exact ho) j b hg
            simp only [yielded, hop j hj]
        rw [hwant]
        split at hh
        · rename_i hw
          rw [if_pos hw]
          exact wpIn_to hrec hq hh
        · rename_i hw
          rw [if_neg hw]
          exact ⟨hh.1, hrec _ _ hh.2⟩

section
variable {C : Ctx} {n : Nat} {ds : List Deferred} {Q : Exit → Env → List Blk → Prop} {e : Env} {H : List Blk}
def tailQ (C : Ctx) (F : Fence) (n : Nat) (ds : List Deferred) (all : Array Oper) (post : List Oper) (Q : Exit → Env → List Blk → Prop) : Exit → Env → List Blk → Prop
  | .normal, e, H => WS C F n ds all Q post e H
  | x, e, H => Q x e H
theorem W_drawT {id : Nat} {l : List Oper} {H0 : List Blk} (m : Nat) (hF : Wide F) (hm : C.P.follows .mixedOrders = true) (pres : List Pre) (S : List Nat)
    (hH : HSub H (pres.map (fun p => (p.b, p.o)) ++ H0))
    (hph : (phased (l.take m).toArray (pres.map (·.slot)) && ((l.take m).all fun o => dOk n o.dst && gOk n (l.take m).toArray o) && (pres.all fun p => S.contains p.slot) && tailB l.toArray m && Nat.ble m l.length) = true) (hnd : (pres.map (·.slot)).Nodup)
    (hp : ∀ ds, PW (C.at ds) (l.take m).toArray S (fun us e => OverAll (fun e H => WS (C.at ds) F n ds l.toArray Q (l.drop m) e H) (fun _ => True) us e H0) H0 (l.take m) [] (pres.map Pre.un) e) :
    W C F n ds (.region id l.toArray true) Q e H := fun dd w hw a ha => by
  simp only [Bool.and_eq_true] at hph
  obtain ⟨⟨⟨⟨hph, hdk⟩, hsub⟩, ht⟩, hml⟩ := hph
  have hml : m ≤ l.length := Nat.le_of_ble_eq_true hml
  have hlen : (l.take m).length = m := by simp; omega
  have hl : l.take m ++ l.drop m = l := List.take_append_drop m l
  have ht' : Tail (l.take m ++ l.drop m).toArray (l.take m).length := by rw [hl, hlen]; exact tail_of ht
  refine wpIn_mono (Q := lift (C.at dd) n dd Q) (wpIn_region_any hm ?_) fun _ _ _ h => lift_M h
  have h1 := draw_any (C := C.at dd) (ds := dd) (F := F) (n := n) (ops := (l.take m).toArray) (Q := tailQ (C.at dd) F n dd l.toArray (l.drop m) Q) (e := e) (H := H) (H0 := H0) hF pres S (fun _ hw => ⟨hw.1, hH _ _ hw.2, hw.3⟩) hph (by simpa using hdk) hsub hnd (hp dd) w hw a ha
  have h2 := tail_any (P := C.P) (F := F) (pre := l.take m) (post := l.drop m) (Q := lift (C.at dd) n dd Q) (Q' := lift (C.at dd) n dd (tailQ (C.at dd) F n dd l.toArray (l.drop m) Q)) ht' (phased_spec hph).down
    (fun x hx a w ⟨e, H, g1, g2, g3⟩ => ⟨e, H, g1, g2, by cases x <;> first | exact g3 | exact absurd rfl hx⟩) (fun a w ⟨e, H, g1, g2, g3⟩ => by rw [hl]; exact g3 w g2 a g1)
    (l.take m).toArray.size l.toArray.size (Array.replicate (l.take m).toArray.size false) a w.drew (by simp) (fun j k hj => by
      unfold Lst at hj
      rw [Array.getD_eq_getD_getElem?, Array.getElem?_replicate] at hj
      split at hj <;> cases hj) (by simp; omega) h1
  rw [hl] at h2
  have hrep : Array.replicate (l.take m).toArray.size false ++ Array.replicate (l.drop m).length false = Array.replicate l.toArray.size false := by
    rw [Array.replicate_append_replicate]
    congr 1
    simp; omega
  rw [hrep] at h2
  exact h2
end

section
variable {C : Ctx} {n : Nat} {ds : List Deferred} {Q : Exit → Env → List Blk → Prop} {e : Env} {H : List Blk}
theorem W_drawMT {id : Nat} {l : List Oper} {H0 : List Blk} (m : Nat) (hF : Wide F) (hm : C.P.follows .mixedOrders = true) (pres : List Pre) (slots S : List Nat) (hs : pres.map (·.slot) = slots)
    (hph : (phased (l.take m).toArray slots && ((l.take m).all fun o => dOk n o.dst && gOk n (l.take m).toArray o) && (slots.all fun p => S.contains p) && tailB l.toArray m && Nat.ble m l.length) = true) (hnd : slots.Nodup)
    (hH : HSub H (pres.map (fun p => (p.b, p.o)) ++ H0))
    (hp : ∀ ds, PW (C.at ds) (l.take m).toArray S (fun us e => OverAll (fun e H => WS (C.at ds) F n ds l.toArray Q (l.drop m) e H) (fun _ => True) us e H0) H0 (l.take m) [] (pres.map Pre.un) e) :
    W C F n ds (.region id l.toArray true) Q e H := by
  subst hs
  refine W_drawT (H0 := H0) m hF hm pres S hH ?_ hnd hp
  rw [List.all_map] at hph
  exact hph
end
end
/-- A contract without writes, among blocks. -/
theorem Ct.cs {C : Ctx} {f : FuncId} {args : Array Value} {H : List Blk} {R : Value → List Blk → Prop} (h : ∀ w, St C H w → Ct C.P f args w R) : Cs C f args H fun v H' => ∃ Hn, H' = Hn ++ H ∧ R v Hn := fun w hw =>
  Calls.mono (h w hw) fun _ _ ⟨v, he, Hn, h1, h2, h3⟩ => ⟨v, Hn ++ H, he, hw.grow h1 h2, Hn, rfl, h3⟩
theorem Mem.oldAtL1 {C : Ctx} {H : List Blk} {b o p : Nat} {vs : List Value} {u : Value} (h : At C.w0 b o vs) (hp : Nat.ble o p = true) (hd : vs[p - o]? = some u) : Mem C H b p [u] := by
  have := Mem.oldAt1 (C := C) (H := H) h hd
  rwa [show o + (p - o) = p by have := Nat.le_of_ble_eq_true hp; omega] at this
theorem Mem.oldAtL {C : Ctx} {H : List Blk} {b o p : Nat} {vs us rest : List Value} (h : At C.w0 b o vs) (hp : Nat.ble o p = true) (hd : vs.drop (p - o) = us ++ rest) : Mem C H b p us := by
  have := Mem.oldAt (C := C) (H := H) h hd
  rwa [show o + (p - o) = p by have := Nat.le_of_ble_eq_true hp; omega] at this
end Go.Eng

/- Walks: part, Least, cmp.Less, slices.BinarySearch. -/
namespace Go.Proofs.YtjekjehgmljbgaaDoor.T
open Go.RowKit Go.Proofs Go.Eng
set_option maxRecDepth 100000
set_option maxHeartbeats 1000000
set_option linter.unusedVariables false
set_option linter.unusedSimpArgs false



def lowest (n d : Nat) : Value := .agg #[.int .i64 ((n / Nat.gcd n d : Nat) : Int), .int .i64 ((d / Nat.gcd n d : Nat) : Int)]

/-- A fraction in lowest terms. -/
def lowI (n d : Int) : Value := lowest n.toNat d.toNat

end Go.Proofs.YtjekjehgmljbgaaDoor.T

/- Walks of tank: gauged, Check, Volume, Eighth, Range. -/
namespace Go.Proofs.YtjekjehgmljbgaaDoor.T
open Go.RowKit Go.Proofs Go.Eng
set_option maxRecDepth 100000
set_option maxHeartbeats 1000000
set_option linter.unusedVariables false
set_option linter.unusedSimpArgs false

theorem bs22_1_0 {x0 : Int} : ∀ w, (Instr.buildSlice 22 1 #[(0, .int .i64 x0)]).run Tryd.prog w = .ok (.slice (some ⟨w.heap.size, 0, none⟩) 1 1) (w.alloc (CB [.int .i64 x0] 3)) := fun w => by kernel_rfl
/-- What comes of a tank: a gauge in a new block, or none. -/
def GaugeV (t : Tk) (a : Option Addr) (cap : Nat) (v : Value) (Hn : List Blk) : Prop :=
  ∃ p, v = .tuple #[.pointer p, .bool t.okB] ∧ (t.okB = true → ∃ b, p = some ⟨b, 0, none⟩ ∧ Hn = [(b, CB [.slice a t.n cap, .int .i64 t.leak, .int .i64 t.foot, .int .i64 t.full, .int .i64 t.height] 191)]) ∧ (t.okB = false → Hn = [])
theorem GaugeV.bad {t : Tk} {a : Option Addr} {cap : Nat} {p : Option Addr} (h : t.okB = false) : GaugeV t a cap (.tuple #[.pointer p, .bool false]) [] :=
  ⟨p, by rw [h], fun h' => (by rw [h] at h'; cases h'), fun _ => rfl⟩


theorem Gg.own {C : Ctx} {H : List Blk} {g : Nat} {t : Tk} {a : Option Addr} {cap : Nat} (hm : (g, CB [.slice a t.n cap, .int .i64 t.leak, .int .i64 t.foot, .int .i64 t.full, .int .i64 t.height] 191) ∈ H) (hok : t.okB = true) (hx : Ints C.w0 a t.n cap t.pints) (w : World) (hw : St C H w) : Gg w g 0 t := by
  obtain ⟨i, hi, he⟩ := List.mem_iff_getElem.1 hm
  exact ⟨Tk.ok_iff.1 hok, a, cap, Mem.own (rest := []) i ((List.getElem?_eq_getElem hi).trans (congrArg some he)) rfl w hw, hx.st w hw⟩
def partV0 : Value := .agg #[.int .i64 0, .int .i64 0]
/-- What a tank holds at an eighth. -/
def Tk.volume (t : Tk) (x : Int) : Value :=
  if t.okB then if inB 0 t.height [x] then .tuple #[lowI (t.eight x) 8, .int .i64 0] else .tuple #[partV0, .int .i64 2] else .tuple #[partV0, .int .i64 30]

/-- The eighth of some pints; the index is that of the first number that is no less. -/
def Tk.eighthV (t : Tk) (x : Int) (i : Nat) : Value :=
  if t.okB then if inB 0 t.full [x] then .tuple #[if i < t.n ∧ t.p i = x then lowI (8 * i) 1 else lowI (8 * (((i : Int) - 1) * (t.p i - t.p (i - 1)) + x - t.p (i - 1))) (t.p i - t.p (i - 1)), .int .i64 0] else .tuple #[partV0, .int .i64 2] else .tuple #[partV0, .int .i64 30]
structure Tk.Lb (t : Tk) (x : Int) (i : Nat) : Prop where
  le : i ≤ t.n
  lo : ∀ k, k < i → t.p k < x
  hi : ∀ k, i ≤ k → k < t.n → x ≤ t.p k

/-- The pints of a dip. -/
def Tk.range (t : Tk) (x y : Int) : Value :=
  if t.okB then if inB 0 t.height [x, y] && decide (x ≤ y) then if t.down y < t.up x then .tuple #[partV0, .int .i64 6] else .tuple #[.agg #[.int .i64 (t.up x), .int .i64 (t.down y)], .int .i64 0] else .tuple #[partV0, .int .i64 2] else .tuple #[partV0, .int .i64 30]
end Go.Proofs.YtjekjehgmljbgaaDoor.T

/- Walks of the reference: Tank, Eight, Check, Volume, Range. -/
namespace Go.Proofs.YtjekjehgmljbgaaDoor.T
open Go.RowKit Go.Proofs Go.Eng
set_option maxRecDepth 100000
set_option maxHeartbeats 1000000
set_option linter.unusedVariables false
set_option linter.unusedSimpArgs false



end Go.Proofs.YtjekjehgmljbgaaDoor.T

/- The reference of Eighth. -/
namespace Go.Proofs.YtjekjehgmljbgaaDoor.T
open Go.RowKit Go.Proofs Go.Eng
set_option maxRecDepth 100000
set_option maxHeartbeats 1000000
set_option linter.unusedVariables false
set_option linter.unusedSimpArgs false



end Go.Proofs.YtjekjehgmljbgaaDoor.T

/- make of slices; rows of several cells each. No project text. -/
namespace Go.Eng
open Go.RowKit
def rowOf {α : Type} (enc : α → List Value) (f : Nat → α) (n : Nat) : List Value := (List.range n).flatMap fun k => enc (f k)
section
variable {α : Type} {enc : α → List Value} {sz : Nat}
theorem rowOf_succ (f : Nat → α) (n : Nat) : rowOf enc f (n + 1) = rowOf enc f n ++ enc (f n) := by
  unfold rowOf; rw [List.range_succ, List.flatMap_append]; simp
theorem rowOf_len (hz : ∀ x, (enc x).length = sz) (f : Nat → α) : ∀ n, (rowOf enc f n).length = n * sz
  | 0 => by simp [rowOf]
  | n + 1 => by rw [rowOf_succ, List.length_append, rowOf_len hz f n, hz, Nat.add_mul, Nat.one_mul]
theorem rowOf_congr {f g : Nat → α} : ∀ n, (∀ k, k < n → f k = g k) → rowOf enc f n = rowOf enc g n
  | 0, _ => rfl
  | n + 1, h => by rw [rowOf_succ, rowOf_succ, rowOf_congr n fun k hk => h k (by omega), h n (by omega)]
theorem rowOf_split (hz : ∀ x, (enc x).length = sz) (f : Nat → α) (k : Nat) : ∀ n, k < n → ∃ t, rowOf enc f n = rowOf enc f k ++ (enc (f k) ++ t) ∧ t = rowOf enc (fun j => f (k + 1 + j)) (n - (k + 1))
  | n + 1, h => by
    by_cases hk : k = n
    · subst hk
      exact ⟨[], by rw [rowOf_succ, List.append_nil], by rw [Nat.sub_self]; rfl⟩
    · obtain ⟨t, h1, h2⟩ := rowOf_split hz f k n (by omega)
      refine ⟨t ++ enc (f n), by rw [rowOf_succ, h1]; simp, ?_⟩
      rw [show n + 1 - (k + 1) = (n - (k + 1)) + 1 by omega, rowOf_succ, ← h2, show k + 1 + (n - (k + 1)) = n by omega]
/-- What lies at an element. -/
theorem rowOf_drop (hz : ∀ x, (enc x).length = sz) (f : Nat → α) {k n : Nat} (h : k < n) : ∃ t, (rowOf enc f n).drop (k * sz) = enc (f k) ++ t := by
  obtain ⟨t, h1, _⟩ := rowOf_split hz f k n h
  exact ⟨t, by rw [h1, ← rowOf_len hz f k, List.drop_left]⟩
theorem rowOf_get (hz : ∀ x, (enc x).length = sz) (f : Nat → α) {k n j : Nat} (h : k < n) {v : Value} (hv : (enc (f k))[j]? = some v) : (rowOf enc f n)[k * sz + j]? = some v := by
  obtain ⟨t, ht⟩ := rowOf_drop hz f h
  have h2 := congrArg (fun l => l[j]?) ht
  simp only [List.getElem?_drop] at h2
  rw [h2, List.getElem?_append_left (by have := List.getElem?_eq_some_iff.1 hv; exact this.1)]; exact hv
end
section
variable {C : Ctx} {e : Env} {H : List Blk} {d : Option Tmp} {ty : TypeId} {pos : String} {af : Array Edge} {g : Option (Nat × Bool)}
end
end Go.Eng

/- A region whose order is open but for a tail, and one reading among it that may go late. No project text. -/
namespace Go.Eng
open Go.RowKit
section
variable {P : Program} {F : Fence}
structure TailZ (ops : Array Oper) (m z : Nat) : Prop where
  down : ∀ i k, edge ops i k = true → k < i
  chain : ∀ i, m < i → i < ops.size → edge ops i (i - 1) = true
  all : ∀ j, j < m → j ≠ z → ∃ k, j < k ∧ k ≤ m ∧ k ≠ z ∧ edge ops k j = true
  last : m + 1 < ops.size → edge ops (m + 1) z = true
  zlt : z < m
  guard : ∀ (i : Nat) (o : Oper), i < m → ops[i]? = some o → ∀ j b, o.guard = some (j, b) → j < m
def tailZB (ops : Array Oper) (m z : Nat) : Bool :=
  ((List.range ops.size).all fun i => (ops[i]?.map fun o => o.after.all fun e => !Region.binds .any e || Nat.blt e.on i).getD true) &&
  ((List.range ops.size).all fun i => !Nat.blt m i || edge ops i (i - 1)) &&
  ((List.range m).all fun j => Nat.beq j z || (List.range (m + 1)).any fun k => Nat.blt j k && !Nat.beq k z && edge ops k j) &&
  (!Nat.blt (m + 1) ops.size || edge ops (m + 1) z) && Nat.blt z m &&
  ((List.range m).all fun i => (ops[i]?.map fun o => match o.guard with | some (j, _) => Nat.blt j m | none => true).getD true)
end
section
variable {C : Ctx} {F : Fence} {n : Nat} {ds : List Deferred} {Q : Exit → Env → List Blk → Prop} {e : Env} {H : List Blk}
def tailZQ (C : Ctx) (F : Fence) (n : Nat) (ds : List Deferred) (all : Array Oper) (om oz : Oper) (d : Nat) (post : List Oper) (Q : Exit → Env → List Blk → Prop) : Exit → Env → List Blk → Prop
  | .normal, e, H => WS C F n ds all Q (om :: post) e H ∧ ∀ x, WS C F n ds all Q (om :: oz :: post) (upd e d x) H
  | x, e, H => Q x e H
end
/-- Some of the blocks, in another order. -/
def SubP (H T : List Blk) : Prop := ∃ L, H.Perm (T ++ L)
theorem SubP.nil {H : List Blk} : SubP H [] := ⟨H, List.Perm.refl _⟩
theorem SubP.refl {H : List Blk} : SubP H H := ⟨[], by rw [List.append_nil]⟩
theorem SubP.drop {x : Blk} {H T : List Blk} (h : SubP H T) : SubP (x :: H) T := by
  obtain ⟨L, h⟩ := h
  exact ⟨x :: L, (h.cons x).trans List.perm_middle.symm⟩
theorem SubP.pick {x : Blk} {H T : List Blk} (i : Nat) (hi : H[i]? = some x) (h : SubP (H.eraseIdx i) T) : SubP H (x :: T) := by
  obtain ⟨L, h⟩ := h
  exact ⟨L, (perm_erase hi).trans (h.cons x)⟩
theorem SubP.hsub {H T : List Blk} (h : SubP H T) : HSub H T := by
  obtain ⟨L, h⟩ := h
  exact fun _ _ hk => (hk.perm h.symm).sub (List.sublist_append_left _ _)
section
variable {C : Ctx} {H : List Blk} {b o n k j sz : Nat} {α : Type} {enc : α → List Value} {f : Nat → α} {T : TypeId} {s : α} {v : Value}
theorem Mem.row (hz : ∀ x, (enc x).length = sz) (i : Nat) (hi : H[i]? = some (b, CB (rowOf enc f n) T)) (hk : k < n) (hs : f k = s) (ho : o = k * sz) : Mem C H b o (enc s) := by
  subst hs ho
  obtain ⟨t, ht⟩ := rowOf_drop hz f hk
  exact Mem.own i hi ht
end
def tupAt : Value → Nat → Value
  | .tuple vs, i => vs.getD i undef
  | _, _ => undef
def slAt : Value → Nat → Value
  | .slice (some ⟨b, o, r⟩) _ _, k => .pointer (some ⟨b, o + k, r⟩)
  | _, _ => undef
theorem Mem.rowJ {C : Ctx} {H : List Blk} {b o n k sz : Nat} {α : Type} {enc : α → List Value} {f : Nat → α} {T : TypeId} {s : α} {junk : List Value} (hz : ∀ x, (enc x).length = sz) (i : Nat) (hi : H[i]? = some (b, CB (rowOf enc f n ++ junk) T)) (hk : k < n) (hs : f k = s) (ho : o = k * sz) : Mem C H b o (enc s) := by
  subst hs ho
  obtain ⟨t, ht⟩ := rowOf_drop hz f hk
  refine Mem.own (rest := t ++ junk) i hi ?_
  rw [List.drop_append_of_le_length (by rw [rowOf_len hz]; exact Nat.mul_le_mul_right _ (Nat.le_of_lt hk)), ht, List.append_assoc]
def partC (e : Env) : Value ⊕ Nat → List Value
  | .inl v => [v]
  | .inr t => cellsL (e t)
/-- A struct made of known cells and of open values, some of which are structs. -/
def aggC (ps : List (Value ⊕ Nat)) (e : Env) : Value := .agg (ps.flatMap (partC e)).toArray
end Go.Eng

/- Numbers without a sign; copies; readings that may go late, once more. No project text. -/
namespace Go.Eng
open Go.RowKit
section
variable {C : Ctx} {e : Env} {H : List Blk} {d : Option Tmp} {ty : TypeId} {pos : String} {af : Array Edge} {g : Option (Nat × Bool)} {x y : Operand} {t t' : TypeId} {m n : Int}
end
section
variable {C : Ctx} {F : Fence} {n : Nat} {ds : List Deferred} {all : Array Oper} {Q : Exit → Env → List Blk → Prop} {rest : List Oper} {e : Env} {H : List Blk}
variable {d : Option Tmp} {ty : TypeId} {pos : String} {af : Array Edge} {g : Option (Nat × Bool)}
end
section
variable {C : Ctx} {F : Fence} {n : Nat} {ds : List Deferred} {Q : Exit → Env → List Blk → Prop} {e : Env} {H : List Blk}
end
section
variable {α : Type} {enc : α → List Value} {sz : Nat}
end
end Go.Eng

/- Maps whose keys are integers, as lists of entries. No project text. -/
namespace Go.Eng
open Go.RowKit
/-- A key, its value, and when it was born. -/
abbrev Ent := Int × Value × Nat
def mEnt (x : Ent) : MapEntry := { key := .int .i64 x.1, val := x.2.1, born := x.2.2 }
def MO (l : List Ent) (clock : Nat) : Obj := .map (l.map mEnt).toArray clock
def hasK (k : Int) (x : Ent) : Bool := x.1 == k
section
variable {C : Ctx} {F : Fence} {n : Nat} {ds : List Deferred} {all : Array Oper} {Q : Exit → Env → List Blk → Prop} {rest : List Oper} {e : Env} {H : List Blk}
variable {d : Option Tmp} {ty : TypeId} {pos : String} {af : Array Edge} {g : Option (Nat × Bool)}
def NewMap (v : Value) (Hn : List Blk) : Prop := ∃ b, v = .map (some b) ∧ Hn = [(b, MO [] 0)]
def lookV (z : Value) : Option Value → Value
  | some v => .tuple #[v, .bool true]
  | none => .tuple #[z, .bool false]
end
end Go.Eng

/- append onto a row that is the last of the blocks; a map's entry, as told. No project text. -/
namespace Go.Eng
open Go.RowKit
section
variable {C : Ctx} {F : Fence} {n : Nat} {ds : List Deferred} {all : Array Oper} {Q : Exit → Env → List Blk → Prop} {rest : List Oper} {e : Env} {H : List Blk}
variable {d : Option Tmp} {ty : TypeId} {pos : String} {af : Array Edge} {g : Option (Nat × Bool)}
theorem WS_appendE (hF : Wide F) {x y : Operand} {T E : TypeId} {a a' : Option Addr} {n' m cap cap' sz by_ : Nat} {us news : List Value} {z : Value} {H1 Hn : List Blk} (hc : chk n all e ⟨d, .call ⟨.builtin .append, #[x, y], #[T, T]⟩, ty, pos, af, g⟩ = true)
    (hx : ev e x = .slice a n' cap) (hy : ev e y = .slice a' m cap') (hT : C.P.underlying T = some (.slice E)) (hinf : (C.P.info? E).map (fun i => (i.zero, i.size, i.bytes)) = some (some z, sz, by_))
    (hzs : z.cells.size = sz) (hH : H = H1 ++ Hn) (hrow : Row E sz a n' cap us Hn) (hs : Src C H a' m news) (hl : news.length = m * sz) (hone : news.all Value.oneCell' = true) (hb : (n' + m) * by_ ≤ 140737488355328) (hm : n' + m ≤ 140737488355328)
    (hk : ∀ a' cap' Hn', Row E sz a' (n' + m) cap' (us ++ news) Hn' → WS C F n ds all Q rest (updo e d (.slice a' (n' + m) cap')) (H1 ++ Hn')) :
    WS C F n ds all Q (⟨d, .call ⟨.builtin .append, #[x, y], #[T, T]⟩, ty, pos, af, g⟩ :: rest) e H :=
  WS_append (H1 := H1) (H2 := []) hF hc hx hy hT hinf hzs (by rw [hH, List.append_nil]) hrow hs hl hone hb hm fun a' cap' Hn' hr => by
    rw [List.append_nil]; exact hk a' cap' Hn' hr
end
end Go.Eng

/- A region whose order is open, order by order: pure operations first, then the others as they are ready. No project text. -/
namespace Go.Eng
open Go.RowKit
section
variable {C : Ctx} {F : Fence} {n : Nat} {ds : List Deferred} {ops : Array Oper} {Q : Exit → Env → List Blk → Prop} {fuel : Nat} {listed : Array Bool} {e : Env} {H : List Blk}
def WA (C : Ctx) (F : Fence) (n : Nat) (ds : List Deferred) (ops : Array Oper) (Q : Exit → Env → List Blk → Prop) (fuel : Nat) (listed : Array Bool) (e : Env) (H : List Blk) : Prop :=
  ∀ w, St C H w → ∀ a, Rep n ds a e → wpAnyIn F 0 C.P .any ops (lift C n ds Q) fuel listed a w
/-- Only the normal end. -/
def OnlyQ (M : Env → List Blk → Prop) : Exit → Env → List Blk → Prop
  | .normal, e, H => M e H
  | _, _, _ => False
def Pure (P : Program) (e : Env) (o : Oper) (c : Value) : Prop := (∀ w, (execOp (ev e) o).run P w = .ok (.value c) w) ∧ ∀ w, o.about P w (ev e) = none
def NextQ (M : Env → List Blk → Prop) (N : Env → List Blk → Prop) : Exit → Env → List Blk → Prop
  | .normal, e, H => N e H
  | x, e, H => OnlyQ M x e H
theorem W_tailA {id : Nat} {l : List Oper} (m : Nat) (hm : C.P.follows .mixedOrders = true) (M : Env → List Blk → Prop)
    (hph : (tailB l.toArray m && Nat.ble m l.length) = true)
    (hrest : ∀ ds e H, M e H → WS (C.at ds) F n ds l.toArray Q (l.drop m) e H) (hp : ∀ ds, WA (C.at ds) F n ds (l.take m).toArray (OnlyQ M) m (Array.replicate m false) e H) :
    W C F n ds (.region id l.toArray true) Q e H := fun dd w hw a ha => by
  simp only [Bool.and_eq_true] at hph
  obtain ⟨ht, hml⟩ := hph
  have hml : m ≤ l.length := Nat.le_of_ble_eq_true hml
  have hlen : (l.take m).length = m := by simp; omega
  have hl : l.take m ++ l.drop m = l := List.take_append_drop m l
  have ht' : Tail (l.take m ++ l.drop m).toArray (l.take m).length := by rw [hl, hlen]; exact tail_of ht
  have hd : ∀ i k, edge (l.take m).toArray i k = true → k < i := fun i k hk => by
    have hi : i < (l.take m).length := by simpa using edge_lt hk
    refine ht'.down i k ?_
    unfold edge at hk ⊢
    rwa [show (l.take m ++ l.drop m).toArray[i]? = (l.take m).toArray[i]? by rw [List.getElem?_toArray, List.getElem?_toArray, List.getElem?_append_left hi]]
  refine wpIn_mono (Q := lift (C.at dd) n dd Q) (wpIn_region_any hm ?_) fun _ _ _ h => lift_M h
  have h1 := hp dd w.drew ⟨hw.drew.1, hw.drew.2, hw.drew.3⟩ a ha
  have h2 := tail_any (P := C.P) (F := F) (pre := l.take m) (post := l.drop m) (Q := lift (C.at dd) n dd Q) (Q' := lift (C.at dd) n dd (OnlyQ M)) ht' hd
    (fun x hx a w ⟨e, H, g1, g2, g3⟩ => by cases x <;> first | exact g3.elim | exact absurd rfl hx) (fun a w ⟨e, H, g1, g2, g3⟩ => by rw [hl]; exact hrest dd e H g3 w g2 a g1)
    m l.toArray.size (Array.replicate m false) a w.drew (by simp [hlen]) (fun j k hj => by
      unfold Lst at hj
      rw [Array.getD_eq_getD_getElem?, Array.getElem?_replicate] at hj
      split at hj <;> cases hj) (by simp; omega) h1
  rw [hl] at h2
  have hrep : Array.replicate m false ++ Array.replicate (l.drop m).length false = Array.replicate l.toArray.size false := by
    rw [Array.replicate_append_replicate]
    congr 1
    simp; omega
  rw [hrep] at h2
  exact h2
end
end Go.Eng

namespace Go.Eng
open Go.RowKit
section
variable {C : Ctx} {F : Fence} {n : Nat} {ds : List Deferred} {Q : Exit → Env → List Blk → Prop} {e : Env} {H : List Blk}
def NoG (Q : Exit → Env → List Blk → Prop) : Exit → Env → List Blk → Prop
  | .goto _, _, _ => False
  | x, e, H => Q x e H
theorem NoG_ret (h : Q .ret e H) : NoG Q .ret e H := h
theorem W_scope {c : Code} (h : W C Fence.wide n ds c (NoG Q) e H) : W C Fence.wide n ds (.scope c) Q e H := fun dd w hw a ha => by
  have h1 := h dd w hw a ha
  rw [wpIn_wide] at h1 ⊢
  refine wp_scope_straight ?_
  rw [← wpIn_wide (n := 0)] at h1 ⊢
  refine wpIn_mono h1 ?_
  rintro x a' w' ⟨d', e', H', g1, g2, g3⟩
  cases x with
  | goto l => exact g3.elim
  | _ => exact ⟨d', e', H', g1, g2, g3⟩
end
end Go.Eng
