/- A small program logic over the kit's fenced rules: the frame is a function from slots to values, the memory made since the call began is a list of blocks, and the world itself is hidden. No project text. -/
import Derived.WalkKit
import Derived.OrdersIn
import Derived.TacticsIn
import Derived.CallsIn
import Derived.RangeFuncCalls
import Derived.KernelRfl
import Derived.Shelf.Abstract
import Derived.Sort.LoopGhostIn
namespace Go.Eng
open Go.RowKit

abbrev Env := Nat → Value
def upd (e : Env) (d : Nat) (v : Value) : Env := fun t => bif Nat.beq t d then v else e t
def updo (e : Env) : Option Nat → Value → Env
  | some d, v => upd e d v
  | none, _ => e
def ev (e : Env) : Operand → Value
  | .tmp t => e t
  | .const v => v
  | .global g => .pointer (some ⟨g, 0, none⟩)
  | .func f => .func (.func f) #[] #[]
def dOk (n : Nat) : Option Nat → Bool
  | some d => Nat.blt d n
  | none => true

theorem upd_same (e : Env) (d : Nat) (v : Value) : upd e d v d = v := by
  have h : Nat.beq d d = true := by simp
  simp only [upd, h, cond_true]
theorem upd_ne (e : Env) {d t : Nat} (v : Value) (h : t ≠ d) : upd e d v t = e t := by
  have h' : Nat.beq t d = false := by
    cases hb : Nat.beq t d with
    | false => rfl
    | true => exact absurd (Nat.eq_of_beq_eq_true hb) h
  simp only [upd, h', cond_false]
theorem upd_eta (e : Env) (d : Nat) : upd e d (e d) = e := by
  funext t
  by_cases h : t = d
  · subst h; exact upd_same e t _
  · exact upd_ne e _ h

structure Rep (n : Nat) (ds : List Deferred) (a : Act) (e : Env) : Prop where
  size : a.tmps.size = n
  defers : a.defers = ds
  val : ∀ t, a.tmps.getD t undef = e t

section
variable {n : Nat} {ds : List Deferred} {a : Act} {e : Env} {d : Nat} {v : Value}
theorem Rep.eval (h : Rep n ds a e) : a.eval = ev e := by
  funext x
  cases x with
  | tmp t => exact h.val t
  | const => rfl
  | global => rfl
  | func => rfl
theorem Rep.put (h : Rep n ds a e) (o : Option Nat) (hd : dOk n o = true) : Rep n ds (a.put o v) (updo e o v) := by
  cases o with
  | none => exact h
  | some d =>
    have hlt : d < n := by simpa [dOk, Nat.blt_eq] using hd
    refine ⟨by simp [Act.put, h.size], h.defers, fun t => ?_⟩
    by_cases ht : t = d
    · subst ht
      simp only [updo, upd_same, Act.put, Array.getD_eq_getD_getElem?, Array.getElem?_setIfInBounds]
      simp [h.size, hlt]
    · simp only [updo, upd_ne e v ht, ← h.val t, Act.put, Array.getD_eq_getD_getElem?, Array.getElem?_setIfInBounds]
      rw [if_neg (Ne.symm ht)]
end

/-! ### Memory: blocks made since the call began -/
abbrev Blk := Nat × Obj
structure Ctx where
  P : Program
  w0 : World
  ds : List Deferred := []
  out : List Deferred := []
/-- The same, with these marks on the frame. -/
def Ctx.at (C : Ctx) (ds : List Deferred) : Ctx := ⟨C.P, C.w0, ds, C.out⟩
/-- The context of a call made from here. -/
def Ctx.inner (C : Ctx) : Ctx := ⟨C.P, C.w0, [], C.ds ++ C.out⟩

structure HOk (N : Nat) (w : World) (H : List Blk) : Prop where
  mem : ∀ x ∈ H, N ≤ x.1 ∧ w.heap[x.1]? = some x.2
  nodup : (H.map Prod.fst).Nodup
  kind : ∀ x ∈ H, x.2 ≠ .deferred (some [])

/-- The marks that loops over functions leave on a frame: each leads to a block with nothing in it. -/
def Mk (ds : List Deferred) (N : Nat) (w : World) : Prop := ds.Nodup ∧ ∀ d ∈ ds, ∃ D, d = { target := .collected D, args := #[] } ∧ N ≤ D ∧ w.heap[D]? = some (.deferred (some []))
structure St (C : Ctx) (H : List Blk) (w : World) : Prop where
  below : Below C.w0.heap.size C.w0 w
  hok : HOk C.w0.heap.size w H
  marks : Mk (C.ds ++ C.out) C.w0.heap.size w
theorem Mk.nil {N : Nat} {w : World} : Mk [] N w := ⟨List.nodup_nil, fun d h => (by cases h)⟩
theorem Mk.below {ds : List Deferred} {N : Nat} {w w' : World} (h : Mk ds N w) (hb : Below w.heap.size w w') : Mk ds N w' := ⟨h.1, fun d hd => by
  obtain ⟨D, h1, h2, h3⟩ := h.2 d hd
  exact ⟨D, h1, h2, (hb.block D (Array.getElem?_eq_some_iff.1 h3).1).trans h3⟩⟩
theorem Mk.drew {ds : List Deferred} {N : Nat} {w : World} (h : Mk ds N w) : Mk ds N w.drew := h

theorem HOk.nil (N : Nat) (w : World) : HOk N w [] := ⟨fun x h => (by cases h), List.nodup_nil, fun x h => (by cases h)⟩
theorem HOk.lt {N : Nat} {w : World} {H : List Blk} (h : HOk N w H) : ∀ x ∈ H, x.1 < w.heap.size := fun x hx => by
  have := (h.mem x hx).2
  exact (Array.getElem?_eq_some_iff.1 this).1
theorem HOk.grow {N : Nat} {w w' : World} {H Hn : List Blk} (h : HOk N w H) (hN : N ≤ w.heap.size) (hb : Below w.heap.size w w') (hn : HOk w.heap.size w' Hn) : HOk N w' (Hn ++ H) := by
  refine ⟨fun x hx => ?_, ?_, fun x hx => (List.mem_append.1 hx).elim (hn.kind x) (h.kind x)⟩
  · rcases List.mem_append.1 hx with hx | hx
    · exact ⟨Nat.le_trans hN (hn.mem x hx).1, (hn.mem x hx).2⟩
    · exact ⟨(h.mem x hx).1, (hb.block x.1 (h.lt x hx)).trans (h.mem x hx).2⟩
  · rw [List.map_append, List.nodup_append]
    refine ⟨hn.nodup, h.nodup, fun a ha b hb' e => ?_⟩
    obtain ⟨x, hx, rfl⟩ := List.mem_map.1 ha
    obtain ⟨y, hy, rfl⟩ := List.mem_map.1 hb'
    have h1 := (hn.mem x hx).1
    have h2 := h.lt y hy
    omega
theorem HOk.sub {N : Nat} {w : World} {H H' : List Blk} (h : HOk N w H) (hs : H'.Sublist H) : HOk N w H' :=
  ⟨fun x hx => h.mem x (hs.mem hx), h.nodup.sublist (hs.map _), fun x hx => h.kind x (hs.mem hx)⟩
theorem St.grow {C : Ctx} {H Hn : List Blk} {w w' : World} (h : St C H w) (hb : Below w.heap.size w w') (hn : HOk w.heap.size w' Hn) : St C (Hn ++ H) w' :=
  ⟨h.1.trans (hb.mono h.1.size), h.2.grow h.1.size hb hn, h.3.below hb⟩
theorem St.drew {C : Ctx} {H : List Blk} {w : World} (h : St C H w) : St C H w.drew := ⟨h.1.drew, ⟨h.2.mem, h.2.nodup, h.2.kind⟩, h.3.drew⟩
theorem St.get {C : Ctx} {H : List Blk} {w : World} (h : St C H w) {i b : Nat} {o : Obj} (hi : H[i]? = some (b, o)) : w.heap[b]? = some o :=
  (h.2.mem (b, o) (List.mem_of_getElem? hi)).2

/-! ### What one operation yields -/
/-- From w on: new blocks alone, and what is said of the value and of these. -/
def Out (R : Value → List Blk → Prop) (v : Value) (w w' : World) : Prop := ∃ Hn, Below w.heap.size w w' ∧ HOk w.heap.size w' Hn ∧ R v Hn

def OutRes (P : Program) (R : Value → List Blk → Prop) (w : World) : Result Next → Prop
  | .ok (.value v) w' => Out R v w w'
  | .ok .skip w' => Out R undef w w'
  | .ok (.enter f args) w' => w' = w ∧ Calls P f args w fun en w'' => ∃ v, en = .returned v ∧ Out R v w w''
  | _ => False

def YR (C : Ctx) (o : Oper) (e : Env) (H : List Blk) (R : Value → List Blk → Prop) : Prop :=
  ∀ w, St C H w → OutRes C.P R w ((execOp (ev e) o).run C.P w)

/-- A function's contract: a value, new blocks. -/
def Ct (P : Program) (f : FuncId) (args : Array Value) (w : World) (R : Value → List Blk → Prop) : Prop :=
  Calls P f args w fun en w' => ∃ v, en = .returned v ∧ Out R v w w'

theorem Ct.mono {P : Program} {f : FuncId} {args : Array Value} {w : World} {R R' : Value → List Blk → Prop} (h : Ct P f args w R) (hr : ∀ v Hn, R v Hn → R' v Hn)  : Ct P f args w R' :=
  Calls.mono h fun _ _ ⟨v, he, Hn, h1, h2, h3⟩ => ⟨v, he, Hn, h1, h2, hr _ _ h3⟩

/-! ### Code -/
def lift (C : Ctx) (n : Nat) (ds : List Deferred) (Q : Exit → Env → List Blk → Prop) : Exit → Act → World → Prop :=
  fun x a w => ∃ e H, Rep n ds a e ∧ St C H w ∧ Q x e H

structure Wide (F : Fence) : Prop where
  fn : ∀ f, F.fn f
  depth : F.depth = none
  alive : F.alive = false

theorem wide_wide : Wide Fence.wide := ⟨fun _ => trivial, rfl, rfl⟩
theorem wide_inRound {F : Fence} (h : Wide F) (l : Nat) : Wide (F.inRound l) := ⟨h.fn, h.depth, h.alive⟩
theorem Wide.fenced {F : Fence} (hF : Wide F) (P : Program) (m : Machine) : Machine.fenced P F m :=
  fun g _ => ⟨fun h => (by rw [hF.alive] at h; cases h), .inl (hF.fn _), fun f _ => hF.fn f, fun d hd => by rw [hF.depth] at hd; cases hd⟩
theorem Wide.room {F : Fence} (hF : Wide F) (k : Nat) : F.room k := fun d hd => by rw [hF.depth] at hd; cases hd

/-- A walk's end, whatever marks the frame bears. -/
def liftM (C : Ctx) (n : Nat) (Q : Exit → Env → List Blk → Prop) : Exit → Act → World → Prop :=
  fun x a w => ∃ ds e H, Rep n ds a e ∧ St (C.at ds) H w ∧ Q x e H
theorem lift_M {C : Ctx} {n : Nat} {ds : List Deferred} {Q : Exit → Env → List Blk → Prop} {x : Exit} {a : Act} {w : World} (h : lift (C.at ds) n ds Q x a w) : liftM C n Q x a w := by
  obtain ⟨e, H, h1, h2, h3⟩ := h
  exact ⟨ds, e, H, h1, h2, h3⟩
def W (C : Ctx) (F : Fence) (n : Nat) (_ds : List Deferred) (c : Code) (Q : Exit → Env → List Blk → Prop) (e : Env) (H : List Blk) : Prop :=
  ∀ ds w, St (C.at ds) H w → ∀ a, Rep n ds a e → c.wpIn F 0 C.P (liftM C n Q) a w

def Then (K : Env → List Blk → Prop) (Q : Exit → Env → List Blk → Prop) : Exit → Env → List Blk → Prop
  | .normal, e, H => K e H
  | x, e, H => Q x e H
def InB (id : Nat) (Q : Exit → Env → List Blk → Prop) : Exit → Env → List Blk → Prop
  | .exit i, e, H => if i = id then Q .normal e H else Q (.exit i) e H
  | x, e, H => Q x e H

section
variable {C : Ctx} {F : Fence} {n : Nat} {ds : List Deferred} {Q Q' : Exit → Env → List Blk → Prop} {e : Env} {H : List Blk}

theorem W_mono {c : Code} (h : W C F n ds c Q e H) (hq : ∀ x e H, Q x e H → Q' x e H) : W C F n ds c Q' e H :=
  fun dd w hw a ha => wpIn_mono (h dd w hw a ha) fun _ _ _ ⟨d', e', H', h1, h2, h3⟩ => ⟨d', e', H', h1, h2, hq _ _ _ h3⟩

theorem W_seq {x y : Code} (h : W C F n ds x (Then (W C F n ds y Q) Q) e H) : W C F n ds (.seq x y) Q e H := fun dd w hw a ha => by
  refine wpIn_seq (wpIn_mono (h dd w hw a ha) ?_)
  rintro x' a' w' ⟨d', e', H', h1, h2, h3⟩
  cases x' with
  | normal => exact h3 d' w' h2 a' h1
  | _ => exact ⟨d', e', H', h1, h2, h3⟩

theorem W_skip (h : Q .normal e H) : W C F n ds .skip Q e H := fun dd _ hw _ ha => wpIn_skip ⟨dd, e, H, ha, hw, h⟩
theorem W_ret (h : Q .ret e H) : W C F n ds .ret Q e H := fun dd _ hw _ ha => wpIn_ret ⟨dd, e, H, ha, hw, h⟩
theorem W_exit {id : Nat} (h : Q (.exit id) e H) : W C F n ds (.exit id) Q e H := fun dd _ hw _ ha => wpIn_exit ⟨dd, e, H, ha, hw, h⟩
theorem W_label {l : Nat} (h : Q .normal e H) : W C F n ds (.label l) Q e H := fun dd _ hw _ ha => wpIn_label ⟨dd, e, H, ha, hw, h⟩
theorem W_block {id : Nat} {c : Code} (h : W C F n ds c (InB id Q) e H) : W C F n ds (.block id c) Q e H := fun dd w hw a ha => by
  refine wpIn_block (wpIn_mono (h dd w hw a ha) ?_)
  rintro x' a' w' ⟨d', e', H', h1, h2, h3⟩
  cases x' with
  | exit i =>
    simp only [InB] at h3
    simp only [Exit.inBlock]
    split
    · rename_i hi; rw [if_pos hi] at h3; exact ⟨d', e', H', h1, h2, h3⟩
    · rename_i hi; rw [if_neg hi] at h3; exact ⟨d', e', H', h1, h2, h3⟩
  | _ => exact ⟨d', e', H', h1, h2, h3⟩
theorem W_cond {c : Operand} {x y : Code} {b : Bool} (hc : ev e c = .bool b) (ht : b = true → W C F n ds x Q e H) (hf : b = false → W C F n ds y Q e H) :
    W C F n ds (.cond c x y) Q e H := fun dd w hw a ha => by
  refine wpIn_cond_split (t := b) (by rw [ha.eval]; exact hc) (fun h => ht h dd w hw a ha) (fun h => hf h dd w hw a ha)

/-- Slots laid over a frame. -/
def sets (e : Env) : List (Nat × Value) → Env
  | [] => e
  | (d, v) :: l => upd (sets e l) d v
theorem sets_eq {e : Env} : ∀ {l : List (Nat × Value)}, (∀ x ∈ l, e x.1 = x.2) → sets e l = e
  | [], _ => rfl
  | (d, v) :: l, h => by
    have h1 := h (d, v) (List.mem_cons_self ..)
    simp only [sets, sets_eq fun x hx => h x (List.mem_cons_of_mem _ hx)]
    simp only at h1
    rw [← h1, upd_eta]
/-- What the list says of the frame, slot by slot. -/
def Slots (e : Env) : List (Nat × Value) → Prop
  | [] => True
  | (d, v) :: l => e d = v ∧ Slots e l
theorem Slots.sets {e : Env} : ∀ {l : List (Nat × Value)}, Slots e l → sets e l = e
  | [], _ => rfl
  | (d, v) :: l, h => by
    have h1 : e d = v := h.1
    simp only [Eng.sets, Slots.sets h.2]
    rw [← h1, upd_eta]

theorem W_weak {c : Code} {H' : List Blk} (hs : H'.Sublist H) (h : W C F n ds c Q e H') : W C F n ds c Q e H :=
  fun dd w hw a ha => h dd w ⟨hw.1, hw.2.sub hs, hw.3⟩ a ha

/-- A loop: some slots and some blocks as the ghost says, all other slots whatever they are. -/
def LoopPost {γ : Type} (I : γ → Prop) (L : γ → List (Nat × Value)) (B : γ → List Blk) (μ : γ → Nat) (m : Nat) (Q : Exit → Env → List Blk → Prop) : Exit → Env → List Blk → Prop :=
  Then (fun e H => ∃ g, I g ∧ Slots e (L g) ∧ (B g).Sublist H ∧ μ g < m) Q

theorem W_loop {c : Code} {γ : Type} (I : γ → Prop) (L : γ → List (Nat × Value)) (B : γ → List Blk) (μ : γ → Nat) (g0 : γ)
    (hI : I g0) (hL : Slots e (L g0)) (hB : (B g0).Sublist H)
    (round : ∀ g e, I g → W C F n ds c (LoopPost I L B μ (μ g) Q) (sets e (L g)) (B g)) : W C F n ds (.loop c) Q e H := fun dd w hw a ha => by
  refine wpIn_loop_ghost (fun m a w => ∃ g dd e H, μ g = m ∧ I g ∧ Slots e (L g) ∧ (B g).Sublist H ∧ St (C.at dd) H w ∧ Rep n dd a e) (μ g0) ⟨g0, dd, e, H, rfl, hI, hL, hB, hw, ha⟩ ?_
  rintro m a w ⟨g, dd, e, H, rfl, hI, hL, hB, hw, ha⟩
  have h := round g e hI dd w ⟨hw.1, hw.2.sub hB, hw.3⟩ a (by rw [hL.sets]; exact ha)
  refine wpIn_mono h ?_
  rintro x a' w' ⟨d', e', H', h1, h2, h3⟩
  cases x with
  | normal =>
    obtain ⟨g', i1, i2, i3, i4⟩ := h3
    exact ⟨μ g', i4, g', d', e', H', rfl, i1, i2, i3, h2, h1⟩
  | _ => exact ⟨d', e', H', h1, h2, h3⟩

/-! ### A region in the text's order -/
/-- Is the operation wanted, as its guard's slot stands? -/
def gdOf (all : Array Oper) (e : Env) (o : Oper) : Option Bool :=
  match o.guard with
  | none => some true
  | some (j, want) =>
    match (all[j]?).bind (·.dst) with
    | some d =>
      match e d with
      | .bool b => some (b == want)
      | .tuple _ => some false
      | _ => none
    | none => none
theorem gd_wanted {all : Array Oper} {o : Oper} {a : Act} {b : Bool} (ha : Rep n ds a e) (h : gdOf all e o = some b) (hd : ∀ j w d, o.guard = some (j, w) → (all[j]?).bind (·.dst) = some d → d < n) :
    Region.wanted o (yielded all a.tmps) = b := by
  unfold gdOf at h
  unfold Region.wanted
  split at h
  · rename_i hg; rw [hg]; simpa using h
  · rename_i j want hg
    rw [hg]
    simp only [yielded]
    split at h
    · rename_i d hdst
      have hlt := hd j want d hg hdst
      have hv := ha.val d
      rw [Array.getD_eq_getD_getElem?, Array.getElem?_eq_getElem (by rw [ha.size]; exact hlt)] at hv
      simp only [Option.getD_some] at hv
      rw [hdst]
      simp only [Option.bind_some, Array.getElem?_eq_getElem (show d < a.tmps.size by rw [ha.size]; exact hlt), hv]
      split at h
      · rename_i b' hb
        rw [hb]
        simp only [Option.some.injEq] at h
        rw [← h]
        cases b' <;> cases want <;> rfl
      · rename_i hb
        rw [hb]
        simp only [Option.some.injEq] at h
        rw [← h]; rfl
      · cases h
    · cases h

def WS (C : Ctx) (F : Fence) (n : Nat) (ds : List Deferred) (all : Array Oper) (Q : Exit → Env → List Blk → Prop) (l : List Oper) (e : Env) (H : List Blk) : Prop :=
  ∀ w, St C H w → ∀ a, Rep n ds a e → wpListIn F 0 C.P all (lift C n ds Q) l a w

theorem W_region_lit {id : Nat} {l : List Oper} (h : ∀ ds, WS (C.at ds) F n ds l.toArray Q l e H) : W C F n ds (.region id l.toArray false) Q e H :=
  fun dd w hw a ha => wpIn_mono (wpIn_region_lit (h dd w hw a ha)) fun _ _ _ h => lift_M h
variable {all : Array Oper} {rest : List Oper} {o : Oper}
theorem WS_nil (h : Q .normal e H) : WS C F n ds all Q [] e H := fun _ hw _ ha => wpListIn_nil ⟨e, H, ha, hw, h⟩
theorem WS_weak {H' : List Blk} (hs : H'.Sublist H) (h : WS C F n ds all Q rest e H') : WS C F n ds all Q rest e H :=
  fun w hw a ha => h w ⟨hw.1, hw.2.sub hs, hw.3⟩ a ha
/-- A slot's Bool, both ways. -/
theorem WS_split (d : Nat) {b : Bool} (hb : e d = .bool b) (ht : b = true → WS C F n ds all Q rest (upd e d (.bool true)) H) (hf : b = false → WS C F n ds all Q rest (upd e d (.bool false)) H) :
    WS C F n ds all Q rest e H := by
  cases b with
  | true => have := ht rfl; rw [← hb, upd_eta] at this; exact this
  | false => have := hf rfl; rw [← hb, upd_eta] at this; exact this

/-- A guard's slot lies in the frame. -/
def gOk (n : Nat) (all : Array Oper) (o : Oper) : Bool :=
  match o.guard with
  | none => true
  | some (j, _) => match (all[j]?).bind (·.dst) with
    | some d => Nat.blt d n
    | none => false
theorem gOk_lt (h : gOk n all o = true) : ∀ j w d, o.guard = some (j, w) → (all[j]?).bind (·.dst) = some d → d < n := by
  intro j w d hg hd
  unfold gOk at h
  rw [hg] at h
  simp only [hd] at h
  simpa using h

def noDefer (o : Oper) : Bool := match o.op with | .defer _ => false | _ => true
theorem semAt_of {ro : Option Nat} {ρ : Operand → Value} (h : noDefer o = true) : o.semAt ro ρ = execOp ρ o :=
  Oper.semAt_eq ro ρ o fun c hc => by simp [noDefer, hc] at h

theorem calls_in {P : Program} {f : FuncId} {args : Array Value} {w : World} {R : Ending → World → Prop} (hF : Wide F) (h : Calls P f args w R) : CallsIn F 0 P f args w R := by
  refine ⟨hF.fn f, fun cs _ => ?_⟩
  obtain ⟨en, w', fr, h1, h2, h3⟩ := h cs
  refine ⟨en, w', fr, h1, ?_, h3⟩
  cases en with
  | outgrown => exact h2
  | _ => exact StepsIn.mono (fun m _ => hF.fenced P m) (StepsIn.of_steps h2)

theorem calls_of_in {P : Program} {f : FuncId} {args : Array Value} {w : World} {R : Ending → World → Prop} (hF : Wide F) {k : Nat} (h : CallsIn F k P f args w R) : Calls P f args w R :=
  h.calls hF.room

theorem uponIn_of (hF : Wide F) {R : Value → List Blk → Prop} {P : Program} {w : World} {a : Act} {K : Act → World → Prop} {QQ : Exit → Act → World → Prop} {r : Result Next}
    (h : OutRes P R w r) (hk : ∀ v w', Out R v w w' → K (a.put o.dst v) w') : o.uponIn F 0 P a K QQ r := by
  cases r with
  | ok x w' =>
    cases x <;> simp only [OutRes] at h
    case value v => exact hk _ _ h
    case skip => exact hk _ _ h
    case enter f args =>
      obtain ⟨rfl, h⟩ := h
      refine ⟨fun hd => (by rw [hF.depth] at hd; cases hd), calls_in hF (Calls.mono h ?_)⟩
      rintro en w'' ⟨v, rfl, h'⟩
      exact hk _ _ h'
  | halt x w' => exact h.elim

theorem wpIn_of (hF : Wide F) (hn : noDefer o = true) {R : Value → List Blk → Prop} {w : World} {a : Act} {K : Act → World → Prop} {QQ : Exit → Act → World → Prop}
    (ha : Rep n ds a e) (hw : St C H w) (h : YR C o e H R) (hk : ∀ v w', Out R v w w' → K (a.put o.dst v) w') : o.wpIn F 0 C.P a w K QQ := by
  refine ⟨fun f _ => hF.fn f, ?_⟩
  rw [semAt_of hn, ha.eval]
  exact uponIn_of hF (h w hw) hk

theorem WS_step (hF : Wide F) (hn : noDefer o = true) (hg : gdOf all e o = some true) (hgo : gOk n all o = true) (hd : dOk n o.dst = true) {R : Value → List Blk → Prop} (hy : YR C o e H R)
    (hk : ∀ v Hn, R v Hn → WS C F n ds all Q rest (updo e o.dst v) (Hn ++ H)) : WS C F n ds all Q (o :: rest) e H := fun w hw a ha => by
  have hwant := gd_wanted ha hg (gOk_lt hgo)
  unfold wpListIn
  rw [if_pos hwant]
  refine wpIn_of hF hn ha hw hy ?_
  rintro v w' ⟨Hn, h1, h2, h3⟩
  exact hk v Hn h3 w' (hw.grow h1 h2) _ (ha.put o.dst hd)
theorem WS_skip (hF : Wide F) (hg : gdOf all e o = some false) (hgo : gOk n all o = true) (hd : dOk n o.dst = true)
    (hk : WS C F n ds all Q rest (updo e o.dst undef) H) : WS C F n ds all Q (o :: rest) e H := fun w hw a ha => by
  have hwant := gd_wanted ha hg (gOk_lt hgo)
  unfold wpListIn
  rw [if_neg (by simp [hwant])]
  exact ⟨fun f _ => hF.fn f, hk w hw _ (ha.put o.dst hd)⟩
end
end Go.Eng
