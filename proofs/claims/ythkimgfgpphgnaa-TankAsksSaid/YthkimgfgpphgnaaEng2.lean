/- Regions whose order is open: each operation by a fact of its own, whatever order the edges allow. No project text. -/
import Derived.Test.YthkimgfgpphgnaaEng1
namespace Go.Eng
open Go.RowKit

/-- A slot whose value depends on the order (an address), or a block that is stored into: the value and its blocks, before and behind the store. -/
structure Un where
  slot : Nat
  deps : List Nat
  R : Env → Value → List Blk → Prop
  deps' : List Nat
  R' : Env → Value → List Blk → Prop
/-- What is said leans on the named slots alone. -/
def Cong (deps : List Nat) (R : Env → Value → List Blk → Prop) : Prop := ∀ e e' : Env, (∀ t ∈ deps, e t = e' t) → ∀ v Hn, R e v Hn → R e' v Hn

inductive Sp where
  | det (c : Value)
  | skip
  | new (deps : List Nat) (R : Env → Value → List Blk → Prop) (deps' : List Nat) (R' : Env → Value → List Blk → Prop)
  | st (d : Nat)

def nextE (o : Oper) (sp : Sp) (e : Env) : Env :=
  match sp with
  | .det c => updo e o.dst c
  | .skip => updo e o.dst undef
  | _ => e
def nextU (o : Oper) (sp : Sp) (us : List Un) : List Un :=
  match sp, o.dst with
  | .new deps R deps' R', some d => ⟨d, deps, R, deps', R'⟩ :: us
  | _, _ => us

/-- For every choice of the open values that the operation looks at, and of those that these lean on. -/
def Over (ts : List Nat) (K : Env → List Blk → Prop) : List Un → Env → List Blk → Prop
  | [], e, H => K e H
  | u :: us, e, H => (u.slot ∈ ts → Over (ts ++ u.deps) (fun e H => ∀ v Hn, u.R e v Hn → K (upd e u.slot v) (Hn ++ H)) us e H) ∧ (u.slot ∉ ts → Over ts K us e H)
def OverAll (K : Env → List Blk → Prop) (G : Env → Prop) : List Un → Env → List Blk → Prop
  | [], e, H => G e → K e H
  | u :: us, e, H => ∀ v Hn, OverAll K (fun e' => G e' ∧ u.R' e' v Hn) us (upd e u.slot v) (Hn ++ H)

/-- Blocks hold something else; all other memory is as it was. -/
structure Swap (Hn Hn' : List Blk) (w w' : World) : Prop where
  names : Hn'.map Prod.fst = Hn.map Prod.fst
  os : w'.os = w.os
  tape : w'.tape = w.tape
  output : w'.output = w.output
  size : w'.heap.size = w.heap.size
  other : ∀ k, k ∉ Hn.map Prod.fst → w'.heap[k]? = w.heap[k]?
  mem : ∀ x ∈ Hn', w'.heap[x.1]? = some x.2
  kind : ∀ x ∈ Hn', x.2 ≠ .deferred (some [])

def StoreOk (C : Ctx) (o : Oper) (e : Env) (H : List Blk) (u : Un) : Prop :=
  ∀ v Hn, u.R e v Hn → ∀ w, St C (Hn ++ H) w → ∃ w' Hn', (execOp (ev (upd e u.slot v)) o).run C.P w = .ok .skip w' ∧ Swap Hn Hn' w w' ∧ u.R' e v Hn'

def gLooks (all : Array Oper) (o : Oper) : List Nat :=
  match o.guard with
  | some (g, _) => ((all[g]?).bind (·.dst)).toList
  | none => []

def Ob (C : Ctx) (all : Array Oper) (S : List Nat) (o : Oper) (sp : Sp) (us : List Un) (e : Env) (H : List Blk) : Prop :=
  match sp with
  | .det c => gdOf all e o = some true ∧ (∀ u ∈ us, u.slot ∉ gLooks all o) ∧ (∀ u ∈ us, u.slot ∈ o.looksAt all → u.slot ∉ S) ∧ Over (o.looksAt all) (fun e H => YR C o e H fun v _ => v = c) us e H
  | .skip => gdOf all e o = some false ∧ (∀ u ∈ us, u.slot ∉ gLooks all o)
  | .new deps R deps' R' => gdOf all e o = some true ∧ (∀ u ∈ us, u.slot ∉ gLooks all o) ∧ (∀ u ∈ us, u.slot ∈ o.looksAt all → u.slot ∉ S) ∧ (∃ d, o.dst = some d ∧ (d ∉ S → R' = R ∧ deps' = deps)) ∧
      Over (o.looksAt all) (fun e H => YR C o e H (R e)) us e H ∧ (∀ t ∈ deps, t ∈ o.looksAt all ∧ ∃ u ∈ us, u.slot = t) ∧ Cong deps R ∧ Cong deps' R'
  | .st d => o.dst = none ∧ o.guard = none ∧ (d ∈ S ∧ ((o.looksAt all).contains d || all.all fun o' => o'.dst != some d) = true) ∧ (∃ u ∈ us, u.slot = d ∧ u.deps = [] ∧ (∀ t ∈ u.deps', t ∈ o.looksAt all ∧ t ≠ d ∧ ∃ u' ∈ us, u'.slot = t) ∧ Over (o.looksAt all) (fun e H => StoreOk C o e H u) (us.filter fun x => x.slot != d) e H) ∧
      (∀ u ∈ us, u.slot ≠ d → u.slot ∈ o.looksAt all → u.slot ∉ S)

def PW (C : Ctx) (all : Array Oper) (S : List Nat) (K : List Un → Env → Prop) (H : List Blk) : List Oper → List Nat → List Un → Env → Prop
  | [], done, us, e => (∀ d ∈ S, d ∈ done) ∧ K us e
  | o :: rest, done, us, e => ∃ sp, Ob C all S o sp us e H ∧ (∀ d, sp = .st d → d ∉ done) ∧ PW C all S K H rest (match sp with | .st d => d :: done | _ => done) (nextU o sp us) (nextE o sp e)

/-- The edges between operations that touch one slot. -/
def edge (all : Array Oper) (i j : Nat) : Bool := ((all[i]?).map fun o => o.after.any fun e => e.on == j && Region.binds .any e).getD false
def pairOk (all : Array Oper) (us : List Nat) (i j : Nat) : Bool :=
  match all[i]?, all[j]? with
  | some oi, some oj =>
    match oj.dst with
    | none => true
    | some d => !us.contains d && (if i = j then !(oi.looksAt all).contains d else (oi.dst != some d && (!(oi.looksAt all).contains d || (if j < i then edge all i j else edge all j i))))
  | _, _ => true
def phased (all : Array Oper) (us : List Nat) : Bool :=
  ((List.range all.size).all fun i => (List.range all.size).all fun j => pairOk all us i j) &&
  ((List.range all.size).all fun i => (all[i]?.map fun o => o.after.all fun e => !Region.binds .any e || Nat.blt e.on i).getD true) &&
  all.all fun o => us.all (fun d => !(o.looksAt all).contains d) && (match o.op with | .select .. => false | .defer _ => false | _ => true)

def EAt (ops : List Oper) (sps : List Sp) (e0 : Env) : Nat → Env
  | 0 => e0
  | i + 1 => match ops[i]?, sps[i]? with
    | some o, some sp => nextE o sp (EAt ops sps e0 i)
    | _, _ => EAt ops sps e0 i
def UAt (ops : List Oper) (sps : List Sp) (us0 : List Un) : Nat → List Un
  | 0 => us0
  | i + 1 => match ops[i]?, sps[i]? with
    | some o, some sp => nextU o sp (UAt ops sps us0 i)
    | _, _ => UAt ops sps us0 i

theorem EAt_cons (o : Oper) (ops : List Oper) (sp : Sp) (sps : List Sp) (e0 : Env) : ∀ i, EAt (o :: ops) (sp :: sps) e0 (i + 1) = EAt ops sps (nextE o sp e0) i
  | 0 => rfl
  | i + 1 => by
    have ih := EAt_cons o ops sp sps e0 i
    show (match (o :: ops)[i + 1]?, (sp :: sps)[i + 1]? with | some o', some sp' => nextE o' sp' (EAt (o :: ops) (sp :: sps) e0 (i + 1)) | _, _ => EAt (o :: ops) (sp :: sps) e0 (i + 1)) = _
    rw [ih]; simp only [List.getElem?_cons_succ]; rfl
theorem UAt_cons (o : Oper) (ops : List Oper) (sp : Sp) (sps : List Sp) (u0 : List Un) : ∀ i, UAt (o :: ops) (sp :: sps) u0 (i + 1) = UAt ops sps (nextU o sp u0) i
  | 0 => rfl
  | i + 1 => by
    have ih := UAt_cons o ops sp sps u0 i
    show (match (o :: ops)[i + 1]?, (sp :: sps)[i + 1]? with | some o', some sp' => nextU o' sp' (UAt (o :: ops) (sp :: sps) u0 (i + 1)) | _, _ => UAt (o :: ops) (sp :: sps) u0 (i + 1)) = _
    rw [ih]; simp only [List.getElem?_cons_succ]; rfl

/-- The walk's facts, operation by operation. -/
theorem PW_specs {C : Ctx} {all : Array Oper} {S : List Nat} {K : List Un → Env → Prop} {H : List Blk} : ∀ {l : List Oper} {done : List Nat} {us : List Un} {e : Env}, PW C all S K H l done us e →
    ∃ sps : List Sp, sps.length = l.length ∧ (∀ i o sp, l[i]? = some o → sps[i]? = some sp → Ob C all S o sp (UAt l sps us i) (EAt l sps e i) H) ∧
      (∀ (i j d : Nat), sps[i]? = some (Sp.st d) → sps[j]? = some (Sp.st d) → i = j) ∧ (∀ (i d : Nat), sps[i]? = some (Sp.st d) → d ∉ done) ∧
      (∀ d ∈ S, d ∈ done ∨ ∃ i : Nat, sps[i]? = some (Sp.st d)) ∧ K (UAt l sps us l.length) (EAt l sps e l.length)
  | [], done, us, e, h => ⟨[], rfl, fun i o sp h => by simp at h, fun i j d h => by simp at h, fun i d h => by simp at h, fun d hd => Or.inl (h.1 d hd), h.2⟩
  | o :: rest, done, us, e, h => by
    obtain ⟨sp, hob, hdone, hrest⟩ := h
    obtain ⟨sps, h1, h2, h3, h4, h5, h6⟩ := PW_specs hrest
    refine ⟨sp :: sps, by simp [h1], ?_, ?_, ?_, ?_, ?_⟩
    · intro i o' sp' ho hs
      cases i with
      | zero =>
        simp only [List.getElem?_cons_zero, Option.some.injEq] at ho hs
        subst ho; subst hs
        exact hob
      | succ i =>
        simp only [List.getElem?_cons_succ] at ho hs
        rw [EAt_cons, UAt_cons]
        exact h2 i o' sp' ho hs
    · have key : ∀ (j d : Nat), (sp :: sps)[0]? = some (Sp.st d) → sps[j]? = some (Sp.st d) → False := fun j d a b => by
        simp only [List.getElem?_cons_zero, Option.some.injEq] at a
        subst a
        exact h4 j d b (List.mem_cons_self ..)
      intro i j d hi hj
      cases i with
      | zero =>
        cases j with
        | zero => rfl
        | succ j => exact (key j d hi (by simpa using hj)).elim
      | succ i =>
        cases j with
        | zero => exact (key i d hj (by simpa using hi)).elim
        | succ j => rw [h3 i j d (by simpa using hi) (by simpa using hj)]
    · intro i d hi
      cases i with
      | zero =>
        simp only [List.getElem?_cons_zero, Option.some.injEq] at hi
        exact hdone d hi
      | succ i =>
        have := h4 i d (by simpa using hi)
        intro hd
        apply this
        cases sp <;> first | exact hd | exact List.mem_cons_of_mem _ hd
    · intro d hd
      rcases h5 d hd with h | ⟨i, hi⟩
      · cases sp with
        | st d' =>
          rcases List.mem_cons.1 h with rfl | h
          · exact .inr ⟨0, by simp⟩
          · exact .inl h
        | _ => exact .inl h
      · exact .inr ⟨i + 1, by simpa using hi⟩
    · rw [List.length_cons, EAt_cons, UAt_cons]; exact h6
end Go.Eng
