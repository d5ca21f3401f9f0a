/- The rules as the walks use them. No project text. -/
import Derived.Test.YthkimgfgpphgnaaEng7
namespace Go.Eng
open Go.RowKit

def chk (n : Nat) (all : Array Oper) (e : Env) (o : Oper) : Bool := noDefer o && (match gdOf all e o with | some b => b | none => false) && gOk n all o && dOk n o.dst
def chkS (n : Nat) (all : Array Oper) (e : Env) (o : Oper) : Bool := (match gdOf all e o with | some b => !b | none => false) && gOk n all o && dOk n o.dst
theorem chk_spec {n : Nat} {all : Array Oper} {e : Env} {o : Oper} (h : chk n all e o = true) : noDefer o = true ∧ gdOf all e o = some true ∧ gOk n all o = true ∧ dOk n o.dst = true := by
  unfold chk at h
  simp only [Bool.and_eq_true] at h
  obtain ⟨⟨⟨h1, h2⟩, h3⟩, h4⟩ := h
  refine ⟨h1, ?_, h3, h4⟩
  cases hg : gdOf all e o with
  | none => rw [hg] at h2; cases h2
  | some b => rw [hg] at h2; simp only at h2; rw [h2]
theorem chkS_spec {n : Nat} {all : Array Oper} {e : Env} {o : Oper} (h : chkS n all e o = true) : gdOf all e o = some false ∧ gOk n all o = true ∧ dOk n o.dst = true := by
  unfold chkS at h
  simp only [Bool.and_eq_true] at h
  obtain ⟨⟨h2, h3⟩, h4⟩ := h
  refine ⟨?_, h3, h4⟩
  cases hg : gdOf all e o with
  | none => rw [hg] at h2; cases h2
  | some b => rw [hg] at h2; simp only [Bool.not_eq_true'] at h2; rw [h2]

section
variable {C : Ctx} {F : Fence} {n : Nat} {ds : List Deferred} {all : Array Oper} {Q : Exit → Env → List Blk → Prop} {rest : List Oper} {e : Env} {H : List Blk} {o : Oper}
variable {d : Option Tmp} {ty : TypeId} {pos : String} {af : Array Edge} {g : Option (Nat × Bool)}

theorem WS_gen (hF : Wide F) (hc : chk n all e o = true) {R : Value → List Blk → Prop} (hy : YR C o e H R) (hk : ∀ v Hn, R v Hn → WS C F n ds all Q rest (updo e o.dst v) (Hn ++ H)) : WS C F n ds all Q (o :: rest) e H :=
  let h := chk_spec hc
  WS_step hF h.1 h.2.1 h.2.2.1 h.2.2.2 hy hk
theorem WS_det (hF : Wide F) {c : Value} (hc : chk n all e o = true) (hy : YD C o e H c) (hk : WS C F n ds all Q rest (updo e o.dst c) H) : WS C F n ds all Q (o :: rest) e H :=
  WS_gen hF hc hy fun v Hn h => by subst h; exact WS_weak (List.sublist_append_right _ _) hk
theorem WS_new (hF : Wide F) {ob : Obj} (hc : chk n all e o = true) (hy : YR C o e H (NewPtr ob)) (hk : ∀ b, WS C F n ds all Q rest (updo e o.dst (.pointer (some ⟨b, 0, none⟩))) ((b, ob) :: H)) : WS C F n ds all Q (o :: rest) e H :=
  WS_gen hF hc hy fun v Hn h => by obtain ⟨b, rfl, rfl⟩ := h; exact hk b
theorem WS_newS (hF : Wide F) {ob : Obj} {m : Nat} (hc : chk n all e o = true) (hy : YR C o e H (NewSlice ob m)) (hk : ∀ b, WS C F n ds all Q rest (updo e o.dst (.slice (some ⟨b, 0, none⟩) m m)) ((b, ob) :: H)) :
    WS C F n ds all Q (o :: rest) e H :=
  WS_gen hF hc hy fun v Hn h => by obtain ⟨b, rfl, rfl⟩ := h; exact hk b
theorem WS_no (hF : Wide F) (hc : chkS n all e o = true) (hk : WS C F n ds all Q rest (updo e o.dst undef) H) : WS C F n ds all Q (o :: rest) e H :=
  let h := chkS_spec hc
  WS_skip hF h.1 h.2.1 h.2.2 hk

/-! Calls, builds: over lists -/
theorem y_callL {x : Operand} {args : List Operand} {ats : Array TypeId} {f : FuncId} {first captured vs : List Value} {R : Value → List Blk → Prop} (hx : ev e x = .func (.func f) first.toArray captured.toArray)
    (ha : first ++ (args.map (ev e) ++ captured) = vs) (hc : ∀ args w, (callFunc f args).run C.P w = .ok (.enter f args) w) (hR : ∀ w, St C H w → Ct C.P f vs.toArray w R) :
    YR C ⟨d, .call ⟨.value x, args.toArray, ats⟩, ty, pos, af, g⟩ e H R :=
  y_call (vs := vs.toArray) hx (by subst ha; simp) hc hR
theorem y_buildL {T : TypeId} {parts : List (Nat × Operand)} {ps : List (Nat × Value)} {c : Value} (hb : ∀ w, (Instr.build T ps.toArray).run C.P w = .ok c w) (hp : parts.map (fun x => (x.1, ev e x.2)) = ps) :
    YD C ⟨d, .build T parts.toArray, ty, pos, af, g⟩ e H c := y_build (ps := ps.toArray) (by subst hp; simp) hb
theorem y_buildSliceL {T E : TypeId} {n : Nat} {parts : List (Nat × Operand)} {ps : List (Nat × Value)} {vs : List Value}
    (hb : ∀ w, (Instr.buildSlice T n ps.toArray).run C.P w = .ok (.slice (some ⟨w.heap.size, 0, none⟩) n n) (w.alloc (CB vs E))) (hp : parts.map (fun x => (x.1, ev e x.2)) = ps) :
    YR C ⟨d, .buildSlice T n parts.toArray, ty, pos, af, g⟩ e H (NewSlice (CB vs E) n) := y_buildSlice (ps := ps.toArray) (by subst hp; simp) hb
theorem y_makeFuncL {fn : Go.Fn} {first captured : List Operand} {a b : List Value} (ha : first.map (ev e) = a) (hb : captured.map (ev e) = b) : YD C ⟨d, .makeFunc fn first.toArray captured.toArray, ty, pos, af, g⟩ e H (.func fn a.toArray b.toArray) :=
  y_makeFunc (by subst ha; simp) (by subst hb; simp)

/-- What is known of an operation's value, said of the value alone. -/
theorem YD_of {c : Value} {R : Value → List Blk → Prop} (h : YR C o e H R) (hr : ∀ v Hn, R v Hn → v = c) : YD C o e H c := h.mono hr

def chkP (all : Array Oper) (S : List Nat) (us : List Un) (e : Env) (o : Oper) : Bool := (match gdOf all e o with | some b => b | none => false) && gFree all o us && sFree all S o us
def chkPS (all : Array Oper) (us : List Un) (e : Env) (o : Oper) : Bool := (match gdOf all e o with | some b => !b | none => false) && gFree all o us
variable {S : List Nat} {KK : List Un → Env → Prop} {done : List Nat} {us : List Un}
theorem chkP_spec (h : chkP all S us e o = true) : gdOf all e o = some true ∧ gFree all o us = true ∧ sFree all S o us = true := by
  unfold chkP at h
  simp only [Bool.and_eq_true] at h
  obtain ⟨⟨h2, h3⟩, h4⟩ := h
  refine ⟨?_, h3, h4⟩
  cases hg : gdOf all e o with
  | none => rw [hg] at h2; cases h2
  | some b => rw [hg] at h2; simp only at h2; rw [h2]
theorem P_det {c : Value} (hc : chkP all S us e o = true) (hy : Over (o.looksAt all) (fun e H => YD C o e H c) us e H) (k : PW C all S KK H rest done us (updo e o.dst c)) : PW C all S KK H (o :: rest) done us e :=
  let h := chkP_spec hc
  PW_det c h.1 h.2.1 h.2.2 hy k
theorem P_no (hc : chkPS all us e o = true) (k : PW C all S KK H rest done us (updo e o.dst undef)) : PW C all S KK H (o :: rest) done us e := by
  unfold chkPS at hc
  simp only [Bool.and_eq_true] at hc
  refine PW_skip ?_ hc.2 k
  have h2 := hc.1
  cases hg : gdOf all e o with
  | none => rw [hg] at h2; cases h2
  | some b => rw [hg] at h2; simp only [Bool.not_eq_true'] at h2; rw [h2]
theorem P_new {R : Value → List Blk → Prop} {d : Nat} (hc : chkP all S us e o = true) (hd : o.dst = some d) (hy : Over (o.looksAt all) (fun e H => YR C o e H R) us e H)
    (k : PW C all S KK H rest done (⟨d, [], fun _ => R, [], fun _ => R⟩ :: us) e) : PW C all S KK H (o :: rest) done us e :=
  let h := chkP_spec hc
  PW_new [] (fun _ => R) h.1 h.2.1 h.2.2 hd rfl Cong0 hy k
def YD0 (C : Ctx) (o : Oper) (e : Env) (H : List Blk) (c : Value) : Prop := YR C o e H fun v Hn => v = c ∧ Hn = []
theorem YD0_of {c : Value} (h : YD C o e H c) : YD0 C o e H c := fun w hw => by
  have := h w hw
  generalize (execOp (ev e) o).run C.P w = r at *
  have out : ∀ {v w w'}, Out (fun v _ => v = c) v w w' → Out (fun v Hn => v = c ∧ Hn = []) v w w' := fun ⟨Hn, h1, h2, h3⟩ => ⟨[], h1, HOk.nil _ _, h3, rfl⟩
  cases r with
  | ok x w' =>
    cases x with
    | value v => exact out this
    | skip => exact out this
    | enter f args => exact ⟨this.1, Calls.mono this.2 fun _ _ ⟨v, he, ho⟩ => ⟨v, he, out ho⟩⟩
    | _ => exact this
  | _ => exact this
/-- A value made of open ones. -/
def alR (f : Env → Value) : Env → Value → List Blk → Prop := fun e v Hn => v = f e ∧ Hn = []
theorem P_ali (deps : List Nat) (f : Env → Value) {d : Nat} (hc : chkP all S us e o = true) (hd : o.dst = some d) (hdep : depB all o us deps = true) (hf : ∀ e e' : Env, (∀ t ∈ deps, e t = e' t) → f e = f e')
    (hy : Over (o.looksAt all) (fun e H => YD0 C o e H (f e)) us e H)
    (k : PW C all S KK H rest done (⟨d, deps, alR f, deps, alR f⟩ :: us) e) : PW C all S KK H (o :: rest) done us e :=
  let h := chkP_spec hc
  PW_new deps (alR f) h.1 h.2.1 h.2.2 hd hdep (fun e e' he v Hn hh => ⟨hh.1.trans (hf e e' he), hh.2⟩) hy k
/-- A struct made of open values and of known ones. -/
def partV (e : Env) : Value ⊕ Nat → Value
  | .inl c => c
  | .inr t => e t
def aggP (ps : List (Value ⊕ Nat)) (e : Env) : Value := .agg (ps.map (partV e)).toArray
def partIn (deps : List Nat) : Value ⊕ Nat → Bool
  | .inl _ => true
  | .inr t => deps.contains t
theorem aggP_congr {deps : List Nat} {ps : List (Value ⊕ Nat)} (h : ps.all (partIn deps) = true) : ∀ e e' : Env, (∀ t ∈ deps, e t = e' t) → aggP ps e = aggP ps e' := fun e e' he => by
  unfold aggP
  congr 2
  refine List.map_congr_left fun x hx => ?_
  have := List.all_eq_true.1 h x hx
  cases x with
  | inl c => rfl
  | inr t => exact he t (List.contains_iff_mem.1 this)
theorem P_newS {R : Value → List Blk → Prop} (R' : Value → List Blk → Prop) {d : Nat} (hc : chkP all S us e o = true) (hd : o.dst = some d) (hdS : S.contains d = true) (hy : Over (o.looksAt all) (fun e H => YR C o e H R) us e H)
    (k : PW C all S KK H rest done (⟨d, [], fun _ => R, [], fun _ => R'⟩ :: us) e) : PW C all S KK H (o :: rest) done us e :=
  let h := chkP_spec hc
  PW_newS R [] (fun _ => R') h.1 h.2.1 h.2.2 hd hdS Cong0 hy k
theorem P_newSD (t : Nat) {vs : List Value} {Tb : TypeId} {d : Nat} (hc : chkP all S us e o = true) (hd : o.dst = some d) (hdS : S.contains d = true) (hy : Over (o.looksAt all) (fun e H => YR C o e H (NewPtr (CB vs Tb))) us e H)
    (k : PW C all S KK H rest done (⟨d, [], fun _ => NewPtr (CB vs Tb), [t], stN t vs Tb⟩ :: us) e) : PW C all S KK H (o :: rest) done us e :=
  let h := chkP_spec hc
  PW_newS _ [t] (stN t vs Tb) h.1 h.2.1 h.2.2 hd hdS stN_cong hy k
/-- A slot's Bool, both ways, in a region whose order is open. -/
theorem P_split (s : Nat) {b : Bool} (hb : e s = .bool b) (ht : b = true → PW C all S KK H rest done us (upd e s (.bool true))) (hf : b = false → PW C all S KK H rest done us (upd e s (.bool false))) :
    PW C all S KK H rest done us e := by
  cases b with
  | true => have := ht rfl; rw [← hb, upd_eta] at this; exact this
  | false => have := hf rfl; rw [← hb, upd_eta] at this; exact this

def stOkB (all : Array Oper) (S : List Nat) (us : List Un) (done : List Nat) (o : Oper) (d : Nat) : Bool :=
  (match o.dst with | none => true | some _ => false) && (match o.guard with | none => true | some _ => false) && S.contains d && ((o.looksAt all).contains d || all.toList.all fun o' => match o'.dst with | some d' => !Nat.beq d' d | none => true) &&
  (us.all fun u => u.slot == d || !((o.looksAt all).contains u.slot && S.contains u.slot)) && !done.contains d
theorem P_st (d : Nat) (i : Nat) {u : Un} (hc : stOkB all S us done o d = true) (hi : us[i]? = some u) (hus : u.slot = d) (hu0 : u.deps = []) (hdep : sdepB all o us d u.deps' = true)
    (hst : Over (o.looksAt all) (fun e H => StoreOk C o e H u) (dropU d us) e H) (k : PW C all S KK H rest (d :: done) us e) :
    PW C all S KK H (o :: rest) done us e := by
  unfold stOkB at hc
  simp only [Bool.and_eq_true, Bool.not_eq_true'] at hc
  obtain ⟨⟨⟨⟨⟨h1, h2⟩, h3⟩, h4⟩, h5⟩, h6⟩ := hc
  have h4' : ((o.looksAt all).contains d || all.all fun o' => o'.dst != some d) = true := by
    simp only [Bool.or_eq_true] at h4 ⊢
    rcases h4 with h4 | h4
    · exact .inl h4
    · refine .inr ?_
      rw [Array.all_eq_true]
      intro j hj
      have := List.all_eq_true.1 h4 all[j] (by simp)
      cases hd : all[j].dst with
      | none => rfl
      | some d' =>
        rw [hd] at this
        simp only [Bool.not_eq_true'] at this
        simp only [bne_iff_ne, ne_eq, Option.some.injEq]
        intro he
        subst he
        simp at this
  refine PW_st d i ?_ ?_ h3 h4' hi hus hu0 hdep hst h5 h6 k
  · cases hd : o.dst with
    | none => rfl
    | some _ => rw [hd] at h1; cases h1
  · cases hd : o.guard with
    | none => rfl
    | some _ => rw [hd] at h2; cases h2

theorem W_drawL {id : Nat} {l : List Oper} {H0 : List Blk} (hF : Wide F) (hm : C.P.follows .mixedOrders = true) (pres : List Pre) (S : List Nat)
    (hH : HSub H (pres.map (fun p => (p.b, p.o)) ++ H0))
    (hph : (phased l.toArray (pres.map (·.slot)) && (l.all fun o => dOk n o.dst && gOk n l.toArray o) && (pres.all fun p => S.contains p.slot)) = true) (hnd : (pres.map (·.slot)).Nodup)
    (hp : ∀ ds, PW (C.at ds) l.toArray S (fun us e => OverAll (fun e H => Q .normal e H) (fun _ => True) us e H0) H0 l [] (pres.map Pre.un) e) : W C F n ds (.region id l.toArray true) Q e H := by
  simp only [Bool.and_eq_true] at hph
  exact W_draw hF hm pres S hH hph.1.1 (by simpa using hph.1.2) hph.2 hnd (fun ds => by simpa using hp ds)

theorem Ct_start {P : Program} {f : FuncId} {args : List Value} {w : World} {fn : Func} {c : Code} {k : Nat} {R : Value → List Blk → Prop} (hf : P.funcs[f]? = some fn) (hb : fn.body = some c) (hn : fn.ntmps = k) (hl : Nat.ble args.length k = true)
    (h : W ⟨P, w, [], []⟩ Fence.wide k [] c (Fin ⟨P, w, [], []⟩ fn R) (start args) []) : Ct P f args.toArray w R := by
  subst hn
  exact Ct_of_W hf hb hl h
theorem Fin_ret {fn : Func} {rs : List ResultVar} {R : Value → List Blk → Prop} (vs : List Value) (Hn : List Blk) (hr : fn.results = rs.toArray) (h1 : RVs C e H rs vs) (h2 : HSub H Hn) (h3 : R (tupOf vs) Hn) : Fin C fn R .ret e H :=
  ⟨vs, Hn, by rw [hr]; exact h1, h2, h3⟩

theorem Then_normal {K : Env → List Blk → Prop} (h : K e H) : Then K Q .normal e H := h
theorem Then_exit {K : Env → List Blk → Prop} {i : Nat} (h : Q (.exit i) e H) : Then K Q (.exit i) e H := h
theorem Then_ret {K : Env → List Blk → Prop} (h : Q .ret e H) : Then K Q .ret e H := h
theorem InB_normal {i : Nat} (h : Q .normal e H) : InB i Q .normal e H := h
theorem InB_ret {i : Nat} (h : Q .ret e H) : InB i Q .ret e H := h
theorem InB_same {i : Nat} (h : Q .normal e H) : InB i Q (.exit i) e H := by simp only [InB, if_true]; exact h
theorem InB_other {i j : Nat} (hij : Nat.beq i j = false) (h : Q (.exit i) e H) : InB j Q (.exit i) e H := by
  simp only [InB]
  rw [if_neg fun he => by subst he; simp at hij]; exact h
section
variable {γ : Type} {I : γ → Prop} {L : γ → List (Nat × Value)} {B : γ → List Blk} {μ : γ → Nat} {m : Nat}
theorem Loop_ret (h : Q .ret e H) : LoopPost I L B μ m Q .ret e H := h
theorem Loop_exit {i : Nat} (h : Q (.exit i) e H) : LoopPost I L B μ m Q (.exit i) e H := h
theorem Loop_next (g : γ) (hI : I g) (hL : Slots e (L g)) (hB : (B g).Sublist H) (hm : μ g < m) : LoopPost I L B μ m Q .normal e H := ⟨g, hI, hL, hB, hm⟩
end

theorem At.get {w : World} {b : Nat} : ∀ {vs : List Value} {o : Nat}, At w b o vs → ∀ (j : Nat) (v : Value), vs[j]? = some v → w.cell? ⟨b, o + j, none⟩ = some v
  | [], _, _, j, v, h => by simp at h
  | u :: vs, o, h, 0, v, hv => by
    simp only [List.getElem?_cons_zero, Option.some.injEq] at hv
    subst hv; exact h.1
  | u :: vs, o, h, j + 1, v, hv => by
    have := At.get h.2 j v (by simpa using hv)
    rwa [show o + 1 + j = o + (j + 1) by omega] at this
theorem At.of {w : World} {b : Nat} : ∀ {vs : List Value} {o : Nat}, (∀ (j : Nat) (v : Value), vs[j]? = some v → w.cell? ⟨b, o + j, none⟩ = some v) → At w b o vs
  | [], _, _ => trivial
  | u :: vs, o, h => ⟨h 0 u (by simp), At.of fun j v hv => by
    have := h (j + 1) v (by simpa using hv)
    rwa [show o + (j + 1) = o + 1 + j by omega] at this⟩
theorem At.sub {w : World} {b o k : Nat} {vs us rest : List Value} (h : At w b o vs) (hd : vs.drop k = us ++ rest) : At w b (o + k) us := At.of fun j v hv => by
  have hj : vs[k + j]? = some v := by
    rw [← List.getElem?_drop, hd, List.getElem?_append_left (List.getElem?_eq_some_iff.1 hv).1]; exact hv
  have := h.get (k + j) v hj
  rwa [← Nat.add_assoc] at this
theorem Mem.oldAt {b o k : Nat} {vs us rest : List Value} (h : At C.w0 b o vs) (hd : vs.drop k = us ++ rest) : Mem C H b (o + k) us := Mem.old (h.sub hd)
theorem Mem.oldAt1 {b o k : Nat} {vs : List Value} {u : Value} (h : At C.w0 b o vs) (hd : vs[k]? = some u) : Mem C H b (o + k) [u] := Mem.old (h.sub (rest := vs.drop (k + 1)) (by
  have hlt : k < vs.length := (List.getElem?_eq_some_iff.1 hd).1
  rw [List.drop_eq_getElem_cons hlt, (List.getElem?_eq_some_iff.1 hd).2]; rfl))

/-- One block of the call's own is stored into. -/
theorem W_draw1P {id : Nat} {l : List Oper} (hF : Wide F) (hm : C.P.follows .mixedOrders = true) (S : List Nat) {i : Nat} (p : Pre) (hps : p.slot = 1000000) (hi : H[i]? = some (p.b, p.o))
    (hph : (phased l.toArray [1000000] && (l.all fun o => dOk n o.dst && gOk n l.toArray o) && S.contains 1000000) = true)
    (hp : ∀ ds, PW (C.at ds) l.toArray S (fun us e => OverAll (fun e H => Q .normal e H) (fun _ => True) us e (H.eraseIdx i)) (H.eraseIdx i) l [] [Pre.un p] e) : W C F n ds (.region id l.toArray true) Q e H :=
  W_drawL (H0 := H.eraseIdx i) hF hm [p] S (fun _ _ h => h.perm (perm_erase hi).symm) (by simpa [hps] using hph) (by simp) hp
theorem W_draw1 {id : Nat} {l : List Oper} (hF : Wide F) (hm : C.P.follows .mixedOrders = true) (S : List Nat) {i b : Nat} {ob : Obj} {R' : Value → List Blk → Prop} (hi : H[i]? = some (b, ob))
    (hph : (phased l.toArray [1000000] && (l.all fun o => dOk n o.dst && gOk n l.toArray o) && S.contains 1000000) = true)
    (hp : ∀ ds, PW (C.at ds) l.toArray S (fun us e => OverAll (fun e H => Q .normal e H) (fun _ => True) us e (H.eraseIdx i)) (H.eraseIdx i) l [] [Pre.un (Pre.con 1000000 b ob R')] e) : W C F n ds (.region id l.toArray true) Q e H :=
  W_draw1P hF hm S (Pre.con 1000000 b ob R') rfl hi hph hp
theorem W_draw1D {id : Nat} {l : List Oper} (hF : Wide F) (hm : C.P.follows .mixedOrders = true) (S : List Nat) (t off : Nat) {i b : Nat} {vs : List Value} {Tb : TypeId} (hi : H[i]? = some (b, CB vs Tb))
    (hph : (phased l.toArray [1000000] && (l.all fun o => dOk n o.dst && gOk n l.toArray o) && S.contains 1000000) = true)
    (hp : ∀ ds, PW (C.at ds) l.toArray S (fun us e => OverAll (fun e H => Q .normal e H) (fun _ => True) us e (H.eraseIdx i)) (H.eraseIdx i) l [] [Pre.un (Pre.dep 1000000 b off t vs Tb)] e) : W C F n ds (.region id l.toArray true) Q e H :=
  W_draw1P hF hm S (Pre.dep 1000000 b off t vs Tb) rfl hi hph hp
theorem W_draw0 {id : Nat} {l : List Oper} (hF : Wide F) (hm : C.P.follows .mixedOrders = true) (S : List Nat)
    (hph : (phased l.toArray [] && (l.all fun o => dOk n o.dst && gOk n l.toArray o)) = true)
    (hp : ∀ ds, PW (C.at ds) l.toArray S (fun us e => OverAll (fun e H => Q .normal e H) (fun _ => True) us e H) H l [] [] e) : W C F n ds (.region id l.toArray true) Q e H :=
  W_drawL (H0 := H) hF hm [] S HSub.refl (by simpa using hph) (by simp) hp

/-! Slicing a slice -/
def shiftA (a : Option Addr) (l sz cap : Nat) : Option Addr := if cap = l then a else a.map (·.add (l * sz))
theorem y_slice_lo {x lo : Operand} {T E : TypeId} {a : Option Addr} {len cap l sz : Nat} {n : Int} {kk : IntKind} (hx : ev e x = .slice a len cap) (hlo : ev e lo = .int kk n) (hn : n = (l : Int)) (hl : l ≤ len)
    (hT : ∀ w, (underlying T).run C.P w = .ok (.slice E) w) (hE : ∀ w, (sizeOf E).run C.P w = .ok sz w) :
    YD C ⟨d, .slice T x (some lo) none none, ty, pos, af, g⟩ e H (.slice (shiftA a l sz cap) (len - l) (cap - l)) := yd_of fun w _ => by
  subst hn
  simp [execOp, hx, hlo, Instr.sliceAt, Instr.slice, Instr.sliceBounds, Instr.sliceBound, asIntOf, hT, hE, shiftA, hl]
theorem y_slice_hi {x hi : Operand} {T E : TypeId} {a : Option Addr} {len cap h sz : Nat} {n : Int} {kk : IntKind} (hx : ev e x = .slice a len cap) (hhi : ev e hi = .int kk n) (hn : n = (h : Int)) (hh : h ≤ cap)
    (hT : ∀ w, (underlying T).run C.P w = .ok (.slice E) w) (hE : ∀ w, (sizeOf E).run C.P w = .ok sz w) :
    YD C ⟨d, .slice T x none (some hi) none, ty, pos, af, g⟩ e H (.slice (shiftA a 0 sz cap) h cap) := yd_of fun w _ => by
  subst hn
  simp [execOp, hx, hhi, Instr.sliceAt, Instr.slice, Instr.sliceBounds, Instr.sliceBound, asIntOf, hT, hE, shiftA, hh]
/-- bits -/
theorem y_conv_iu {x : Operand} {T T' : TypeId} {m : Int} {k k' : IntKind} (hx : ev e x = .int k m) (hT : ∀ w, (underlying T).run C.P w = .ok (.int k) w) (hT' : ∀ w, (underlying T').run C.P w = .ok (.int k') w) (hr : k'.wrap m = m) :
    YD C ⟨d, .convert T T' x, ty, pos, af, g⟩ e H (.int k' m) := yd_of fun w _ => by
  simp [execOp, hx, convert, hT, hT', Conv.intToInt, hr]
end
end Go.Eng
