/- Stores, results, a function's entry, and the walk of a region whose order is open. No project text. -/
import Derived.Test.YthkimgfgpphgnaaEng6
namespace Go.Eng
open Go.RowKit

def splice (vs : List Value) (o : Nat) (us : List Value) : List Value := vs.take o ++ us ++ vs.drop (o + us.length)
theorem length_splice {vs us : List Value} {o : Nat} (h : o + us.length ≤ vs.length) : (splice vs o us).length = vs.length := by
  simp [splice]; omega

section
variable {C : Ctx} {F : Fence} {n : Nat} {ds : List Deferred} {all : Array Oper} {Q : Exit → Env → List Blk → Prop} {rest : List Oper} {e : Env} {H : List Blk}
variable {d : Option Tmp} {ty : TypeId} {pos : String} {af : Array Edge} {g : Option (Nat × Bool)}

theorem run_store {x v : Operand} {T Tb : TypeId} {b off k : Nat} {vs us : List Value} {w : World} (hp : ev e x = .pointer (some ⟨b, off, none⟩)) (hv : (ev e v).cells = us.toArray) (hs : ∀ w, (sizeOf T).run C.P w = .ok k w)
    (hl : us.length = k) (hone : us.all Value.oneCell' = true) (hfit : off + us.length ≤ vs.length) (hb : w.heap[b]? = some (CB vs Tb)) :
    (execOp (ev e) ⟨d, .store T x v, ty, pos, af, g⟩).run C.P w = .ok .skip (w.setRow b (splice vs off us).toArray) := by
  subst hl
  have h := run_storeCells_at (P := C.P) b off Tb us 0 vs.toArray w hb (by simpa using hfit) (fun v hv => List.all_eq_true.1 hone v hv)
  simp only [Nat.add_zero] at h
  have h' : (storeCells ⟨b, off, none⟩ us).run C.P w = .ok () (w.setRow b (splice vs off us).toArray) := h
  simp [execOp, Instr.storeAt, Instr.sureAddr, storeVar, hp, hv, hs, h']
theorem setRow_CB {w : World} {b : Nat} {vs vs' : List Value} {T : TypeId} (hb : w.heap[b]? = some (CB vs T)) : (w.setRow b vs'.toArray).heap[b]? = some (CB vs' T) := setRow_heap w b _ _ _ _ hb
theorem swap_setRow {w : World} {b : Nat} {vs vs' : List Value} {T : TypeId} (hb : w.heap[b]? = some (CB vs T)) : Swap [(b, CB vs T)] [(b, CB vs' T)] w (w.setRow b vs'.toArray) :=
  ⟨rfl, rfl, rfl, rfl, size_setRow .., fun k hk => setRow_other _ _ _ _ (by simpa using hk), fun x hx => by
    simp only [List.mem_singleton] at hx
    subst hx
    exact setRow_CB hb, fun x hx h => by
    simp only [List.mem_singleton] at hx
    subst hx
    cases h⟩

theorem perm_erase {x : Blk} : ∀ {H : List Blk} {i : Nat}, H[i]? = some x → H.Perm (x :: H.eraseIdx i)
  | [], _, h => by simp at h
  | y :: H, 0, h => by
    simp only [List.getElem?_cons_zero, Option.some.injEq] at h
    subst h
    exact List.Perm.refl _
  | y :: H, i + 1, h => by
    have ih := perm_erase (H := H) (i := i) (by simpa using h)
    rw [List.eraseIdx_cons_succ]
    exact (ih.cons y).trans (List.Perm.swap ..)
theorem perm_set {y : Blk} : ∀ {H : List Blk} {i : Nat}, i < H.length → (H.set i y).Perm (y :: H.eraseIdx i)
  | [], _, h => by simp at h
  | x :: H, 0, _ => List.Perm.refl _
  | x :: H, i + 1, h => by
    have ih := perm_set (y := y) (H := H) (i := i) (by simpa using h)
    rw [List.set_cons_succ, List.eraseIdx_cons_succ]
    exact (ih.cons x).trans (List.Perm.swap ..)
theorem St.set {C : Ctx} {H : List Blk} {w w' : World} {i b : Nat} {o o' : Obj} (hw : St C H w) (hi : H[i]? = some (b, o)) (hs : Swap [(b, o)] [(b, o')] w w') : St C (H.set i (b, o')) w' := by
  have hlt : i < H.length := (List.getElem?_eq_some_iff.1 hi).1
  have hp : H.Perm ((b, o) :: H.eraseIdx i) := perm_erase hi
  have hp' : (H.set i (b, o')).Perm ((b, o') :: H.eraseIdx i) := perm_set hlt
  have h1 := hw.2.perm hp.symm
  exact ⟨swap_below (X := H.eraseIdx i) (Hn := [(b, o)]) hs h1 hw.1, (swap_ok (X := H.eraseIdx i) (Hn := [(b, o)]) hs h1).perm hp', swap_marks (X := H.eraseIdx i) (Hn := [(b, o)]) hs h1 hw.3⟩

theorem WS_store (hF : Wide F) {x v : Operand} {T Tb : TypeId} {b off k i : Nat} {vs us : List Value} (hp : ev e x = .pointer (some ⟨b, off, none⟩)) (hv : (ev e v).cells = us.toArray)
    (hs : ∀ w, (sizeOf T).run C.P w = .ok k w) (hl : us.length = k) (hone : us.all Value.oneCell' = true) (hi : H[i]? = some (b, CB vs Tb)) (hfit : off + us.length ≤ vs.length)
    (hk : WS C F n ds all Q rest e (H.set i (b, CB (splice vs off us) Tb))) : WS C F n ds all Q (⟨none, .store T x v, ty, pos, af, none⟩ :: rest) e H := fun w hw a ha => by
  have hb := hw.get hi
  unfold wpListIn
  rw [if_pos (by rfl)]
  refine ⟨fun f _ => hF.fn f, ?_⟩
  rw [semAt_of rfl, ha.eval, run_store hp hv hs hl hone hfit hb]
  exact hk _ (hw.set hi (swap_setRow hb)) _ ha

/-! ### Results and entry -/
def LV (C : Ctx) (e : Env) (H : List Blk) (t : Tmp) (T : TypeId) (v : Value) : Prop := ∀ w, St C H w → ∃ a, e t = .pointer (some a) ∧ (loadVar T a).run C.P w = .ok v w
theorem lv1 {t : Tmp} {T : TypeId} {b o : Nat} {v : Value} (hx : e t = .pointer (some ⟨b, o, none⟩)) (hT : ∀ w, (isAgg T).run C.P w = .ok false w) (hm : Mem C H b o [v]) : LV C e H t T v := fun w hw => by
  have := (hm w hw).1
  exact ⟨_, hx, by simp [loadVar, hT, this]⟩
theorem lvN {t : Tmp} {T : TypeId} {b o n : Nat} {us : List Value} (hx : e t = .pointer (some ⟨b, o, none⟩)) (hT : ∀ w, (isAgg T).run C.P w = .ok true w) (hs : ∀ w, (sizeOf T).run C.P w = .ok n w)
    (hm : Mem C H b o us) (hn : us.length = n) : LV C e H t T (.agg us.toArray) := fun w hw => by
  subst hn
  have := run_loads (P := C.P) (i := 0) (acc := #[]) (by simpa using hm w hw)
  exact ⟨_, hx, by simp [loadVar, hT, hs, loadCells, this]⟩

def RVs (C : Ctx) (e : Env) (H : List Blk) : List ResultVar → List Value → Prop
  | [], [] => True
  | .tmp t :: rs, v :: vs => e t = v ∧ RVs C e H rs vs
  | .cell t T :: rs, v :: vs => LV C e H t T v ∧ RVs C e H rs vs
  | _, _ => False
def tupOf (vs : List Value) : Value := match vs with | [v] => v | vs => .tuple vs.toArray

theorem run_RVs {w : World} {f : ResultVar → Sem Value} (ht : ∀ t, f (.tmp t) = pure (e t)) (hc : ∀ a t, f (.cell a t) = (do loadVar t (← asAddr (e a)))) (hw : St C H w) :
    ∀ {rs : List ResultVar} {vs : List Value}, RVs C e H rs vs → (rs.mapM f).run C.P w = .ok vs w
  | [], [], _ => by simp
  | .tmp t :: rs, v :: vs, h => by
    have ih := run_RVs ht hc hw h.2
    have h1 := h.1
    subst h1
    rw [List.mapM_cons, ht]
    simp [ih]
  | .cell t T :: rs, v :: vs, h => by
    have ih := run_RVs ht hc hw h.2
    obtain ⟨a, ha, hr⟩ := h.1 w hw
    have hA : (asAddr (e t)).run C.P w = .ok a w := by rw [ha]; rfl
    rw [List.mapM_cons, hc]
    simp [ih, hA, hr]
  | [], _ :: _, h => h.elim
  | .tmp _ :: _, [], h => h.elim
  | .cell _ _ :: _, [], h => h.elim

theorem run_results' {w : World} {f : ResultVar → Sem Value} (ht : ∀ t, f (.tmp t) = pure (e t)) (hc : ∀ a t, f (.cell a t) = (do loadVar t (← asAddr (e a)))) (hw : St C H w) {rs : Array ResultVar} {vs : List Value}
    (h : RVs C e H rs.toList vs) : (do let vs ← rs.mapM f; pure (if h : vs.size = 1 then vs[0] else .tuple vs) : Sem Value).run C.P w = .ok (tupOf vs) w := by
  have h1 : (rs.mapM f).run C.P w = .ok vs.toArray w := by
    rw [Array.mapM_eq_mapM_toList]
    simp only [Sem.run_map, run_RVs ht hc hw h]
    rfl
  simp only [Sem.run_bind, h1]
  unfold tupOf
  split
  · rfl
  · rename_i hv
    simp only [Result.andThen, Sem.run_pure]
    rw [dif_neg]
    intro hl
    match vs, hl with
    | [v], _ => exact hv v rfl
theorem run_results {fn : Func} {tmps : Array Value} {w : World} {vs : List Value} (ht : ∀ t, tmps.getD t undef = e t) (hw : St C H w) (h : RVs C e H fn.results.toList vs) : (results fn tmps).run C.P w = .ok (tupOf vs) w := by
  unfold results
  exact run_results' (fun t => by simp only [ht]) (fun a t => by simp only [ht]) hw h

def HSub (H Hn : List Blk) : Prop := ∀ N w, HOk N w H → HOk N w Hn
theorem HSub.nil : HSub H [] := fun N w _ => HOk.nil N w
theorem HSub.refl : HSub H H := fun _ _ h => h
theorem HSub.sub {Hn : List Blk} (h : Hn.Sublist H) : HSub H Hn := fun _ _ h' => h'.sub h
theorem HSub.perm {Hn Hm : List Blk} (h : HSub H Hn) (p : Hm.Perm Hn) : HSub H Hm := fun N w h' => (h N w h').perm p

def Fin (C : Ctx) (fn : Func) (R : Value → List Blk → Prop) : Exit → Env → List Blk → Prop
  | .normal, e, H | .ret, e, H => ∃ vs Hn, RVs C e H fn.results.toList vs ∧ HSub H Hn ∧ R (tupOf vs) Hn
  | _, _, _ => False
theorem Fin_intro {fn : Func} {R : Value → List Blk → Prop} (vs : List Value) (Hn : List Blk) (h1 : RVs C e H fn.results.toList vs) (h2 : HSub H Hn) (h3 : R (tupOf vs) Hn) : Fin C fn R .ret e H := ⟨vs, Hn, h1, h2, h3⟩

def start (l : List Value) : Env := fun t => l.getD t undef

theorem calls_of_W {C : Ctx} {f : FuncId} {args : List Value} {w : World} {fn : Func} {c : Code} {R : Value → List Blk → Prop} {H : List Blk} (hf : C.P.funcs[f]? = some fn) (hb : fn.body = some c) (hl : Nat.ble args.length fn.ntmps = true)
    (hds : C.ds = []) (h : W C Fence.wide fn.ntmps [] c (Fin C fn R) (start args) H) (hw : St C H w) : Calls C.P f args.toArray w fun en w' => ∃ v Hn, en = .returned v ∧ St C Hn w' ∧ R v Hn := by
  have hl' : args.length ≤ fn.ntmps := Nat.le_of_ble_eq_true hl
  refine calls_of_in wide_wide (k := 0) (callsIn_of_wp_marks hf hb trivial ?_ rfl)
  have hrep : Rep fn.ntmps [] { tmps := args.toArray ++ Array.replicate (fn.ntmps - args.toArray.size) undef, defers := [] } (start args) := by
    refine ⟨by simp; omega, rfl, fun t => ?_⟩
    simp only [start, Array.getD_eq_getD_getElem?, List.getD_eq_getElem?_getD]
    rw [Array.getElem?_append]
    split
    · simp
    · rename_i hlt
      have hlt : args.length ≤ t := by simpa using hlt
      rw [List.getElem?_eq_none hlt, Array.getElem?_replicate]
      split <;> rfl
  refine wpIn_mono (h [] w ⟨hw.1, hw.2, by have := hw.3; rw [hds] at this; exact this⟩ _ hrep) ?_
  -- the marks are taken off, one by one
  have fin : ∀ (ds : List Deferred) {a : Act} {w' : World} {e : Env} {H : List Blk}, (∀ t, a.tmps.getD t undef = e t) → St (C.at ds) H w' → (∃ vs Hn, RVs C e H fn.results.toList vs ∧ HSub H Hn ∧ R (tupOf vs) Hn) →
      LeavesInM Fence.wide 0 C.P fn a.tmps (fun en w' => ∃ v Hn, en = .returned v ∧ St C Hn w' ∧ R v Hn) ds .returning w' := by
    intro ds
    induction ds with
    | nil =>
      rintro a w' e H ha hw ⟨vs, Hn, h1, h2, h3⟩
      have hw' : St C H w' := ⟨hw.1, hw.2, by rw [hds]; exact hw.3⟩
      exact ⟨_, run_results (C := C) ha hw' h1, _, Hn, rfl, ⟨hw'.1, h2 _ _ hw'.2, hw'.3⟩, h3⟩
    | cons d ds ih =>
      rintro a w' e H ha hw hq
      obtain ⟨D, rfl, hD, hK⟩ := hw.3.2 d (List.mem_cons_self ..)
      change C.w0.heap.size ≤ D at hD
      have hnd : { target := .collected D, args := #[] } ∉ ds ++ C.out ∧ (ds ++ C.out).Nodup := List.nodup_cons.1 hw.3.1
      refine ⟨by simp, .inl ⟨D, _, rfl, run_takeDeferred hK, ih ha ⟨?_, ⟨fun x hx => ?_, hw.2.nodup, hw.2.kind⟩, hnd.2, fun d' hd' => ?_⟩ hq⟩⟩
      · refine hw.1.trans ⟨rfl, rfl, rfl, by rw [World.putObj_size]; exact Nat.le_refl _, fun k hk => World.putObj_heap_other ?_⟩
        change k < C.w0.heap.size at hk
        omega
      · have hm := hw.2.mem x hx
        refine ⟨hm.1, (World.putObj_heap_other fun he => ?_).trans hm.2⟩
        have h2 := hm.2
        rw [he, hK] at h2
        exact hw.2.kind x hx (Option.some.inj h2).symm
      · obtain ⟨D', rfl, hD', hK'⟩ := hw.3.2 d' (List.mem_cons_of_mem _ hd')
        refine ⟨D', rfl, hD', (World.putObj_heap_other fun he => ?_).trans hK'⟩
        subst he
        exact hnd.1 hd'
  rintro x a w' ⟨ds, e, H, ha, hw, hq⟩
  cases x with
  | normal =>
    have h := fin ds ha.val hw hq
    rw [← ha.defers] at h; exact h
  | ret =>
    have h := fin ds ha.val hw hq
    rw [← ha.defers] at h; exact h
  | exit i => exact hq.elim
  | goto l => exact hq.elim
  | panic ch => exact hq.elim
  | outgrown => exact hq.elim
theorem Ct_of_W {P : Program} {f : FuncId} {args : List Value} {w : World} {fn : Func} {c : Code} {R : Value → List Blk → Prop} (hf : P.funcs[f]? = some fn) (hb : fn.body = some c) (hl : Nat.ble args.length fn.ntmps = true)
    (h : W ⟨P, w, [], []⟩ Fence.wide fn.ntmps [] c (Fin ⟨P, w, [], []⟩ fn R) (start args) []) : Ct P f args.toArray w R :=
  Calls.mono (calls_of_W (C := ⟨P, w, [], []⟩) hf hb hl rfl h ⟨Below.refl _ _, HOk.nil _ _, Mk.nil⟩) fun _ _ ⟨v, Hn, he, hw, hr⟩ => ⟨v, he, Hn, hw.1, hw.2, hr⟩
/-- A call that may write what lay before it: from these blocks, to those. -/
def Cs (C : Ctx) (f : FuncId) (args : Array Value) (H : List Blk) (R : Value → List Blk → Prop) : Prop :=
  ∀ w, St C H w → Calls C.P f args w fun en w' => ∃ v Hn, en = .returned v ∧ St C Hn w' ∧ R v Hn
theorem Cs_of_W {C : Ctx} {f : FuncId} {args : List Value} {fn : Func} {c : Code} {R : Value → List Blk → Prop} {H : List Blk} (hf : C.P.funcs[f]? = some fn) (hb : fn.body = some c) (hl : Nat.ble args.length fn.ntmps = true)
    (h : W C.inner Fence.wide fn.ntmps [] c (Fin C.inner fn R) (start args) H) : Cs C f args.toArray H R := fun w hw =>
  Calls.mono (calls_of_W (C := C.inner) hf hb hl rfl h ⟨hw.1, hw.2, hw.3⟩) fun _ _ ⟨v, Hn, he, hw, hr⟩ => ⟨v, Hn, he, ⟨hw.1, hw.2, hw.3⟩, hr⟩

/-! ### The walk of a region whose order is open -/
def gFree (all : Array Oper) (o : Oper) (us : List Un) : Bool := us.all fun u => !(gLooks all o).contains u.slot
def sFree (all : Array Oper) (S : List Nat) (o : Oper) (us : List Un) : Bool := us.all fun u => !(o.looksAt all).contains u.slot || !S.contains u.slot
theorem gFree_spec {o : Oper} {us : List Un} (h : gFree all o us = true) : ∀ u ∈ us, u.slot ∉ gLooks all o := fun u hu => by
  have := List.all_eq_true.1 h u hu
  simpa using this
theorem sFree_spec {S : List Nat} {o : Oper} {us : List Un} (h : sFree all S o us = true) : ∀ u ∈ us, u.slot ∈ o.looksAt all → u.slot ∉ S := fun u hu hl => by
  have := List.all_eq_true.1 h u hu
  have hc : (o.looksAt all).contains u.slot = true := by simpa using hl
  simp only [hc, Bool.not_true, Bool.false_or] at this
  simpa using this
theorem Over_nil {ts : List Nat} {K : Env → List Blk → Prop} (h : K e H) : Over ts K [] e H := h
theorem Over_out {ts : List Nat} {K : Env → List Blk → Prop} {u : Un} {us : List Un} (hu : ts.contains u.slot = false) (h : Over ts K us e H) : Over ts K (u :: us) e H :=
  ⟨fun hm => (by rw [List.contains_iff_mem.2 hm] at hu; cases hu), fun _ => h⟩
theorem Over_in {ts : List Nat} {K : Env → List Blk → Prop} {u : Un} {us : List Un} (hu : ts.contains u.slot = true) (h : Over (ts ++ u.deps) (fun e H => ∀ v Hn, u.R e v Hn → K (upd e u.slot v) (Hn ++ H)) us e H) : Over ts K (u :: us) e H :=
  ⟨fun _ => h, fun hm => absurd (List.contains_iff_mem.1 hu) hm⟩
theorem Cong0 {R : Value → List Blk → Prop} : Cong [] (fun _ => R) := fun _ _ _ _ _ h => h

variable {S : List Nat} {KK : List Un → Env → Prop} {done : List Nat} {us : List Un} {o : Oper}
theorem PW_det (c : Value) (hg : gdOf all e o = some true) (hu : gFree all o us = true) (hS : sFree all S o us = true) (hy : Over (o.looksAt all) (fun e H => YD C o e H c) us e H)
    (k : PW C all S KK H rest done us (updo e o.dst c)) : PW C all S KK H (o :: rest) done us e :=
  ⟨.det c, ⟨hg, gFree_spec hu, sFree_spec hS, hy⟩, fun d h => (by cases h), k⟩
def depB (all : Array Oper) (o : Oper) (us : List Un) (deps : List Nat) : Bool := deps.all fun t => (o.looksAt all).contains t && us.any fun u => Nat.beq u.slot t
theorem depB_spec {deps : List Nat} (h : depB all o us deps = true) : ∀ t ∈ deps, t ∈ o.looksAt all ∧ ∃ u ∈ us, u.slot = t := fun t ht => by
  have := List.all_eq_true.1 h t ht
  simp only [Bool.and_eq_true, List.any_eq_true] at this
  obtain ⟨h1, u, hu, he⟩ := this
  exact ⟨List.contains_iff_mem.1 h1, u, hu, Nat.eq_of_beq_eq_true he⟩
theorem PW_skip (hg : gdOf all e o = some false) (hu : gFree all o us = true) (k : PW C all S KK H rest done us (updo e o.dst undef)) : PW C all S KK H (o :: rest) done us e :=
  ⟨.skip, ⟨hg, gFree_spec hu⟩, fun d h => (by cases h), k⟩
/-- An open value that nothing is stored into. -/
theorem PW_new (deps : List Nat) (R : Env → Value → List Blk → Prop) {d : Nat} (hg : gdOf all e o = some true) (hu : gFree all o us = true) (hS : sFree all S o us = true) (hd : o.dst = some d) (hdep : depB all o us deps = true) (hc : Cong deps R)
    (hy : Over (o.looksAt all) (fun e H => YR C o e H (R e)) us e H)
    (k : PW C all S KK H rest done (⟨d, deps, R, deps, R⟩ :: us) e) : PW C all S KK H (o :: rest) done us e :=
  ⟨.new deps R deps R, ⟨hg, gFree_spec hu, sFree_spec hS, ⟨d, hd, fun _ => ⟨rfl, rfl⟩⟩, hy, depB_spec hdep, hc, hc⟩, fun d h => (by cases h), by simp only [nextU, hd, nextE]; exact k⟩
/-- An open value whose block is stored into. -/
theorem PW_newS (R : Value → List Blk → Prop) (deps' : List Nat) (R' : Env → Value → List Blk → Prop) {d : Nat} (hg : gdOf all e o = some true) (hu : gFree all o us = true) (hS : sFree all S o us = true) (hd : o.dst = some d) (hdS : S.contains d = true) (hc : Cong deps' R')
    (hy : Over (o.looksAt all) (fun e H => YR C o e H R) us e H)
    (k : PW C all S KK H rest done (⟨d, [], fun _ => R, deps', R'⟩ :: us) e) : PW C all S KK H (o :: rest) done us e :=
  ⟨.new [] (fun _ => R) deps' R', ⟨hg, gFree_spec hu, sFree_spec hS, ⟨d, hd, fun h => absurd (List.contains_iff_mem.1 hdS) h⟩, hy, fun t ht => (by cases ht), Cong0, hc⟩, fun d h => (by cases h), by simp only [nextU, hd, nextE]; exact k⟩
def dropU (d : Nat) : List Un → List Un
  | [] => []
  | u :: us => match Nat.beq u.slot d with
    | true => dropU d us
    | false => u :: dropU d us
theorem dropU_eq {d : Nat} : ∀ us : List Un, dropU d us = us.filter fun x => x.slot != d
  | [] => rfl
  | u :: us => by
    unfold dropU
    cases h : Nat.beq u.slot d with
    | true =>
      have := Nat.eq_of_beq_eq_true h
      rw [List.filter_cons_of_neg (by simp [this])]; exact dropU_eq us
    | false =>
      have := Nat.ne_of_beq_eq_false h
      rw [List.filter_cons_of_pos (by simp [this])]; exact congrArg _ (dropU_eq us)
def sdepB (all : Array Oper) (o : Oper) (us : List Un) (d : Nat) (deps : List Nat) : Bool := deps.all fun t => !Nat.beq t d && ((o.looksAt all).contains t && us.any fun u => Nat.beq u.slot t)
theorem PW_st (d : Nat) (i : Nat) {u : Un} (hd : o.dst = none) (hg : o.guard = none) (hdS : S.contains d = true) (hlk : ((o.looksAt all).contains d || all.all fun o' => o'.dst != some d) = true) (hi : us[i]? = some u) (hus : u.slot = d)
    (hu0 : u.deps = []) (hdep : sdepB all o us d u.deps' = true)
    (hst : Over (o.looksAt all) (fun e H => StoreOk C o e H u) (dropU d us) e H) (hno : (us.all fun u => u.slot == d || !((o.looksAt all).contains u.slot && S.contains u.slot)) = true) (hdn : done.contains d = false)
    (k : PW C all S KK H rest (d :: done) us e) : PW C all S KK H (o :: rest) done us e :=
  ⟨.st d, ⟨hd, hg, ⟨List.contains_iff_mem.1 hdS, hlk⟩, ⟨u, List.mem_of_getElem? hi, hus, hu0, fun t ht => by
    have := List.all_eq_true.1 hdep t ht
    simp only [Bool.and_eq_true, Bool.not_eq_true', List.any_eq_true] at this
    obtain ⟨h0, h1, u', hu', he⟩ := this
    exact ⟨List.contains_iff_mem.1 h1, Nat.ne_of_beq_eq_false h0, u', hu', Nat.eq_of_beq_eq_true he⟩, by rw [← dropU_eq]; exact hst⟩, fun u hu hne hl hS => by
    have := List.all_eq_true.1 hno u hu
    rw [List.contains_iff_mem.2 hl, List.contains_iff_mem.2 hS] at this
    simp [hne] at this⟩, fun d' h => (by cases h; intro hm; rw [List.contains_iff_mem.2 hm] at hdn; cases hdn), by
    have h1 : nextU o (.st d) us = us := by unfold nextU; cases o.dst <;> rfl
    rw [h1]; exact k⟩
theorem PW_end (hall : (S.all fun d => done.contains d) = true) (k : KK us e) : PW C all S KK H [] done us e := ⟨fun d hd => by
  have := List.all_eq_true.1 hall d hd
  simpa using this, k⟩
theorem OverAll_nil {K : Env → List Blk → Prop} {G : Env → Prop} (h : G e → K e H) : OverAll K G [] e H := h
theorem OverAll_cons {K : Env → List Blk → Prop} {G : Env → Prop} {u : Un} {us : List Un} (h : ∀ v Hn, OverAll K (fun e' => G e' ∧ u.R' e' v Hn) us (upd e u.slot v) (Hn ++ H)) : OverAll K G (u :: us) e H := h

/-- A value's cells. -/
def cellsL (v : Value) : List Value := v.cells.toList
theorem cellsL_eq (v : Value) : v.cells = (cellsL v).toArray := by simp [cellsL]
/-- What a store of an open value leaves. -/
def stR (t b off : Nat) (vs : List Value) (Tb : TypeId) : Env → Value → List Blk → Prop := fun e _ Hn => Hn = [(b, CB (splice vs off (cellsL (e t))) Tb)]
theorem stR_cong {t b off : Nat} {vs : List Value} {Tb : TypeId} : Cong [t] (stR t b off vs Tb) := fun e e' h v Hn hh => by
  unfold stR at hh ⊢
  rw [← h t (List.mem_singleton.2 rfl)]; exact hh
def stN (t : Nat) (vs : List Value) (Tb : TypeId) : Env → Value → List Blk → Prop := fun e => NewPtr (CB (splice vs 0 (cellsL (e t))) Tb)
theorem stN_cong {t : Nat} {vs : List Value} {Tb : TypeId} : Cong [t] (stN t vs Tb) := fun e e' h v Hn hh => by
  unfold stN at hh ⊢
  rw [← h t (List.mem_singleton.2 rfl)]; exact hh
def Pre.con (slot b : Nat) (o : Obj) (R' : Value → List Blk → Prop) : Pre := ⟨slot, b, o, [], fun _ => R', Cong0⟩
def Pre.dep (slot b off t : Nat) (vs : List Value) (Tb : TypeId) : Pre := ⟨slot, b, CB vs Tb, [t], stR t b off vs Tb, stR_cong⟩

/-- A store into a block of the call's own. -/
theorem st_pre {x v : Operand} {T Tb : TypeId} {b off k slot : Nat} {vs us : List Value} (hp : ∀ u, ev (upd e slot u) x = .pointer (some ⟨b, off, none⟩)) (hv : ∀ u, (ev (upd e slot u) v).cells = us.toArray)
    (hs : ∀ w, (sizeOf T).run C.P w = .ok k w) (hl : us.length = k) (hone : us.all Value.oneCell' = true) (hfit : off + us.length ≤ vs.length) :
    StoreOk C ⟨d, .store T x v, ty, pos, af, g⟩ e H (Pre.un (Pre.con slot b (CB vs Tb) fun _ Hn => Hn = [(b, CB (splice vs off us) Tb)])) := by
  rintro u Hn rfl w hw
  have hb : w.heap[b]? = some (CB vs Tb) := (hw.sub (List.sublist_append_left _ _)).get (i := 0) rfl
  exact ⟨_, _, run_store (hp u) (hv u) hs hl hone hfit hb, swap_setRow hb, rfl⟩
theorem st_preD {x : Operand} {T Tb : TypeId} {b off k slot t : Nat} {vs us : List Value} (hp : ∀ u, ev (upd e slot u) x = .pointer (some ⟨b, off, none⟩)) (ht : Nat.beq t slot = false) (hv : cellsL (e t) = us)
    (hs : ∀ w, (sizeOf T).run C.P w = .ok k w) (hl : us.length = k) (hone : us.all Value.oneCell' = true) (hfit : off + us.length ≤ vs.length) :
    StoreOk C ⟨d, .store T x (.tmp t), ty, pos, af, g⟩ e H (Pre.un (Pre.dep slot b off t vs Tb)) := by
  subst hv
  rintro u Hn rfl w hw
  have hb : w.heap[b]? = some (CB vs Tb) := (hw.sub (List.sublist_append_left _ _)).get (i := 0) rfl
  have hv : (ev (upd e slot u) (.tmp t)).cells = (cellsL (e t)).toArray := by
    rw [show ev (upd e slot u) (.tmp t) = e t from upd_ne e u (Nat.ne_of_beq_eq_false ht)]; exact cellsL_eq _
  exact ⟨_, _, run_store (hp u) hv hs hl hone hfit hb, swap_setRow hb, rfl⟩
/-- A store into a block that the region itself makes. -/
theorem st_new {v : Operand} {T Tb : TypeId} {k slot : Nat} {vs us : List Value} (hv : ∀ u, (ev (upd e slot u) v).cells = us.toArray)
    (hs : ∀ w, (sizeOf T).run C.P w = .ok k w) (hl : us.length = k) (hone : us.all Value.oneCell' = true) (hfit : us.length ≤ vs.length) :
    StoreOk C ⟨d, .store T (.tmp slot) v, ty, pos, af, g⟩ e H ⟨slot, [], fun _ => NewPtr (CB vs Tb), [], fun _ => NewPtr (CB (splice vs 0 us) Tb)⟩ := by
  rintro u Hn ⟨b, rfl, rfl⟩ w hw
  have hb : w.heap[b]? = some (CB vs Tb) := (hw.sub (List.sublist_append_left _ _)).get (i := 0) rfl
  exact ⟨_, _, run_store (by exact upd_same ..) (hv _) hs hl hone (by simpa using hfit) hb, swap_setRow hb, ⟨b, rfl, rfl⟩⟩
theorem st_newD {T Tb : TypeId} {k slot t : Nat} {vs us : List Value} (ht : Nat.beq t slot = false) (hv : cellsL (e t) = us)
    (hs : ∀ w, (sizeOf T).run C.P w = .ok k w) (hl : us.length = k) (hone : us.all Value.oneCell' = true) (hfit : us.length ≤ vs.length) :
    StoreOk C ⟨d, .store T (.tmp slot) (.tmp t), ty, pos, af, g⟩ e H ⟨slot, [], fun _ => NewPtr (CB vs Tb), [t], stN t vs Tb⟩ := by
  subst hv
  rintro u Hn ⟨b, rfl, rfl⟩ w hw
  have hb : w.heap[b]? = some (CB vs Tb) := (hw.sub (List.sublist_append_left _ _)).get (i := 0) rfl
  have hv : (ev (upd e slot (.pointer (some ⟨b, 0, none⟩))) (.tmp t)).cells = (cellsL (e t)).toArray := by
    rw [show ev (upd e slot (.pointer (some ⟨b, 0, none⟩))) (.tmp t) = e t from upd_ne e _ (Nat.ne_of_beq_eq_false ht)]; exact cellsL_eq _
  exact ⟨_, _, run_store (by exact upd_same ..) hv hs hl hone (by simpa using hfit) hb, swap_setRow hb, ⟨b, rfl, rfl⟩⟩
end
end Go.Eng
