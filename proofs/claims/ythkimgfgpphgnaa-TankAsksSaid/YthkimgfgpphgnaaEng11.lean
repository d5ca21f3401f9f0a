/- Calls that write the caller's blocks; loops over functions. No project text. -/
import Derived.Test.YthkimgfgpphgnaaEng10
namespace Go.Eng
open Go.RowKit
section
variable {C : Ctx} {F : Fence} {n : Nat} {ds : List Deferred} {all : Array Oper} {Q : Exit → Env → List Blk → Prop} {rest : List Oper} {e : Env} {H : List Blk}
variable {d : Option Tmp} {ty : TypeId} {pos : String} {af : Array Edge} {g : Option (Nat × Bool)}

theorem run_call {x : Operand} {args : Array Operand} {ats : Array TypeId} {f : FuncId} {first captured vs : Array Value} {w : World} (hx : ev e x = .func (.func f) first captured)
    (ha : first ++ args.map (ev e) ++ captured = vs) (hc : ∀ args w, (callFunc f args).run C.P w = .ok (.enter f args) w) :
    (execOp (ev e) ⟨d, .call ⟨.value x, args, ats⟩, ty, pos, af, g⟩).run C.P w = .ok (.enter f vs) w := by
  simp only [execOp, resolve, hx, Deferred.ofValue]
  simp [invoke, ha, hc]
/-- A call that may write the blocks that are there. -/
theorem WS_callS (hF : Wide F) {x : Operand} {args : List Operand} {ats : Array TypeId} {f : FuncId} {first captured vs : List Value} {R : Value → List Blk → Prop} (hck : chk n all e ⟨d, .call ⟨.value x, args.toArray, ats⟩, ty, pos, af, g⟩ = true)
    (hx : ev e x = .func (.func f) first.toArray captured.toArray) (ha : first ++ (args.map (ev e) ++ captured) = vs) (hc : ∀ args w, (callFunc f args).run C.P w = .ok (.enter f args) w) (hR : Cs C f vs.toArray H R)
    (hk : ∀ v H', R v H' → WS C F n ds all Q rest (updo e d v) H') : WS C F n ds all Q (⟨d, .call ⟨.value x, args.toArray, ats⟩, ty, pos, af, g⟩ :: rest) e H := fun w hw a hra => by
  have hs := chk_spec hck
  have hwant := gd_wanted hra hs.2.1 (gOk_lt hs.2.2.1)
  unfold wpListIn
  rw [if_pos hwant]
  refine ⟨fun f _ => hF.fn f, ?_⟩
  rw [semAt_of hs.1, hra.eval, run_call (vs := vs.toArray) hx (by subst ha; simp) hc]
  refine ⟨fun hd => (by rw [hF.depth] at hd; cases hd), calls_in hF (Calls.mono (hR w hw) ?_)⟩
  rintro en w' ⟨v, H', rfl, hw', hr⟩
  exact hk v H' hr w' hw' _ (hra.put d hs.2.2.2)

/-- What a yield does to the blocks. -/
def Yi (C : Ctx) (l : Nat) (args : List Value) (H : List Blk) (R : Bool → List Blk → Prop) : Prop :=
  ∀ w, St C H w → YieldAt Fence.wide 0 C.P l args.toArray w fun en w' => ∃ b H', en = .returned (.bool b) ∧ St C H' w' ∧ R b H'
theorem WS_yield {x : Operand} {args : List Operand} {ats : Array TypeId} {l : Nat} {vs : List Value} {R : Bool → List Blk → Prop} (hck : chk n all e ⟨d, .call ⟨.value x, args.toArray, ats⟩, ty, pos, af, g⟩ = true)
    (hx : ev e x = .func (.yield l) #[] #[]) (ha : args.map (ev e) = vs) (hY : Yi C l vs H R)
    (hk : ∀ b H', R b H' → WS C Fence.wide n ds all Q rest (updo e d (.bool b)) H') : WS C Fence.wide n ds all Q (⟨d, .call ⟨.value x, args.toArray, ats⟩, ty, pos, af, g⟩ :: rest) e H := fun w hw a hra => by
  have hs := chk_spec hck
  have hwant := gd_wanted hra hs.2.1 (gOk_lt hs.2.2.1)
  unfold wpListIn
  rw [if_pos hwant]
  obtain ⟨fn, tmps, assign, body, hy, hR⟩ := hY w hw
  have hrun : (execOp (ev e) ⟨d, .call ⟨.value x, args.toArray, ats⟩, ty, pos, af, g⟩).run C.P w = .ok (.round l fn tmps assign body) w := by
    have hm : args.toArray.map (ev e) = vs.toArray := by subst ha; simp
    simp only [execOp, resolve, hx, Deferred.ofValue]
    simp [invoke, hm, hy]
  refine ⟨fun f _ => trivial, ?_⟩
  rw [semAt_of hs.1, hra.eval, hrun]
  refine ⟨fun hd => (by cases hd), RoundIn.mono hR ?_⟩
  rintro en w' ⟨b, H', rfl, hw', hr⟩
  exact hk b H' hr w' hw' _ (hra.put d hs.2.2.2)

/-- An iterator: it yields these, in their order, till it is told to stop. -/
def It (C : Ctx) (gf : FuncId) (lb : List Value) (encs : Nat → List Value) (N : Nat) (H0 : List Blk) : Prop :=
  ∀ (l : Nat) (J Jx : Nat → List Blk → Prop),
    (∀ k, k < N → ∀ ds H G, J k G → Yi (C.inner.at ds) l (encs k) (H ++ G) fun b H' => ∃ G', H' = H ++ G' ∧ (b = true ∧ J (k + 1) G' ∨ b = false ∧ Jx (k + 1) G')) →
    ∀ G, J 0 G → Cs C gf (.func (.yield l) #[] #[] :: lb).toArray (H0 ++ G) fun _ H' => ∃ G', H' = H0 ++ G' ∧ (J N G' ∨ ∃ k, k < N ∧ Jx (k + 1) G')

def setz (e : Env) : List Nat → List Value → Env
  | p :: ps, v :: vs => setz (upd e p v) ps vs
  | _, _ => e
theorem Rep.setz {n : Nat} {ds : List Deferred} : ∀ {ps : List Nat} {vs : List Value} {t : Array Value} {e : Env}, Rep n ds { tmps := t, defers := ds } e → (ps.all fun p => Nat.blt p n) = true →
    Rep n ds { tmps := (ps.zip vs).foldl (fun t x => t.setIfInBounds x.1 x.2) t, defers := ds } (setz e ps vs)
  | [], _, _, _, h, _ => h
  | p :: ps, [], _, _, h, _ => h
  | p :: ps, v :: vs, t, e, h, hp => by
    simp only [List.all_cons, Bool.and_eq_true] at hp
    exact Rep.setz (ps := ps) (vs := vs) (h.put (some p) hp.1) hp.2

theorem Mk.right {ds out : List Deferred} {N : Nat} {w : World} (h : Mk (ds ++ out) N w) : Mk out N w := ⟨(List.nodup_append.1 h.1).2.1, fun d hd => h.2 d (List.mem_append_right _ hd)⟩
theorem swap_put {w : World} {l : Nat} {o o' : Obj} (h : w.heap[l]? = some o) (hk : o' ≠ .deferred (some [])) : Swap [(l, o)] [(l, o')] w (w.putObj l o') :=
  ⟨rfl, rfl, rfl, rfl, World.putObj_size, fun k hk => World.putObj_heap_other (by simpa using hk), fun x hx => by
    simp only [List.mem_singleton] at hx
    subst hx
    exact World.putObj_heap_same (Array.getElem?_eq_some_iff.1 h).1, fun x hx => by
    simp only [List.mem_singleton] at hx
    subst hx
    exact hk⟩
theorem St.put {C : Ctx} {X : List Blk} {w : World} {l : Nat} {o o' : Obj} (h : St C ((l, o) :: X) w) (hk : o' ≠ .deferred (some [])) : St C ((l, o') :: X) (w.putObj l o') := by
  have hl := h.get (i := 0) rfl
  have hs := swap_put hl hk
  exact ⟨swap_below (X := X) hs h.2 h.1, swap_ok (X := X) hs h.2, swap_marks (X := X) hs h.2 h.3⟩

/-- How a round may end. -/
def RoundQ (J : Nat → List Blk → Prop) (Jx : Code → Nat → List Blk → Prop) (k : Nat) (R : List Blk) : Exit → Env → List Blk → Prop
  | .normal, _, H => ∃ G, HSub H (G ++ R) ∧ J (k + 1) G
  | .ret, _, H => ∃ G, HSub H (G ++ R) ∧ Jx .ret (k + 1) G
  | .exit i, _, H => ∃ G, HSub H (G ++ R) ∧ Jx (.exit i) (k + 1) G
  | _, _, _ => False

theorem W_range (hF : Wide F) (hro : F.round = none) {g : Operand} {ps : List Tmp} {assign body : Code} {gf : FuncId} {lb : List Value} {encs : Nat → List Value} {N : Nat} {H0 G0 : List Blk}
    (J : Nat → List Blk → Prop) (Jx : Code → Nat → List Blk → Prop)
    (hg : ev e g = .func (.func gf) #[] lb.toArray) (eg : ∀ args w, (callFunc gf args).run C.P w = .ok (.enter gf args) w) (hps : (ps.all fun p => Nat.blt p n) = true) (hN : ∀ k, (encs k).length = ps.length)
    (hit : ∀ ds, It (C.at ds) gf lb encs N H0) (h0 : J 0 G0) (hH : HSub H (H0 ++ G0))
    (hbody : ∀ k, k < N → ∀ G, J k G → ∀ out l R R', W ⟨C.P, C.w0, [], out⟩ (Fence.wide.inRound l) n [] assign
      (Then (fun e1 H1 => ∃ A, H1 = A ++ R ∧ W ⟨C.P, C.w0, [], out⟩ (Fence.wide.inRound l) n [] body (RoundQ J Jx k R') e1 (A ++ R')) (fun _ _ _ => False)) (setz e ps (encs k)) (G ++ R))
    (hdone : ∀ G, J N G → Q .normal e (H0 ++ G))
    (hstop : ∀ c k G, k < N → Jx c (k + 1) G → W C F n [] c Q e (H0 ++ G)) : W C F n ds (.rangeFunc g ps.toArray assign body) Q e H := fun dd w hw a ha => by
  refine wpIn_rangeFunc ?_
  intro fn hfn
  rw [hro]
  obtain ⟨rec, hrec⟩ : ∃ rec : LoopState → Option Code → Loop, rec = fun st pe => { state := st, pending := pe, fn, tmps := a.tmps, params := ps.toArray, assign, body, defers := w.heap.size } := ⟨_, rfl⟩
  obtain ⟨W1, hW1⟩ : ∃ W1, (w.alloc (.deferred (some []))).alloc (.loop (rec .ready none)) = W1 := ⟨_, rfl⟩
  obtain ⟨mk, hmk⟩ : ∃ mk : Deferred, mk = { target := .collected w.heap.size, args := #[] } := ⟨_, rfl⟩
  have hL1 : W1.heap[w.heap.size + 1]? = some (.loop (rec .ready none)) := by
    rw [← hW1]; have := World.alloc_heap_new (w.alloc (.deferred (some []))) (.loop (rec .ready none)); rwa [World.size_alloc] at this
  have hK1 : W1.heap[w.heap.size]? = some (.deferred (some [])) := by
    rw [← hW1]; exact (Below.heap_alloc _ _ _ (by simp)).trans (World.alloc_heap_new w _)
  have hb1 : Below w.heap.size w W1 := by
    rw [← hW1]; exact ((Below.refl _ w).alloc (Nat.le_refl _) _).alloc (by simp) _
  have hn : ∀ {o : Loop}, (Obj.loop o) ≠ .deferred (some []) := fun h => by cases h
  have hst1 : St (C.at (mk :: dd)) (H0 ++ (w.heap.size + 1, .loop (rec .ready none)) :: G0) W1 := by
    have hg := hw.grow hb1 (Hn := [(w.heap.size + 1, .loop (rec .ready none))]) ⟨fun x hx => by
      simp only [List.mem_singleton] at hx
      subst hx
      exact ⟨by simp, hL1⟩, by simp, fun x hx => by
      simp only [List.mem_singleton] at hx
      subst hx
      exact hn⟩
    have hnew : HOk w.heap.size W1 [(w.heap.size + 1, .loop (rec .ready none))] := ⟨fun x hx => by
      simp only [List.mem_singleton] at hx
      subst hx
      exact ⟨by simp, hL1⟩, by simp, fun x hx => by
      simp only [List.mem_singleton] at hx
      subst hx
      exact hn⟩
    refine ⟨hg.1, ((hH _ _ hw.2).grow hw.1.size hb1 hnew).perm List.perm_middle, ⟨?_, fun d hd => ?_⟩⟩
    · refine List.nodup_cons.2 ⟨fun hin => ?_, hw.3.1⟩
      obtain ⟨D, hD, _, hD2⟩ := hw.3.2 mk hin
      rw [hmk] at hD
      have : D = w.heap.size := by cases hD; rfl
      have := (Array.getElem?_eq_some_iff.1 hD2).1
      omega
    · rcases List.mem_cons.1 hd with rfl | hd
      · exact ⟨_, hmk, hw.1.size, hK1⟩
      · exact hg.3.2 d hd
  refine ⟨w.heap.size + 1, [mk], W1, { target := .fn (.func gf) lb.toArray, args := #[.func (.yield (w.heap.size + 1)) #[] #[]] }, W1, gf,
    (.func (.yield (w.heap.size + 1)) #[] #[] :: lb).toArray, W1, ?_, ?_, ?_, ?_, fun hd => (by rw [hF.depth] at hd; cases hd), ?_⟩
  · rw [← hW1, hrec, hmk]; exact run_enterLoop_outer _ _ _ _ _
  · have hgg : a.eval g = .func (.func gf) #[] lb.toArray := by rw [ha.eval]; exact hg
    simp only [resolve, hgg]
    simp [go_sem]
  · intro f' hf'; simp [Target.leads] at hf'; subst hf'; exact hF.fn _
  · simp [invoke, go_sem, eg]
  obtain ⟨l, hl⟩ : ∃ l, l = w.heap.size + 1 := ⟨_, rfl⟩
  rw [← hl] at hst1 hL1 ⊢
  have hcs := hit (mk :: dd) l (fun k G => ∃ G1, G = (l, .loop (rec .ready none)) :: G1 ∧ J k G1) (fun k G => ∃ c G1, G = (l, .loop (rec .done (some c))) :: G1 ∧ Jx c k G1) ?_ _ ⟨G0, rfl, h0⟩ W1 hst1
  · refine calls_in hF (Calls.mono hcs ?_)
    rintro en w2 ⟨v, H', rfl, hw2, G', rfl, ⟨G1, rfl, hj⟩ | ⟨k, hk, c, G1, rfl, hj⟩⟩
    · have hp := hw2.perm List.perm_middle.symm
      have hl2 := hp.get (i := 0) rfl
      have := run_endLoop (P := C.P) hl2 (by rw [hrec]; simp)
      refine ⟨_, _, this, ?_⟩
      rw [hrec]
      exact ⟨mk :: dd, e, H0 ++ G1, ⟨ha.size, by simp [ha.defers], ha.val⟩, (hp.put hn).sub (List.sublist_cons_self _ _), hdone G1 hj⟩
    · have hp := hw2.perm List.perm_middle.symm
      have hl2 := hp.get (i := 0) rfl
      have := run_endLoop (P := C.P) hl2 (by rw [hrec]; simp)
      refine ⟨_, _, this, ?_⟩
      rw [hrec]
      exact hstop c k G1 hk hj (mk :: dd) _ ((hp.put hn).sub (List.sublist_cons_self _ _)) _ ⟨ha.size, by simp [ha.defers], ha.val⟩
  · rintro k hk ds' H G ⟨G1, rfl, hj⟩ w3 hw3
    have hl3 := (hw3.perm List.perm_middle.symm).get (i := 0) rfl
    have hy := run_yield (P := C.P) (args := (encs k).toArray) hl3 (by rw [hrec]; simpa using hN k)
    rw [hrec] at hy
    refine ⟨fn, _, assign, body, hy, roundIn_of_wpIn trivial ?_⟩
    have hr0 : Rep n [] { tmps := (ps.toArray.zip (encs k).toArray).foldl (fun t x => t.setIfInBounds x.1 x.2) a.tmps, defers := [] } (setz e ps (encs k)) := by
      have := Rep.setz (ds := []) (ps := ps) (vs := encs k) (t := a.tmps) (e := e) ⟨ha.size, rfl, ha.val⟩ hps
      simpa using this
    have hw4 : St (Ctx.at ⟨C.P, C.w0, [], ds' ++ ((mk :: dd) ++ C.out)⟩ []) (G1 ++ (l, .loop (rec .ready none)) :: H) w3 := by
      have := hw3.perm (H' := G1 ++ (l, .loop (rec .ready none)) :: H) (List.perm_middle.trans ((List.Perm.cons _ List.perm_append_comm).trans List.perm_middle.symm))
      exact ⟨this.1, this.2, this.3⟩
    have hb := hbody k hk G1 hj (ds' ++ ((mk :: dd) ++ C.out)) l ((l, .loop (rec .ready none)) :: H) ((l, .loop { rec .ready none with state := .busy }) :: H) [] w3 hw4 _ hr0
    refine wpIn_mono hb ?_
    rintro x a4 w4 ⟨ds4, e4, H4, hr4, hs4, hq4⟩
    cases x with
    | normal =>
      obtain ⟨A, rfl, hb5⟩ := hq4
      have hp4 := hs4.perm (H' := (l, .loop (rec .ready none)) :: (A ++ H)) List.perm_middle.symm
      refine ⟨_, run_beginRound (hp4.get (i := 0) rfl) (by rw [hrec]), ?_⟩
      have hp5 := (hp4.put (o' := .loop { rec .ready none with state := .busy }) hn).perm (H' := A ++ (l, .loop { rec .ready none with state := .busy }) :: H) List.perm_middle
      refine wpIn_mono (hb5 ds4 _ hp5 a4 hr4) ?_
      rintro x a6 w6 ⟨ds6, e6, H6, hr6, hs6, hq6⟩
      have fin : ∀ (jump : Option Code) {G2 : List Blk}, HSub H6 (G2 ++ (l, .loop { rec .ready none with state := .busy }) :: H) →
          ∃ v w', (Instr.endRound l jump).run C.P w6 = .ok v w' ∧ v = .bool jump.isNone ∧ St (((C.at (mk :: dd)).inner).at ds') (H ++ (l, .loop (rec (if jump.isNone then .ready else .done) jump)) :: G2) w' := fun jump G2 hsub => by
        have h6 : St (Ctx.at ⟨C.P, C.w0, [], ds' ++ ((mk :: dd) ++ C.out)⟩ ds6) (G2 ++ (l, .loop { rec .ready none with state := .busy }) :: H) w6 := ⟨hs6.1, hsub _ _ hs6.2, hs6.3⟩
        have h7 := h6.perm (H' := (l, .loop { rec .ready none with state := .busy }) :: (G2 ++ H)) List.perm_middle.symm
        have he : ({ { rec .ready none with state := .busy } with state := if jump.isNone then .ready else .done, pending := jump } : Loop) = rec (if jump.isNone then .ready else .done) jump := by rw [hrec]
        have hr : (Instr.endRound l jump).run C.P w6 = .ok (.bool jump.isNone) (w6.putObj l (.loop (rec (if jump.isNone then .ready else .done) jump))) := by
          rw [← he]; exact run_endRound (P := C.P) jump (h7.get (i := 0) rfl)
        refine ⟨_, _, hr, rfl, ?_⟩
        have h8 := (h7.put (o' := .loop (rec (if jump.isNone then .ready else .done) jump)) hn).perm
          (H' := H ++ (l, .loop (rec (if jump.isNone then .ready else .done) jump)) :: G2) (List.perm_middle.trans (List.Perm.cons _ List.perm_append_comm)).symm.symm
        exact ⟨h8.1, h8.2, h8.3.right⟩
      cases x with
      | normal =>
        obtain ⟨G2, hsub, hj2⟩ := hq6
        obtain ⟨v, w', h1, rfl, h2⟩ := fin none hsub
        exact ⟨_, _, h1, true, _, rfl, h2, _, rfl, .inl ⟨rfl, G2, rfl, hj2⟩⟩
      | ret =>
        obtain ⟨G2, hsub, hj2⟩ := hq6
        obtain ⟨v, w', h1, rfl, h2⟩ := fin (some .ret) hsub
        exact ⟨_, _, h1, false, _, rfl, h2, _, rfl, .inr ⟨rfl, .ret, G2, rfl, hj2⟩⟩
      | exit i =>
        obtain ⟨G2, hsub, hj2⟩ := hq6
        obtain ⟨v, w', h1, rfl, h2⟩ := fin (some (.exit i)) hsub
        exact ⟨_, _, h1, false, _, rfl, h2, _, rfl, .inr ⟨rfl, .exit i, G2, rfl, hj2⟩⟩
      | goto _ => exact hq6.elim
      | panic _ => exact hq6.elim
      | outgrown => exact hq6.elim
    | ret => exact hq4.elim
    | exit _ => exact hq4.elim
    | goto _ => exact hq4.elim
    | panic _ => exact hq4.elim
    | outgrown => exact hq4.elim
end
end Go.Eng
