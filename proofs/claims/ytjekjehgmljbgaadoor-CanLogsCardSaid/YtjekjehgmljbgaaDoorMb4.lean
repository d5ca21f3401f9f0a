/- The program's pourings, walked. -/
import Derived.Test.YtjekjehgmljbgaaDoorMb3
import Derived.Laws.Bits64b
import Derived.Test.YtjekjehgmljbgaaDoorMb2
import Derived.Test.YtjekjehgmljbgaaDoorMb1
import Derived.Test.YtjekjehgmljbgaaDoorChecked
set_option linter.unusedVariables false
set_option linter.unusedSimpArgs false
/- Changes: copies of logs: the walks of Clone, copied and Add. -/
namespace Go.Eng
open Go.RowKit
section
variable {C : Ctx} {F : Fence} {n : Nat} {ds : List Deferred} {all : Array Oper} {Q : Exit → Env → List Blk → Prop} {rest : List Oper} {e : Env} {H : List Blk} {d : Option Tmp} {ty : TypeId} {pos : String} {af : Array Edge} {g : Option (Nat × Bool)}
theorem WS_appendN (hF : Wide F) {x y : Operand} {T E : TypeId} {a a' : Option Addr} {n' m cap cap' sz by_ : Nat} {us news : List Value} {z : Value} {H1 Hn : List Blk} (hc : chk n all e ⟨d, .call ⟨.builtin .append, #[x, y], #[T, T]⟩, ty, pos, af, g⟩ = true)
    (hx : ev e x = .slice a n' cap) (hy : ev e y = .slice a' m cap') (hT : C.P.underlying T = some (.slice E)) (hinf : (C.P.info? E).map (fun i => (i.zero, i.size, i.bytes)) = some (some z, sz, by_))
    (hzs : z.cells.size = sz) (hH : H = H1 ++ Hn) (hrow : NewRow E sz n' us (.slice a n' cap) Hn) (hul : us.length = n' * sz) (hs : Src C H a' m news) (hl : news.length = m * sz) (hone : news.all Value.oneCell' = true) (hb : (n' + m) * by_ ≤ 140737488355328) (hm : n' + m ≤ 140737488355328) (h0 : 0 < m)
    (hk : ∀ a' cap' Hn', NewRow E sz (n' + m) (us ++ news) (.slice a' (n' + m) cap') Hn' → WS C F n ds all Q rest (updo e d (.slice a' (n' + m) cap')) (H1 ++ Hn')) :
    WS C F n ds all Q (⟨d, .call ⟨.builtin .append, #[x, y], #[T, T]⟩, ty, pos, af, g⟩ :: rest) e H := by
  by_cases hn : n' = 0
  · subst hn
    have hu : us = [] := by simpa using hul
    subst hu
    obtain ⟨a1, cap1, he, hle, ⟨h, _⟩ | ⟨_, rfl, rfl⟩⟩ := hrow
    · omega
    cases he
    rw [Nat.zero_add] at hb hm hk
    refine WS_gen hF hc (y_append0 hx hy hT hinf hzs hs hl hb hm) fun v Hv hv => ?_
    have hv2 := hv
    obtain ⟨a2, cap2, rfl, _⟩ := hv
    subst hH
    intro w hw act ha
    exact hk a2 cap2 Hv (by rw [List.nil_append]; exact hv2) w ⟨hw.1, hw.2.perm (by rw [List.append_nil]; exact List.perm_append_comm), hw.3⟩ act ha
  · obtain ⟨a1, cap1, he, hr⟩ := hrow.row hul (by omega)
    cases he
    refine WS_appendE hF hc hx hy hT hinf hzs hH hr hs hl hone hb hm fun a2 cap2 Hn' hr2 => hk a2 cap2 Hn' ?_
    obtain ⟨_, h, _⟩ | ⟨b, junk, rfl, rfl, h1, h2, h3⟩ := hr2
    · omega
    · exact ⟨_, _, rfl, h3, .inl ⟨by omega, b, junk, rfl, rfl, h2⟩⟩
end
end Go.Eng
namespace Go.Proofs.YtjekjehgmljbgaaDoor.T
open Go.RowKit Go.Proofs Go.Eng
set_option maxRecDepth 100000
set_option maxHeartbeats 1000000
set_option linter.unusedVariables false
set_option linter.unusedSimpArgs false



theorem hsub_front {A B : List Blk} {x y : Blk} : HSub (A ++ (B ++ [x, y])) (x :: y :: (A ++ B)) := fun _ _ h => h.perm (by rw [← List.append_assoc]; exact List.perm_append_comm (l₁ := [x, y]))
theorem cloneE_any (l : Lg) (ae : Option Addr) (cape : Nat) (w : World) (hnes : l.es.length ≤ 1000000) (he : Ens w ae l.es.length cape l.es) :
    Ct Tryd.prog 147 #[.slice ae l.es.length cape] w (NewRow 77 4 l.es.length (rowOf En.cells l.e l.es.length)) := by
  have hlen : (rowOf En.cells l.e l.es.length).length = l.es.length * 4 := rowOf_len en_len _ _
  have hF := wide_wide
  refine Ct_start (args := [_]) Tryd.func147 (by rfl) Tryd.ntmps147 (by rfl) ?_
  refine W_seq ?_
  refine W_region_lit (fun ds => ?_)
  refine WS_det hF (by rfl) (y_assign (c := .slice _ _ _) (by rfl)) ?_
  refine WS_nil ?_
  refine Then_normal ?_
  refine W_seq ?_
  refine W_seq ?_
  refine W_region_lit (fun ds => ?_)
  refine WS_det hF (by rfl) (y_move (c := .slice _ _ _) (by rfl)) ?_
  refine WS_det hF (by rfl) (y_eqlNil (by rfl) (by rfl) Tryd.runUnderlying64) ?_
  refine WS_nil ?_
  refine Then_normal ?_
  refine W_cond (by rfl) (fun c1 => ?_) (fun c1 => ?_)
  ·
    try simp only [Bool.not_eq_true', Bool.not_eq_false', decide_eq_true_eq, decide_eq_false_iff_not, ne_eq, Classical.not_not, Int.not_lt, Int.not_le] at c1
    refine W_seq ?_
    refine W_region_lit (fun ds => ?_)
    refine WS_det hF (by rfl) (y_assign (c := .slice _ _ _) (by rfl)) ?_
    refine WS_nil ?_
    refine Then_normal ?_
    refine W_ret ?_
    refine Then_ret ?_
    refine Fin_ret [.slice _ _ _] [] Tryd.results147 ⟨by rfl, trivial⟩ HSub.nil ?_
    have h0 : l.es.length = 0 := by
      rcases Nat.eq_zero_or_pos l.es.length with h | h
      · exact h
      · obtain ⟨b, o, rfl, _⟩ := he.cell 0 h
        cases c1
    rw [h0]
    exact ⟨none, 0, rfl, Nat.le_refl _, .inr ⟨rfl, rfl, rfl⟩⟩
  ·
    try simp only [Bool.not_eq_true', Bool.not_eq_false', decide_eq_true_eq, decide_eq_false_iff_not, ne_eq, Classical.not_not, Int.not_lt, Int.not_le] at c1
    refine W_skip ?_
    refine Then_normal ?_
    refine W_seq ?_
    refine W_region_lit (fun ds => ?_)
    refine WS_newS hF (by rfl) (y_buildSliceL bs64_0 (by rfl)) (fun b1 => ?_)
    refine WS_det hF (by rfl) (y_move (c := .slice _ _ _) (by rfl)) ?_
    refine WS_gen hF (by rfl) (y_append0 (by rfl) (by rfl) Tryd.underlying64 infEntry (by rfl) (Rws.src en_len he) hlen (by omega) (by omega)) ?_
    rintro _ Hc ⟨a', cap', rfl, hle, hd⟩
    refine WS_det hF (by rfl) (y_assign (c := .slice _ _ _) (by rfl)) ?_
    refine WS_nil ?_
    refine Then_normal ?_
    refine W_ret ?_
    refine Fin_ret [.slice _ _ _] Hc Tryd.results147 ⟨by rfl, trivial⟩ (HSub.sub (by repeat (first | exact List.Sublist.refl _ | exact List.sublist_append_left _ _ | exact List.nil_sublist _ | apply List.Sublist.cons_cons | apply List.Sublist.cons | refine List.Sublist.trans ?_ (List.sublist_append_right _ _)))) ?_
    exact ⟨a', cap', rfl, hle, hd⟩
theorem copied_any (l : Lg) (a : Option Addr) (cap : Nat) (ae : Option Addr) (cape : Nat) (w : World) (hnes : l.es.length ≤ 1000000) (h0 : 0 < l.tk.n) (hn : l.tk.n ≤ 1000000) (hx : Ints w a l.tk.n cap l.tk.pints) (he : Ens w ae l.es.length cape l.es) : Ct Tryd.prog 118 #[.agg #[.slice a l.tk.n cap, .int .i64 l.tk.leak, .int .i64 l.tk.foot, .int .i64 l.start.lo, .int .i64 l.start.hi, .slice ae l.es.length cape]] w (TwinL l) := by
  have hnn : a = none ∧ l.tk.n = 0 ∨ a ≠ none ∧ 0 < l.tk.n := .inr ⟨by obtain ⟨b, o, rfl, _⟩ := hx.cell 0 h0; simp, h0⟩
  have hF := wide_wide
  refine Ct_start (args := [_]) Tryd.func118 (by rfl) Tryd.ntmps118 (by rfl) ?_
  refine W_seq ?_
  refine W_region_lit (fun ds => ?_)
  refine WS_new hF (by rfl) (y_box (by rfl)) (fun b1 => ?_)
  refine WS_new hF (by rfl) (y_alloc Tryd.zeroValue66 (by rfl)) (fun b2 => ?_)
  refine WS_nil ?_
  refine Then_normal ?_
  refine W_seq ?_
  apply W_drawMT 9 hF Trydmixed [] [] [] (by rfl) (by decide +kernel) (by decide) HSub.refl
  intro ds
  refine P_det (by rfl) (Over_nil (y_fieldAddr (by rfl) fa66_0)) ?_
  refine P_det (by rfl) (Over_nil (y_fieldAddr (by rfl) fa61_0)) ?_
  refine P_det (by rfl) (Over_nil (y_load1 (by rfl) Tryd.isAgg22 (Mem.own1 1 (by rfl) (by rfl)))) ?_
  refine P_new (by rfl) (by rfl) (Over_nil (y_callL (by rfl) (by rfl) Tryd.call78 (fun w hw => clone_any a l.tk.n cap l.tk.pints w (hx.st w hw) hn hnn))) ?_
  refine P_det (by rfl) (Over_out (by rfl) (Over_nil (y_fieldAddr (by rfl) fa66_2))) ?_
  refine P_det (by rfl) (Over_out (by rfl) (Over_nil (y_load1 (by rfl) Tryd.isAgg64 (Mem.own1 1 (by rfl) (by rfl))))) ?_
  refine P_new (by rfl) (by rfl) (Over_out (by rfl) (Over_nil (y_callL (by rfl) (by rfl) Tryd.call147 (fun w hw => cloneE_any l ae cape w hnes (he.st w hw))))) ?_
  refine P_det (by rfl) (Over_out (by rfl) (Over_out (by rfl) (Over_nil (y_fieldAddr (by rfl) fa66_0)))) ?_
  refine P_det (by rfl) (Over_out (by rfl) (Over_out (by rfl) (Over_nil (y_fieldAddr (by rfl) fa61_0)))) ?_
  refine PW_end (by rfl) ?_
  refine OverAll_cons (fun w9 l9 => ?_)
  refine OverAll_cons (fun w6 l6 => ?_)
  refine OverAll_nil ?_
  rintro ⟨⟨-, h9⟩, h6⟩
  obtain ⟨a1, cap1, rfl, hr1, _⟩ := h6
  obtain ⟨a2, cap2, rfl, hle2, hd2⟩ := h9
  refine WS_sub hsub_front ?_
  refine WS_store hF (i := 1) (by rfl) (by rfl) Tryd.sizeOf22 (by rfl) (by rfl) (by rfl) (by first | decide | exact Nat.le_of_ble_eq_true rfl | simp) ?_
  refine WS_det hF (by rfl) (y_fieldAddr (by rfl) fa66_2) ?_
  refine WS_store hF (i := 1) (by rfl) (by rfl) Tryd.sizeOf64 (by rfl) (by rfl) (by rfl) (by first | decide | exact Nat.le_of_ble_eq_true rfl | simp) ?_
  refine WS_nil ?_
  refine Then_normal ?_
  refine W_seq ?_
  refine W_region_lit (fun ds => ?_)
  refine WS_det hF (by rfl) (y_loadN (by rfl) Tryd.isAgg66 Tryd.sizeOf66 (Mem.own (us := [.slice _ _ _, .int .i64 _, .int .i64 _, .int .i64 _, .int .i64 _, .slice _ _ _]) 1 (by rfl) (by rfl)) (by rfl)) ?_
  refine WS_store hF (i := 0) (by rfl) (by rfl) Tryd.sizeOf66 (by rfl) (by rfl) (by rfl) (by first | decide | exact Nat.le_of_ble_eq_true rfl | simp) ?_
  refine WS_nil ?_
  refine Then_normal ?_
  refine W_ret ?_
  refine Fin_ret [_] (l6 ++ l9) Tryd.results118 ⟨lvN (by rfl) Tryd.isAgg66 Tryd.sizeOf66 (Mem.own (us := [.slice _ _ _, .int .i64 _, .int .i64 _, .int .i64 _, .int .i64 _, .slice _ _ _]) 0 (by rfl) (by rfl)) (by rfl), trivial⟩ (HSub.sub (by repeat (first | exact List.Sublist.refl _ | exact List.sublist_append_left _ _ | exact List.nil_sublist _ | apply List.Sublist.cons_cons | apply List.Sublist.cons | refine List.Sublist.trans ?_ (List.sublist_append_right _ _)))) ?_
  exact ⟨a1, cap1, a2, cap2, _, _, rfl, Row.newRow hr1 h0, ⟨_, _, rfl, hle2, hd2⟩, rfl⟩
/-- A log with an entry more. -/
def Lg.put (l : Lg) (x : En) : Lg := ⟨l.tk, l.start, l.es ++ [x]⟩
theorem Lg.put_len (l : Lg) (x : En) : (l.put x).es.length = l.es.length + 1 := by unfold Lg.put; simp
theorem Lg.put_row (l : Lg) (x : En) : rowOf En.cells (l.put x).e (l.es.length + 1) = rowOf En.cells l.e l.es.length ++ x.cells := by
  rw [rowOf_succ]
  congr 1
  · refine rowOf_congr _ fun k hk => ?_
    unfold Lg.e Lg.put
    simp only [List.getD_eq_getElem?_getD, List.getElem?_append_left hk]
  · unfold Lg.e Lg.put
    simp
/-- Add's error. -/
def Lg.addE (l : Lg) (x : En) : Int := if l.err = 0 then if l.es.length = 12 then 9 else if (l.put x).err = 0 then 0 else 32 else l.err
def zeroLg : Value := .agg #[.slice none 0 0, .int .i64 0, .int .i64 0, .int .i64 0, .int .i64 0, .slice none 0 0]
def AddV (l : Lg) (x : En) (v : Value) (Hn : List Blk) : Prop :=
  ∃ v0, v = .tuple #[v0, .int .i64 (l.addE x)] ∧ (l.addE x ≠ 0 → v0 = zeroLg ∧ Hn = []) ∧ (l.addE x = 0 → TwinL (l.put x) v0 Hn)
end Go.Proofs.YtjekjehgmljbgaaDoor.T

/- Changes: logs with an entry more, and without some: the walks of Add and Strike. -/
namespace Go.Proofs.YtjekjehgmljbgaaDoor.T
open Go.RowKit Go.Proofs Go.Eng
set_option maxRecDepth 100000
set_option maxHeartbeats 1000000
set_option linter.unusedVariables false
set_option linter.unusedSimpArgs false

theorem bd66  : ∀ w, (Instr.build 66 #[]).run Tryd.prog w = .ok (.agg #[.slice none 0 0, .int .i64 0, .int .i64 0, .int .i64 0, .int .i64 0, .slice none 0 0]) w := fun w => by kernel_rfl

theorem add_any (l : Lg) (a : Option Addr) (cap : Nat) (ae : Option Addr) (cape : Nat) (x : En) (w : World) (hn : l.tk.n ≤ 1000000) (hx : Ints w a l.tk.n cap l.tk.pints) (he : Ens w ae l.es.length cape l.es) : Ct Tryd.prog 82 #[.agg #[.slice a l.tk.n cap, .int .i64 l.tk.leak, .int .i64 l.tk.foot, .int .i64 l.start.lo, .int .i64 l.start.hi, .slice ae l.es.length cape], .agg x.cells.toArray] w (AddV l x) := by
  have hF := wide_wide
  refine Ct_start (args := [_, _]) Tryd.func82 (by rfl) Tryd.ntmps82 (by rfl) ?_
  refine W_seq ?_
  refine W_region_lit (fun ds => ?_)
  refine WS_new hF (by rfl) (y_box (by rfl)) (fun b1 => ?_)
  refine WS_new hF (by rfl) (y_box (by rfl)) (fun b2 => ?_)
  refine WS_new hF (by rfl) (y_alloc Tryd.zeroValue66 (by rfl)) (fun b3 => ?_)
  refine WS_det hF (by rfl) (y_assign (c := .int .i64 _) (by rfl)) ?_
  refine WS_nil ?_
  refine Then_normal ?_
  refine W_seq ?_
  refine W_seq ?_
  refine W_region_lit (fun ds => ?_)
  refine WS_det hF (by rfl) (y_loadN (by rfl) Tryd.isAgg66 Tryd.sizeOf66 (Mem.own (us := [.slice _ _ _, .int .i64 _, .int .i64 _, .int .i64 _, .int .i64 _, .slice _ _ _]) 2 (by rfl) (by rfl)) (by rfl)) ?_
  refine WS_det hF (by rfl) (y_callL (by rfl) (by rfl) Tryd.call80 (fun w hw => valid_any l a cap ae cape w hn (hx.st w hw) (he.st w hw))) ?_
  refine WS_det hF (by rfl) (y_assign (c := .int .i64 _) (by rfl)) ?_
  refine WS_nil ?_
  refine Then_normal ?_
  refine W_seq ?_
  refine W_region_lit (fun ds => ?_)
  refine WS_det hF (by rfl) (y_move (c := .int .i64 _) (by rfl)) ?_
  refine WS_det hF (by rfl) (y_neq (by rfl) (by rfl)) ?_
  refine WS_nil ?_
  refine Then_normal ?_
  refine W_cond (by rfl) (fun c2 => ?_) (fun c2 => ?_)
  ·
    try simp only [Bool.not_eq_true', Bool.not_eq_false', decide_eq_true_eq, decide_eq_false_iff_not, ne_eq, Classical.not_not, Int.not_lt, Int.not_le] at c2
    refine W_seq ?_
    refine W_region_lit (fun ds => ?_)
    refine WS_det hF (by rfl) (y_buildL bd66 (by rfl)) ?_
    refine WS_det hF (by rfl) (y_move (c := .int .i64 _) (by rfl)) ?_
    refine WS_store hF (i := 0) (by rfl) (by rfl) Tryd.sizeOf66 (by rfl) (by rfl) (by rfl) (by first | decide | exact Nat.le_of_ble_eq_true rfl | simp) ?_
    refine WS_det hF (by rfl) (y_assign (c := .int .i64 _) (by rfl)) ?_
    refine WS_nil ?_
    refine Then_normal ?_
    refine W_ret ?_
    refine Then_ret ?_
    refine Fin_ret [_, .int .i64 _] [] Tryd.results82 ⟨lvN (by rfl) Tryd.isAgg66 Tryd.sizeOf66 (Mem.own (us := [.slice _ _ _, .int .i64 _, .int .i64 _, .int .i64 _, .int .i64 _, .slice _ _ _]) 0 (by rfl) (by rfl)) (by rfl), by rfl, trivial⟩ HSub.nil ?_
    have hE : l.addE x = l.err := if_neg c2
    exact ⟨zeroLg, by rw [hE]; rfl, fun _ => ⟨rfl, rfl⟩, fun h => absurd (hE ▸ h) c2⟩
  ·
    try simp only [Bool.not_eq_true', Bool.not_eq_false', decide_eq_true_eq, decide_eq_false_iff_not, ne_eq, Classical.not_not, Int.not_lt, Int.not_le] at c2
    have hok := l.ok_of c2
    have hn12 := hok.n12
    have hn2 := hok.tk.n2
    refine W_skip ?_
    refine Then_normal ?_
    refine W_seq ?_
    refine W_seq ?_
    refine W_region_lit (fun ds => ?_)
    refine WS_det hF (by rfl) (y_fieldAddr (by rfl) fa66_2) ?_
    refine WS_det hF (by rfl) (y_load1 (by rfl) Tryd.isAgg64 (Mem.own1 2 (by rfl) (by rfl))) ?_
    refine WS_det hF (by rfl) (y_len (by rfl) Tryd.runUnderlying64) ?_
    refine WS_det hF (by rfl) (y_eql (by rfl) (by rfl)) ?_
    refine WS_nil ?_
    refine Then_normal ?_
    refine W_cond (by rfl) (fun c4 => ?_) (fun c4 => ?_)
    ·
      try simp only [Bool.not_eq_true', Bool.not_eq_false', decide_eq_true_eq, decide_eq_false_iff_not, ne_eq, Classical.not_not, Int.not_lt, Int.not_le] at c4
      refine W_seq ?_
      refine W_region_lit (fun ds => ?_)
      refine WS_det hF (by rfl) (y_buildL bd66 (by rfl)) ?_
      refine WS_store hF (i := 0) (by rfl) (by rfl) Tryd.sizeOf66 (by rfl) (by rfl) (by rfl) (by first | decide | exact Nat.le_of_ble_eq_true rfl | simp) ?_
      refine WS_det hF (by rfl) (y_assign (c := .int .i64 _) (by rfl)) ?_
      refine WS_nil ?_
      refine Then_normal ?_
      refine W_ret ?_
      refine Then_ret ?_
      refine Fin_ret [_, .int .i64 _] [] Tryd.results82 ⟨lvN (by rfl) Tryd.isAgg66 Tryd.sizeOf66 (Mem.own (us := [.slice _ _ _, .int .i64 _, .int .i64 _, .int .i64 _, .int .i64 _, .slice _ _ _]) 0 (by rfl) (by rfl)) (by rfl), by rfl, trivial⟩ HSub.nil ?_
      have hE : l.addE x = 9 := by unfold Lg.addE; rw [if_pos c2, if_pos (by omega)]
      exact ⟨zeroLg, by rw [hE]; rfl, fun _ => ⟨rfl, rfl⟩, fun h => absurd (hE ▸ h) (by decide)⟩
    ·
      try simp only [Bool.not_eq_true', Bool.not_eq_false', decide_eq_true_eq, decide_eq_false_iff_not, ne_eq, Classical.not_not, Int.not_lt, Int.not_le] at c4
      refine W_skip ?_
      refine Then_normal ?_
      refine W_seq ?_
      refine W_region_lit (fun ds => ?_)
      refine WS_det hF (by rfl) (y_loadN (by rfl) Tryd.isAgg66 Tryd.sizeOf66 (Mem.own (us := [.slice _ _ _, .int .i64 _, .int .i64 _, .int .i64 _, .int .i64 _, .slice _ _ _]) 2 (by rfl) (by rfl)) (by rfl)) ?_
      refine WS_gen hF (by rfl) (y_callL (by rfl) (by rfl) Tryd.call118 (fun w hw => copied_any l a cap ae cape w (by omega) (by omega) hn (hx.st w hw) (he.st w hw))) ?_
      rintro _ _ ⟨a1, cap1, a2, cap2, H1, H2, rfl, hr1, hr2, rfl⟩
      refine WS_back ?_
      refine WS_store hF (i := 2) (by rfl) (by rfl) Tryd.sizeOf66 (by rfl) (by rfl) (by rfl) (by first | decide | exact Nat.le_of_ble_eq_true rfl | simp) ?_
      refine WS_nil ?_
      refine Then_normal ?_
      refine W_seq ?_
      refine W_region_lit (fun ds => ?_)
      refine WS_det hF (by rfl) (y_fieldAddr (by rfl) fa66_2) ?_
      refine WS_det hF (by rfl) (y_load1 (by rfl) Tryd.isAgg64 (Mem.own1 2 (by rfl) (by rfl))) ?_
      refine WS_det hF (by rfl) (y_loadN (by rfl) Tryd.isAgg77 Tryd.sizeOf77 (Mem.own (us := [.int .i64 _, .int .i64 _, .int .i64 _, .int .i64 _]) 1 (by rfl) (by rfl)) (by rfl)) ?_
      refine WS_newS hF (by rfl) (y_buildSliceL bs64_1_0 (by rfl)) (fun b4 => ?_)
      refine WS_appendN hF (H1 := (_ :: _ :: _ :: _ :: H1)) (Hn := H2) (by rfl) (by rfl) (by rfl) Tryd.underlying64 infEntry (by rfl) (by rfl) hr2 (rowOf_len en_len _ _) (.inr ⟨_, _, rfl, Mem.own (us := [.int _ _, .int _ _, .int _ _, .int _ _]) 0 (by rfl) (by rfl)⟩) (by rfl) (by rfl) (by omega) (by omega) (by omega) ?_
      intro a3 cap3 H3 hr3
      have hr4 : NewRow 77 4 (l.put x).es.length (rowOf En.cells (l.put x).e (l.put x).es.length) (.slice a3 (l.put x).es.length cap3) H3 := by
        rw [l.put_len, l.put_row]; exact hr3
      rw [show l.es.length + 1 = (l.put x).es.length from (l.put_len x).symm]
      refine WS_det hF (by rfl) (y_fieldAddr (by rfl) fa66_2) ?_
      refine WS_store hF (i := 3) (by rfl) (by rfl) Tryd.sizeOf64 (by rfl) (by rfl) (by rfl) (by first | decide | exact Nat.le_of_ble_eq_true rfl | simp) ?_
      refine WS_nil ?_
      refine Then_normal ?_
      refine W_seq ?_
      refine W_seq ?_
      refine W_region_lit (fun ds => ?_)
      refine WS_det hF (by rfl) (y_loadN (by rfl) Tryd.isAgg66 Tryd.sizeOf66 (Mem.own (us := [.slice _ _ _, .int .i64 _, .int .i64 _, .int .i64 _, .int .i64 _, .slice _ _ _]) 3 (by rfl) (by rfl)) (by rfl)) ?_
      refine WS_det hF (by rfl) (y_callL (by rfl) (by rfl) Tryd.call80 (fun w hw => valid_any (l.put x) a1 cap1 a3 cap3 w hn (NewRow.ints hr1 hx.len (by repeat (first | exact List.Sublist.refl _ | exact List.sublist_append_left _ _ | exact List.nil_sublist _ | apply List.Sublist.cons_cons | apply List.Sublist.cons | refine List.Sublist.trans ?_ (List.sublist_append_right _ _))) w hw) (NewRow.rws en_len hr4 rfl (by repeat (first | exact List.Sublist.refl _ | exact List.sublist_append_left _ _ | exact List.nil_sublist _ | apply List.Sublist.cons_cons | apply List.Sublist.cons | refine List.Sublist.trans ?_ (List.sublist_append_right _ _))) w hw))) ?_
      refine WS_det hF (by rfl) (y_neq (by rfl) (by rfl)) ?_
      refine WS_nil ?_
      refine Then_normal ?_
      refine W_cond (by rfl) (fun c8 => ?_) (fun c8 => ?_)
      ·
        try simp only [Bool.not_eq_true', Bool.not_eq_false', decide_eq_true_eq, decide_eq_false_iff_not, ne_eq, Classical.not_not, Int.not_lt, Int.not_le] at c8
        refine W_seq ?_
        refine W_region_lit (fun ds => ?_)
        refine WS_det hF (by rfl) (y_buildL bd66 (by rfl)) ?_
        refine WS_store hF (i := 1) (by rfl) (by rfl) Tryd.sizeOf66 (by rfl) (by rfl) (by rfl) (by first | decide | exact Nat.le_of_ble_eq_true rfl | simp) ?_
        refine WS_det hF (by rfl) (y_assign (c := .int .i64 _) (by rfl)) ?_
        refine WS_nil ?_
        refine Then_normal ?_
        refine W_ret ?_
        refine Then_ret ?_
        refine Fin_ret [_, .int .i64 _] [] Tryd.results82 ⟨lvN (by rfl) Tryd.isAgg66 Tryd.sizeOf66 (Mem.own (us := [.slice _ _ _, .int .i64 _, .int .i64 _, .int .i64 _, .int .i64 _, .slice _ _ _]) 1 (by rfl) (by rfl)) (by rfl), by rfl, trivial⟩ HSub.nil ?_
        have hE : l.addE x = 32 := by unfold Lg.addE; rw [if_pos c2, if_neg (by omega), if_neg c8]
        exact ⟨zeroLg, by rw [hE]; rfl, fun _ => ⟨rfl, rfl⟩, fun h => absurd (hE ▸ h) (by decide)⟩
      ·
        try simp only [Bool.not_eq_true', Bool.not_eq_false', decide_eq_true_eq, decide_eq_false_iff_not, ne_eq, Classical.not_not, Int.not_lt, Int.not_le] at c8
        refine W_skip ?_
        refine Then_normal ?_
        refine W_seq ?_
        refine W_region_lit (fun ds => ?_)
        refine WS_det hF (by rfl) (y_loadN (by rfl) Tryd.isAgg66 Tryd.sizeOf66 (Mem.own (us := [.slice _ _ _, .int .i64 _, .int .i64 _, .int .i64 _, .int .i64 _, .slice _ _ _]) 3 (by rfl) (by rfl)) (by rfl)) ?_
        refine WS_store hF (i := 1) (by rfl) (by rfl) Tryd.sizeOf66 (by rfl) (by rfl) (by rfl) (by first | decide | exact Nat.le_of_ble_eq_true rfl | simp) ?_
        refine WS_det hF (by rfl) (y_assign (c := .int .i64 _) (by rfl)) ?_
        refine WS_nil ?_
        refine Then_normal ?_
        refine W_ret ?_
        refine Fin_ret [_, .int .i64 _] (H1 ++ H3) Tryd.results82 ⟨lvN (by rfl) Tryd.isAgg66 Tryd.sizeOf66 (Mem.own (us := [.slice _ _ _, .int .i64 _, .int .i64 _, .int .i64 _, .int .i64 _, .slice _ _ _]) 1 (by rfl) (by rfl)) (by rfl), by rfl, trivial⟩ (HSub.sub (by repeat (first | exact List.Sublist.refl _ | exact List.sublist_append_left _ _ | exact List.nil_sublist _ | apply List.Sublist.cons_cons | apply List.Sublist.cons | refine List.Sublist.trans ?_ (List.sublist_append_right _ _)))) ?_
        have hE : l.addE x = 0 := by unfold Lg.addE; rw [if_pos c2, if_neg (by omega), if_pos c8]
        exact ⟨_, by rw [hE]; rfl, fun h => absurd hE h, fun _ => ⟨a1, cap1, a3, cap3, H1, H3, rfl, hr1, hr4, rfl⟩⟩
def prevD (D : List Int) : Nat → Int
  | 0 => 0
  | j + 1 => D.getD j 0
def okT (n : Int) (D : List Int) (j : Nat) : Bool := inB (prevD D j + 1) n [D.getD j 0]
theorem prev_bd {n : Int} {D : List Int} (hn : 0 ≤ n) : ∀ k, (∀ j, j < k → okT n D j = true) → 0 ≤ prevD D k ∧ prevD D k ≤ n
  | 0, _ => ⟨Int.le_refl _, hn⟩
  | k + 1, h => by
    have h1 := prev_bd hn k fun j hj => h j (by omega)
    have h2 := inB1.1 (h k (by omega))
    show 0 ≤ D.getD k 0 ∧ D.getD k 0 ≤ n
    omega
def Lg.strE (l : Lg) (D : List Int) : Int := if l.err = 0 then if (List.range D.length).all (okT l.es.length D) = true then 0 else 32 else l.err
theorem Lg.strE_ok {l : Lg} {D : List Int} (h : l.err = 0) (hk : ∀ j, j < D.length → okT l.es.length D j = true) : l.strE D = 0 := by
  unfold Lg.strE
  rw [if_pos h, if_pos (List.all_eq_true.2 fun j hj => hk j (List.mem_range.1 hj))]
theorem Lg.strE_no {l : Lg} {D : List Int} {k : Nat} (h : l.err = 0) (hk : k < D.length) (hb : okT l.es.length D k = false) : l.strE D = 32 := by
  unfold Lg.strE
  rw [if_pos h, if_neg fun hall => ?_]
  rw [List.all_eq_true.1 hall k (List.mem_range.2 hk)] at hb
  cases hb
def StrikeV (l : Lg) (D : List Int) (v : Value) (Hn : List Blk) : Prop :=
  ∃ v0, v = .tuple #[v0, .int .i64 (l.strE D)] ∧ (l.strE D ≠ 0 → v0 = zeroLg ∧ Hn = []) ∧ (l.strE D = 0 → TwinL (l.wo D) v0 Hn)
theorem strike_any (l : Lg) (a : Option Addr) (cap : Nat) (ae : Option Addr) (cape : Nat) (ta : Option Addr) (tn tcap : Nat) (D : List Int) (w : World) (htn : tn ≤ 1000000) (hD : Ints w ta tn tcap D) (hn : l.tk.n ≤ 1000000) (hx : Ints w a l.tk.n cap l.tk.pints) (he : Ens w ae l.es.length cape l.es) : Ct Tryd.prog 81 #[.agg #[.slice a l.tk.n cap, .int .i64 l.tk.leak, .int .i64 l.tk.foot, .int .i64 l.start.lo, .int .i64 l.start.hi, .slice ae l.es.length cape], .slice ta tn tcap] w (StrikeV l D) := by
  have hDl := hD.len
  have hF := wide_wide
  refine Ct_start (args := [_, _]) Tryd.func81 (by rfl) Tryd.ntmps81 (by rfl) ?_
  refine W_seq ?_
  refine W_region_lit (fun ds => ?_)
  refine WS_new hF (by rfl) (y_box (by rfl)) (fun b1 => ?_)
  refine WS_new hF (by rfl) (y_alloc Tryd.zeroValue66 (by rfl)) (fun b2 => ?_)
  refine WS_det hF (by rfl) (y_assign (c := .int .i64 _) (by rfl)) ?_
  refine WS_nil ?_
  refine Then_normal ?_
  refine W_seq ?_
  refine W_region_lit (fun ds => ?_)
  refine WS_det hF (by rfl) (y_loadN (by rfl) Tryd.isAgg66 Tryd.sizeOf66 (Mem.own (us := [.slice _ _ _, .int .i64 _, .int .i64 _, .int .i64 _, .int .i64 _, .slice _ _ _]) 1 (by rfl) (by rfl)) (by rfl)) ?_
  refine WS_gen hF (by rfl) (y_callL (by rfl) (by rfl) Tryd.call116 (fun w hw => opened_any l a cap ae cape w hn (hx.st w hw) (he.st w hw))) ?_
  rintro _ Hg ⟨p, rfl, hg1, hg2⟩
  refine WS_det hF (by rfl) (y_move (c := .tuple _) (by rfl)) ?_
  refine WS_det hF (by rfl) (y_extract (c := .pointer _) (by rfl) (by rfl)) ?_
  refine WS_det hF (by rfl) (y_extract (c := .int .i64 _) (by rfl) (by rfl)) ?_
  refine WS_det hF (by rfl) (y_assign (c := .pointer _) (by rfl)) ?_
  refine WS_det hF (by rfl) (y_assign (c := .int .i64 _) (by rfl)) ?_
  refine WS_nil ?_
  refine Then_normal ?_
  refine W_seq ?_
  refine W_seq ?_
  refine W_region_lit (fun ds => ?_)
  refine WS_det hF (by rfl) (y_move (c := .int .i64 _) (by rfl)) ?_
  refine WS_det hF (by rfl) (y_neq (by rfl) (by rfl)) ?_
  refine WS_nil ?_
  refine Then_normal ?_
  refine W_cond (by rfl) (fun c2 => ?_) (fun c2 => ?_)
  ·
    try simp only [Bool.not_eq_true', Bool.not_eq_false', decide_eq_true_eq, decide_eq_false_iff_not, ne_eq, Classical.not_not, Int.not_lt, Int.not_le] at c2
    obtain rfl := hg2 c2
    refine W_seq ?_
    refine W_region_lit (fun ds => ?_)
    refine WS_det hF (by rfl) (y_buildL bd66 (by rfl)) ?_
    refine WS_det hF (by rfl) (y_move (c := .int .i64 _) (by rfl)) ?_
    refine WS_store hF (i := 0) (by rfl) (by rfl) Tryd.sizeOf66 (by rfl) (by rfl) (by rfl) (by first | decide | exact Nat.le_of_ble_eq_true rfl | simp) ?_
    refine WS_det hF (by rfl) (y_assign (c := .int .i64 _) (by rfl)) ?_
    refine WS_nil ?_
    refine Then_normal ?_
    refine W_ret ?_
    refine Then_ret ?_
    refine Fin_ret [_, .int .i64 _] [] Tryd.results81 ⟨lvN (by rfl) Tryd.isAgg66 Tryd.sizeOf66 (Mem.own (us := [.slice _ _ _, .int .i64 _, .int .i64 _, .int .i64 _, .int .i64 _, .slice _ _ _]) 0 (by rfl) (by rfl)) (by rfl), by rfl, trivial⟩ HSub.nil ?_
    have hE : l.strE D = l.err := if_neg c2
    exact ⟨zeroLg, by rw [hE]; rfl, fun _ => ⟨rfl, rfl⟩, fun h => absurd (hE ▸ h) c2⟩
  ·
    try simp only [Bool.not_eq_true', Bool.not_eq_false', decide_eq_true_eq, decide_eq_false_iff_not, ne_eq, Classical.not_not, Int.not_lt, Int.not_le] at c2
    obtain ⟨g, bk, rfl, rfl⟩ := hg1 c2
    have hok := l.ok_of c2
    have hn12 := hok.n12
    have hn2 := hok.tk.n2
    refine W_skip ?_
    refine Then_normal ?_
    refine W_seq ?_
    refine W_region_lit (fun ds => ?_)
    refine WS_det hF (by rfl) (y_assign (c := .int .i64 _) (by rfl)) ?_
    refine WS_nil ?_
    refine Then_normal ?_
    refine W_seq ?_
    refine W_seq ?_
    refine W_region_lit (fun ds => ?_)
    refine WS_det hF (by rfl) (y_move (c := .slice _ _ _) (by rfl)) ?_
    refine WS_det hF (by rfl) (y_len (by rfl) Tryd.runUnderlying22) ?_
    refine WS_det hF (by rfl) (y_move (c := .int .i64 _) (by rfl)) ?_
    refine WS_nil ?_
    refine Then_normal ?_
    refine W_block ?_
    refine W_loop (γ := Nat) (fun k => k ≤ tn ∧ ∀ j, j < k → okT l.es.length D j = true) (fun k => [(1, .slice ta tn tcap), (2, .pointer (some ⟨b1, 0, none⟩)), (4, .pointer (some ⟨b2, 0, none⟩)), (6, .pointer (some ⟨bk, 0, none⟩)), (8, .int .i64 (prevD D k)), (20, .slice ta tn tcap), (21, .int .i64 (tn : Int)), (22, .int .i64 (k : Int))]) (fun _ => _) (fun k => tn - k) (0) ⟨Nat.zero_le _, fun j hj => absurd hj (by omega)⟩ (by repeat (first | exact trivial | refine ⟨by rfl, ?_⟩)) (List.Sublist.refl _) ?_
    rintro k e ⟨hk, hp⟩
    refine W_seq ?_
    refine W_region_lit (fun ds => ?_)
    refine WS_det hF (by rfl) (y_lss (by rfl) (by rfl)) ?_
    refine WS_nil ?_
    refine Then_normal ?_
    refine W_seq ?_
    refine W_cond (by rfl) (fun c6 => ?_) (fun c6 => ?_)
    ·
      try simp only [Bool.not_eq_true', Bool.not_eq_false', decide_eq_true_eq, decide_eq_false_iff_not, ne_eq, Classical.not_not, Int.not_lt, Int.not_le] at c6
      obtain ⟨tb, to, rfl, htc⟩ := hD.cell k (by omega)
      have hpb := prev_bd (n := l.es.length) (D := D) (by omega) k hp
      refine W_skip ?_
      refine Then_normal ?_
      refine W_seq ?_
      refine W_block ?_
      refine W_seq ?_
      refine W_region_lit (fun ds => ?_)
      refine WS_det hF (by rfl) (y_index (k := k) (by rfl) (by rfl) (by first | rfl | omega) (by first | decide | omega) Tryd.runUnderlying22 Tryd.sizeOf3) ?_
      refine WS_det hF (by rfl) (y_load1 (by rfl) Tryd.isAgg3 (by first | exact Mem.old1 (by assumption) | exact Mem.oldAt1 (by assumption) (by rfl) | exact Mem.old (by assumption) | exact Mem.oldAtL1 (by assumption) (by rfl) (by rfl))) ?_
      refine WS_det hF (by rfl) (y_assign (c := .int .i64 _) (by rfl)) ?_
      refine WS_nil ?_
      refine Then_normal ?_
      refine W_seq ?_
      refine W_seq ?_
      refine W_region_lit (fun ds => ?_)
      refine WS_det hF (by rfl) (y_move (c := .int .i64 _) (by rfl)) ?_
      refine WS_det hF (by rfl) (y_add (by rfl) (by rfl) (by unfold I64; omega)) ?_
      refine WS_det hF (by rfl) (y_fieldAddr (by rfl) fa66_2) ?_
      refine WS_det hF (by rfl) (y_load1 (by rfl) Tryd.isAgg64 (Mem.own1 3 (by rfl) (by rfl))) ?_
      refine WS_det hF (by rfl) (y_len (by rfl) Tryd.runUnderlying64) ?_
      refine WS_det hF (by rfl) (y_move (c := .int .i64 _) (by rfl)) ?_
      refine WS_newS hF (by rfl) (y_buildSliceL bs22_1_0 (by rfl)) (fun b3 => ?_)
      refine WS_det hF (by rfl) (y_callL (by rfl) (by rfl) Tryd.call117 (fun w hw => in_any _ _ _ _ _ _ w (by decide) (by first | exact Ints.one 0 rfl w hw | exact Ints.two 0 rfl w hw))) ?_
      refine WS_det hF (by rfl) (y_not (by rfl)) ?_
      refine WS_nil ?_
      refine Then_normal ?_
      refine W_cond (by rfl) (fun c8 => ?_) (fun c8 => ?_)
      ·
        try simp only [Bool.not_eq_true', Bool.not_eq_false', decide_eq_true_eq, decide_eq_false_iff_not, ne_eq, Classical.not_not, Int.not_lt, Int.not_le] at c8
        refine W_seq ?_
        refine W_region_lit (fun ds => ?_)
        refine WS_det hF (by rfl) (y_buildL bd66 (by rfl)) ?_
        refine WS_store hF (i := 3) (by rfl) (by rfl) Tryd.sizeOf66 (by rfl) (by rfl) (by rfl) (by first | decide | exact Nat.le_of_ble_eq_true rfl | simp) ?_
        refine WS_det hF (by rfl) (y_assign (c := .int .i64 _) (by rfl)) ?_
        refine WS_nil ?_
        refine Then_normal ?_
        refine W_ret ?_
        refine Then_ret ?_
        refine InB_ret ?_
        refine Then_ret ?_
        refine Loop_ret ?_
        refine InB_ret ?_
        refine Then_ret ?_
        refine Fin_ret [_, .int .i64 _] [] Tryd.results81 ⟨lvN (by rfl) Tryd.isAgg66 Tryd.sizeOf66 (Mem.own (us := [.slice _ _ _, .int .i64 _, .int .i64 _, .int .i64 _, .int .i64 _, .slice _ _ _]) 3 (by rfl) (by rfl)) (by rfl), by rfl, trivial⟩ HSub.nil ?_
        have hE : l.strE D = 32 := Lg.strE_no c2 (k := k) (by omega) c8
        exact ⟨zeroLg, by rw [hE]; rfl, fun _ => ⟨rfl, rfl⟩, fun h => absurd (hE ▸ h) (by decide)⟩
      ·
        try simp only [Bool.not_eq_true', Bool.not_eq_false', decide_eq_true_eq, decide_eq_false_iff_not, ne_eq, Classical.not_not, Int.not_lt, Int.not_le] at c8
        have hp2 : ∀ j, j < k + 1 → okT l.es.length D j = true := fun j hj => by
          obtain hj | rfl : j < k ∨ j = k := by omega
          · exact hp j hj
          · exact c8
        refine W_skip ?_
        refine Then_normal ?_
        refine W_region_lit (fun ds => ?_)
        refine WS_det hF (by rfl) (y_move (c := .int .i64 _) (by rfl)) ?_
        refine WS_det hF (by rfl) (y_assign (c := .int .i64 _) (by rfl)) ?_
        refine WS_nil ?_
        refine InB_normal ?_
        refine Then_normal ?_
        refine W_region_lit (fun ds => ?_)
        refine WS_det hF (by rfl) (y_add (by rfl) (by rfl) (by unfold I64; omega)) ?_
        refine WS_det hF (by rfl) (y_move (c := .int .i64 _) (by rfl)) ?_
        refine WS_nil ?_
        exact Loop_next (k + 1) ⟨by omega, hp2⟩ (by repeat (first | exact trivial | refine ⟨by rfl, ?_⟩)) (by repeat (first | exact List.Sublist.refl _ | exact List.nil_sublist _ | apply List.Sublist.cons_cons | apply List.Sublist.cons)) (by omega)
    ·
      try simp only [Bool.not_eq_true', Bool.not_eq_false', decide_eq_true_eq, decide_eq_false_iff_not, ne_eq, Classical.not_not, Int.not_lt, Int.not_le] at c6
      refine W_exit ?_
      refine Then_exit ?_
      refine Loop_exit ?_
      refine InB_same ?_
      refine Then_normal ?_
      refine W_seq ?_
      refine W_region_lit (fun ds => ?_)
      refine WS_det hF (by rfl) (y_move (c := .pointer _) (by rfl)) ?_
      refine WS_det hF (by rfl) (y_move (c := .slice _ _ _) (by rfl)) ?_
      refine WS_gen hF (by rfl) (y_callL (by rfl) (by rfl) Tryd.call119 (fun w hw => without_any bk g l a cap ae cape ta tn tcap D w hok (At.block0 (by repeat (first | exact List.mem_cons_self | apply List.mem_cons_of_mem | apply List.mem_append_right)) w hw) (he.st w hw) (hD.st w hw) htn)) ?_
      rintro _ _ ⟨cb, ae2, cape2, H2, rfl, rfl, hrow2⟩
      refine WS_back ?_
      have hwn : (l.wo D).es.length ≤ 12 := (hok.wo D).n12
      refine WS_det hF (by rfl) (by first | exact y_nilCheck (by rfl) | exact y_nilCheckF (by rfl)) ?_
      refine WS_det hF (by rfl) (y_fieldAddr (by rfl) fa189_1) ?_
      refine WS_det hF (by rfl) (y_loadN (by rfl) Tryd.isAgg66 Tryd.sizeOf66 (Mem.own (us := [.slice _ _ _, .int .i64 _, .int .i64 _, .int .i64 _, .int .i64 _, .slice _ _ _]) 4 (by rfl) (by rfl)) (by rfl)) ?_
      refine WS_gen hF (by rfl) (y_callL (by rfl) (by rfl) Tryd.call118 (fun w hw => copied_any (l.wo D) a cap ae2 cape2 w (by omega) (show 0 < l.tk.n by omega) hn (hx.st w hw) (Row.rws en_len hrow2 rfl (by repeat (first | exact List.Sublist.refl _ | exact List.sublist_append_left _ _ | exact List.nil_sublist _ | apply List.Sublist.cons_cons | apply List.Sublist.cons | refine List.Sublist.trans ?_ (List.sublist_append_right _ _))) w hw))) ?_
      rintro _ Ht hT
      have hT2 := hT
      obtain ⟨a1, cap1, a2, cap2, H3, H4, rfl, hr1, hr2, rfl⟩ := hT
      refine WS_back ?_
      refine WS_store hF (i := 2) (by rfl) (by rfl) Tryd.sizeOf66 (by rfl) (by rfl) (by rfl) (by first | decide | exact Nat.le_of_ble_eq_true rfl | simp) ?_
      refine WS_det hF (by rfl) (y_assign (c := .int .i64 _) (by rfl)) ?_
      refine WS_nil ?_
      refine Then_normal ?_
      refine W_ret ?_
      refine Fin_ret [_, .int .i64 _] (H3 ++ H4) Tryd.results81 ⟨lvN (by rfl) Tryd.isAgg66 Tryd.sizeOf66 (Mem.own (us := [.slice _ _ _, .int .i64 _, .int .i64 _, .int .i64 _, .int .i64 _, .slice _ _ _]) 2 (by rfl) (by rfl)) (by rfl), by rfl, trivial⟩ (HSub.sub (by repeat (first | exact List.Sublist.refl _ | exact List.sublist_append_left _ _ | exact List.nil_sublist _ | apply List.Sublist.cons_cons | apply List.Sublist.cons | refine List.Sublist.trans ?_ (List.sublist_append_right _ _)))) ?_
      have hE : l.strE D = 0 := Lg.strE_ok c2 fun j hj => hp j (by omega)
      exact ⟨_, by rw [hE]; rfl, fun h => absurd hE h, fun _ => hT2⟩
end Go.Proofs.YtjekjehgmljbgaaDoor.T

/- The reference's changes: the walks of Add, without, Strike and Before. -/
namespace Go.Proofs.YtjekjehgmljbgaaDoor.T
open Go.RowKit Go.Proofs Go.Eng
set_option maxRecDepth 100000
set_option maxHeartbeats 1000000
set_option linter.unusedVariables false
set_option linter.unusedSimpArgs false



theorem radd_any (l : Lg) (a : Option Addr) (cap : Nat) (ae : Option Addr) (cape : Nat) (x : En) (w : World) (hn : l.tk.n ≤ 1000000) (hx : Ints w a l.tk.n cap l.tk.pints) (he : Ens w ae l.es.length cape l.es) : Ct Tryd.prog 84 #[.agg #[.slice a l.tk.n cap, .int .i64 l.tk.leak, .int .i64 l.tk.foot, .int .i64 l.start.lo, .int .i64 l.start.hi, .slice ae l.es.length cape], .agg x.cells.toArray] w (AddV l x) := by
  have hF := wide_wide
  refine Ct_start (args := [_, _]) Tryd.func84 (by rfl) Tryd.ntmps84 (by rfl) ?_
  refine W_seq ?_
  refine W_region_lit (fun ds => ?_)
  refine WS_new hF (by rfl) (y_box (by rfl)) (fun b1 => ?_)
  refine WS_new hF (by rfl) (y_box (by rfl)) (fun b2 => ?_)
  refine WS_new hF (by rfl) (y_alloc Tryd.zeroValue66 (by rfl)) (fun b3 => ?_)
  refine WS_det hF (by rfl) (y_assign (c := .int .i64 _) (by rfl)) ?_
  refine WS_nil ?_
  refine Then_normal ?_
  refine W_seq ?_
  refine W_seq ?_
  refine W_region_lit (fun ds => ?_)
  refine WS_det hF (by rfl) (y_loadN (by rfl) Tryd.isAgg66 Tryd.sizeOf66 (Mem.own (us := [.slice _ _ _, .int .i64 _, .int .i64 _, .int .i64 _, .int .i64 _, .slice _ _ _]) 2 (by rfl) (by rfl)) (by rfl)) ?_
  refine WS_det hF (by rfl) (y_callL (by rfl) (by rfl) Tryd.call83 (fun w hw => rvalid_any l a cap ae cape w hn (hx.st w hw) (he.st w hw))) ?_
  refine WS_det hF (by rfl) (y_assign (c := .int .i64 _) (by rfl)) ?_
  refine WS_nil ?_
  refine Then_normal ?_
  refine W_seq ?_
  refine W_region_lit (fun ds => ?_)
  refine WS_det hF (by rfl) (y_move (c := .int .i64 _) (by rfl)) ?_
  refine WS_det hF (by rfl) (y_neq (by rfl) (by rfl)) ?_
  refine WS_nil ?_
  refine Then_normal ?_
  refine W_cond (by rfl) (fun c2 => ?_) (fun c2 => ?_)
  ·
    try simp only [Bool.not_eq_true', Bool.not_eq_false', decide_eq_true_eq, decide_eq_false_iff_not, ne_eq, Classical.not_not, Int.not_lt, Int.not_le] at c2
    refine W_seq ?_
    refine W_region_lit (fun ds => ?_)
    refine WS_det hF (by rfl) (y_buildL bd66 (by rfl)) ?_
    refine WS_det hF (by rfl) (y_move (c := .int .i64 _) (by rfl)) ?_
    refine WS_store hF (i := 0) (by rfl) (by rfl) Tryd.sizeOf66 (by rfl) (by rfl) (by rfl) (by first | decide | exact Nat.le_of_ble_eq_true rfl | simp) ?_
    refine WS_det hF (by rfl) (y_assign (c := .int .i64 _) (by rfl)) ?_
    refine WS_nil ?_
    refine Then_normal ?_
    refine W_ret ?_
    refine Then_ret ?_
    refine Fin_ret [_, .int .i64 _] [] Tryd.results84 ⟨lvN (by rfl) Tryd.isAgg66 Tryd.sizeOf66 (Mem.own (us := [.slice _ _ _, .int .i64 _, .int .i64 _, .int .i64 _, .int .i64 _, .slice _ _ _]) 0 (by rfl) (by rfl)) (by rfl), by rfl, trivial⟩ HSub.nil ?_
    have hE : l.addE x = l.err := if_neg c2
    exact ⟨zeroLg, by rw [hE]; rfl, fun _ => ⟨rfl, rfl⟩, fun h => absurd (hE ▸ h) c2⟩
  ·
    try simp only [Bool.not_eq_true', Bool.not_eq_false', decide_eq_true_eq, decide_eq_false_iff_not, ne_eq, Classical.not_not, Int.not_lt, Int.not_le] at c2
    have hok := l.ok_of c2
    have hn12 := hok.n12
    have hn2 := hok.tk.n2
    refine W_skip ?_
    refine Then_normal ?_
    refine W_seq ?_
    refine W_seq ?_
    refine W_region_lit (fun ds => ?_)
    refine WS_det hF (by rfl) (y_fieldAddr (by rfl) fa66_2) ?_
    refine WS_det hF (by rfl) (y_load1 (by rfl) Tryd.isAgg64 (Mem.own1 2 (by rfl) (by rfl))) ?_
    refine WS_det hF (by rfl) (y_len (by rfl) Tryd.runUnderlying64) ?_
    refine WS_det hF (by rfl) (y_eql (by rfl) (by rfl)) ?_
    refine WS_nil ?_
    refine Then_normal ?_
    refine W_cond (by rfl) (fun c4 => ?_) (fun c4 => ?_)
    ·
      try simp only [Bool.not_eq_true', Bool.not_eq_false', decide_eq_true_eq, decide_eq_false_iff_not, ne_eq, Classical.not_not, Int.not_lt, Int.not_le] at c4
      refine W_seq ?_
      refine W_region_lit (fun ds => ?_)
      refine WS_det hF (by rfl) (y_buildL bd66 (by rfl)) ?_
      refine WS_store hF (i := 0) (by rfl) (by rfl) Tryd.sizeOf66 (by rfl) (by rfl) (by rfl) (by first | decide | exact Nat.le_of_ble_eq_true rfl | simp) ?_
      refine WS_det hF (by rfl) (y_assign (c := .int .i64 _) (by rfl)) ?_
      refine WS_nil ?_
      refine Then_normal ?_
      refine W_ret ?_
      refine Then_ret ?_
      refine Fin_ret [_, .int .i64 _] [] Tryd.results84 ⟨lvN (by rfl) Tryd.isAgg66 Tryd.sizeOf66 (Mem.own (us := [.slice _ _ _, .int .i64 _, .int .i64 _, .int .i64 _, .int .i64 _, .slice _ _ _]) 0 (by rfl) (by rfl)) (by rfl), by rfl, trivial⟩ HSub.nil ?_
      have hE : l.addE x = 9 := by unfold Lg.addE; rw [if_pos c2, if_pos (by omega)]
      exact ⟨zeroLg, by rw [hE]; rfl, fun _ => ⟨rfl, rfl⟩, fun h => absurd (hE ▸ h) (by decide)⟩
    ·
      try simp only [Bool.not_eq_true', Bool.not_eq_false', decide_eq_true_eq, decide_eq_false_iff_not, ne_eq, Classical.not_not, Int.not_lt, Int.not_le] at c4
      refine W_skip ?_
      refine Then_normal ?_
      refine W_seq ?_
      refine W_region_lit (fun ds => ?_)
      refine WS_det hF (by rfl) (y_loadN (by rfl) Tryd.isAgg66 Tryd.sizeOf66 (Mem.own (us := [.slice _ _ _, .int .i64 _, .int .i64 _, .int .i64 _, .int .i64 _, .slice _ _ _]) 2 (by rfl) (by rfl)) (by rfl)) ?_
      refine WS_gen hF (by rfl) (y_callL (by rfl) (by rfl) Tryd.call31 (fun w hw => twin_any l a cap ae cape w (by omega) hn (hx.st w hw) (he.st w hw))) ?_
      rintro _ _ ⟨a1, cap1, a2, cap2, H1, H2, rfl, hr1, hr2, rfl⟩
      refine WS_back ?_
      refine WS_new hF (by rfl) (y_alloc Tryd.zeroValue66 (by rfl)) (fun bo => ?_)
      refine WS_store hF (i := 0) (by rfl) (by rfl) Tryd.sizeOf66 (by rfl) (by rfl) (by rfl) (by first | decide | exact Nat.le_of_ble_eq_true rfl | simp) ?_
      refine WS_nil ?_
      refine Then_normal ?_
      refine W_seq ?_
      refine W_region_lit (fun ds => ?_)
      refine WS_det hF (by rfl) (y_fieldAddr (by rfl) fa66_2) ?_
      refine WS_det hF (by rfl) (y_load1 (by rfl) Tryd.isAgg64 (Mem.own1 0 (by rfl) (by rfl))) ?_
      refine WS_det hF (by rfl) (y_loadN (by rfl) Tryd.isAgg77 Tryd.sizeOf77 (Mem.own (us := [.int .i64 _, .int .i64 _, .int .i64 _, .int .i64 _]) 2 (by rfl) (by rfl)) (by rfl)) ?_
      refine WS_newS hF (by rfl) (y_buildSliceL bs64_1_0 (by rfl)) (fun b4 => ?_)
      refine WS_appendN hF (H1 := (_ :: _ :: _ :: _ :: _ :: H1)) (Hn := H2) (by rfl) (by rfl) (by rfl) Tryd.underlying64 infEntry (by rfl) (by rfl) hr2 (rowOf_len en_len _ _) (.inr ⟨_, _, rfl, Mem.own (us := [.int _ _, .int _ _, .int _ _, .int _ _]) 0 (by rfl) (by rfl)⟩) (by rfl) (by rfl) (by omega) (by omega) (by omega) ?_
      intro a3 cap3 H3 hr3
      have hr4 : NewRow 77 4 (l.put x).es.length (rowOf En.cells (l.put x).e (l.put x).es.length) (.slice a3 (l.put x).es.length cap3) H3 := by
        rw [l.put_len, l.put_row]; exact hr3
      rw [show l.es.length + 1 = (l.put x).es.length from (l.put_len x).symm]
      refine WS_det hF (by rfl) (y_fieldAddr (by rfl) fa66_2) ?_
      refine WS_store hF (i := 1) (by rfl) (by rfl) Tryd.sizeOf64 (by rfl) (by rfl) (by rfl) (by first | decide | exact Nat.le_of_ble_eq_true rfl | simp) ?_
      refine WS_nil ?_
      refine Then_normal ?_
      refine W_seq ?_
      refine W_seq ?_
      refine W_region_lit (fun ds => ?_)
      refine WS_det hF (by rfl) (y_loadN (by rfl) Tryd.isAgg66 Tryd.sizeOf66 (Mem.own (us := [.slice _ _ _, .int .i64 _, .int .i64 _, .int .i64 _, .int .i64 _, .slice _ _ _]) 1 (by rfl) (by rfl)) (by rfl)) ?_
      refine WS_det hF (by rfl) (y_callL (by rfl) (by rfl) Tryd.call121 (fun w hw => rlog_any (l.put x) a1 cap1 a3 cap3 w hn (NewRow.ints hr1 hx.len (by repeat (first | exact List.Sublist.refl _ | exact List.sublist_append_left _ _ | exact List.nil_sublist _ | apply List.Sublist.cons_cons | apply List.Sublist.cons | refine List.Sublist.trans ?_ (List.sublist_append_right _ _))) w hw) (NewRow.rws en_len hr4 rfl (by repeat (first | exact List.Sublist.refl _ | exact List.sublist_append_left _ _ | exact List.nil_sublist _ | apply List.Sublist.cons_cons | apply List.Sublist.cons | refine List.Sublist.trans ?_ (List.sublist_append_right _ _))) w hw))) ?_
      refine WS_det hF (by rfl) (y_not (by rfl)) ?_
      refine WS_nil ?_
      refine Then_normal ?_
      refine W_cond (by rfl) (fun c8 => ?_) (fun c8 => ?_)
      ·
        try simp only [Bool.not_eq_true', Bool.not_eq_false', decide_eq_true_eq, decide_eq_false_iff_not, ne_eq, Classical.not_not, Int.not_lt, Int.not_le] at c8
        refine W_seq ?_
        refine W_region_lit (fun ds => ?_)
        refine WS_det hF (by rfl) (y_buildL bd66 (by rfl)) ?_
        refine WS_store hF (i := 2) (by rfl) (by rfl) Tryd.sizeOf66 (by rfl) (by rfl) (by rfl) (by first | decide | exact Nat.le_of_ble_eq_true rfl | simp) ?_
        refine WS_det hF (by rfl) (y_assign (c := .int .i64 _) (by rfl)) ?_
        refine WS_nil ?_
        refine Then_normal ?_
        refine W_ret ?_
        refine Then_ret ?_
        refine Fin_ret [_, .int .i64 _] [] Tryd.results84 ⟨lvN (by rfl) Tryd.isAgg66 Tryd.sizeOf66 (Mem.own (us := [.slice _ _ _, .int .i64 _, .int .i64 _, .int .i64 _, .int .i64 _, .slice _ _ _]) 2 (by rfl) (by rfl)) (by rfl), by rfl, trivial⟩ HSub.nil ?_
        have hP : (l.put x).err ≠ 0 := by
          unfold Lg.err
          rw [Bool.and_eq_false_iff] at c8
          rcases c8 with h | h
          · rw [if_neg (by rw [h]; exact Bool.false_ne_true)]; decide
          · split
            · rw [if_neg (by rw [h]; exact Bool.false_ne_true)]; decide
            · decide
        have hE : l.addE x = 32 := by unfold Lg.addE; rw [if_pos c2, if_neg (by omega), if_neg hP]
        exact ⟨zeroLg, by rw [hE]; rfl, fun _ => ⟨rfl, rfl⟩, fun h => absurd (hE ▸ h) (by decide)⟩
      ·
        try simp only [Bool.not_eq_true', Bool.not_eq_false', decide_eq_true_eq, decide_eq_false_iff_not, ne_eq, Classical.not_not, Int.not_lt, Int.not_le] at c8
        refine W_skip ?_
        refine Then_normal ?_
        refine W_seq ?_
        refine W_region_lit (fun ds => ?_)
        refine WS_det hF (by rfl) (y_loadN (by rfl) Tryd.isAgg66 Tryd.sizeOf66 (Mem.own (us := [.slice _ _ _, .int .i64 _, .int .i64 _, .int .i64 _, .int .i64 _, .slice _ _ _]) 1 (by rfl) (by rfl)) (by rfl)) ?_
        refine WS_store hF (i := 2) (by rfl) (by rfl) Tryd.sizeOf66 (by rfl) (by rfl) (by rfl) (by first | decide | exact Nat.le_of_ble_eq_true rfl | simp) ?_
        refine WS_det hF (by rfl) (y_assign (c := .int .i64 _) (by rfl)) ?_
        refine WS_nil ?_
        refine Then_normal ?_
        refine W_ret ?_
        refine Fin_ret [_, .int .i64 _] (H1 ++ H3) Tryd.results84 ⟨lvN (by rfl) Tryd.isAgg66 Tryd.sizeOf66 (Mem.own (us := [.slice _ _ _, .int .i64 _, .int .i64 _, .int .i64 _, .int .i64 _, .slice _ _ _]) 2 (by rfl) (by rfl)) (by rfl), by rfl, trivial⟩ (HSub.sub (by repeat (first | exact List.Sublist.refl _ | exact List.sublist_append_left _ _ | exact List.nil_sublist _ | apply List.Sublist.cons_cons | apply List.Sublist.cons | refine List.Sublist.trans ?_ (List.sublist_append_right _ _)))) ?_
        have hP : (l.put x).err = 0 := by
          unfold Lg.err
          rw [Bool.and_eq_true] at c8
          rw [if_pos c8.1, if_pos c8.2]
        have hE : l.addE x = 0 := by unfold Lg.addE; rw [if_pos c2, if_neg (by omega), if_pos hP]
        exact ⟨_, by rw [hE]; rfl, fun h => absurd hE h, fun _ => ⟨a1, cap1, a3, cap3, H1, H3, rfl, hr1, hr4, rfl⟩⟩
end Go.Proofs.YtjekjehgmljbgaaDoor.T

/- The reference's changes: the walks of Strike and Before. -/
namespace Go.Proofs.YtjekjehgmljbgaaDoor.T
open Go.RowKit Go.Proofs Go.Eng
set_option maxRecDepth 100000
set_option maxHeartbeats 1000000
set_option linter.unusedVariables false
set_option linter.unusedSimpArgs false



def lexB : List Int → List Int → Bool
  | x :: xs, y :: ys => if x = y then lexB xs ys else decide (x < y)
  | _, _ => false
/-- Shorter ones first, then the first number that differs. -/
def befB (xs ys : List Int) : Bool := if xs.length = ys.length then lexB xs ys else decide (xs.length < ys.length)
end Go.Proofs.YtjekjehgmljbgaaDoor.T

/- The reference's dips that must be false: the walk of Wrong. -/
namespace Go.Eng
section
variable {C : Ctx} {e : Env} {H : List Blk} {d : Option Tmp} {ty : TypeId} {pos : String} {af : Array Edge} {g : Option (Nat × Bool)} {x y : Operand} {t t' : TypeId} {m i : Nat}
end
end Go.Eng
namespace Go.Proofs.YtjekjehgmljbgaaDoor.T
open Go.RowKit Go.Proofs Go.Eng
set_option maxRecDepth 100000
set_option maxHeartbeats 1000000
set_option linter.unusedVariables false
set_option linter.unusedSimpArgs false



def setL (s n : Nat) : List Int := ((List.range n).filter fun i => s.testBit i).map fun i : Nat => (i : Int) + 1
theorem setL_succ (s n : Nat) : setL s (n + 1) = if s.testBit n then setL s n ++ [(n : Int) + 1] else setL s n := by
  unfold setL
  rw [List.range_succ, List.filter_append]
  cases h : s.testBit n <;> simp [h]
def Lg.dipsB (l : Lg) (s n : Nat) : Bool := (List.range n).all fun i => !s.testBit i || decide ((l.e i).kind = 3)
def betB (T : List Int) : Option (List Int) → Bool
  | none => true
  | some R => befB T R
def Lg.bestW (l : Lg) : Nat → Option (List Int)
  | 0 => none
  | s + 1 => if l.dipsB s l.es.length && betB (setL s l.es.length) (l.bestW s) && (l.wo (setL s l.es.length)).holdsB then some (setL s l.es.length) else l.bestW s
def RWrongV (l : Lg) (v : Value) (Hn : List Blk) : Prop :=
  (l.err ≠ 0 → v = .tuple #[.slice none 0 0, .int .i64 l.err] ∧ Hn = []) ∧
  (l.err = 0 → (∀ R, l.bestW (2 ^ l.es.length) = some R → ∃ fa fn fcap, v = .tuple #[.slice fa fn fcap, .int .i64 0] ∧ Row 3 1 fa fn fcap (iv R) Hn ∧ R.length = fn) ∧ (l.bestW (2 ^ l.es.length) = none → v = .tuple #[.slice none 0 0, .int .i64 6] ∧ Hn = []))
end Go.Proofs.YtjekjehgmljbgaaDoor.T

/- The first of the fewest dips that must be false: both ways of looking for it find the same; plain facts. -/
namespace Go.Proofs.YtjekjehgmljbgaaDoor.T
open Go.RowKit Go.Proofs Go.Eng
set_option maxRecDepth 100000
set_option maxHeartbeats 1000000
set_option linter.unusedVariables false
set_option linter.unusedSimpArgs false

def Lg.Fits (l : Lg) (lo : Int) (E : List Int) : Prop := E.Pairwise (· < ·) ∧ ∀ x ∈ E, lo < x ∧ x ≤ (l.es.length : Int) ∧ (l.e (x - 1).toNat).kind = 3
def Lg.Val (l : Lg) (T : List Int) : Prop := l.Fits 0 T ∧ (l.wo T).holdsB = true
theorem Lg.Fits.tail {l : Lg} {lo x : Int} {E : List Int} (h : l.Fits lo (x :: E)) : l.Fits x E :=
  ⟨(List.pairwise_cons.1 h.1).2, fun y hy => ⟨(List.pairwise_cons.1 h.1).1 y hy, (h.2 y (List.mem_cons_of_mem _ hy)).2⟩⟩
/-! ### Sets as numbers -/
theorem setL_of (n : Nat) : ∀ T : List Int, T.Pairwise (· < ·) → (∀ x ∈ T, 0 < x ∧ x ≤ (n : Int)) → ∃ s, s < 2 ^ n ∧ setL s n = T := by
  induction n with
  | zero =>
    intro T _ h
    refine ⟨0, by decide, ?_⟩
    cases T with
    | nil => rfl
    | cons x T => have := h x List.mem_cons_self; omega
  | succ n ih =>
    intro T hp h
    have small : (∀ x ∈ T, x ≤ (n : Int)) → ∃ s, s < 2 ^ (n + 1) ∧ setL s (n + 1) = T := fun hs => by
      obtain ⟨s, h1, h2⟩ := ih T hp fun x hx => ⟨(h x hx).1, hs x hx⟩
      refine ⟨s, by rw [Nat.pow_succ]; omega, ?_⟩
      rw [setL_succ, Nat.testBit_lt_two_pow h1]
      exact h2
    rcases List.eq_nil_or_concat T with rfl | ⟨L, x, rfl⟩
    · exact small fun x hx => by cases hx
    · rw [List.concat_eq_append] at hp h small ⊢
      have hlt : ∀ y ∈ L, y < x := fun y hy => (List.pairwise_append.1 hp).2.2 y hy x List.mem_cons_self
      have hx := h x (List.mem_append_right _ List.mem_cons_self)
      by_cases hxn : x = (n : Int) + 1
      · obtain ⟨s, h1, h2⟩ := ih L (List.pairwise_append.1 hp).1 fun y hy => ⟨(h y (List.mem_append_left _ hy)).1, by have := hlt y hy; omega⟩
        refine ⟨2 ^ n + s, by rw [Nat.pow_succ]; omega, ?_⟩
        rw [setL_succ, Nat.testBit_two_pow_add_eq, Nat.testBit_lt_two_pow h1]
        have : setL (2 ^ n + s) n = setL s n := by
          unfold setL
          congr 1
          exact List.filter_congr fun i hi => Nat.testBit_two_pow_add_gt (List.mem_range.1 hi) s
        rw [this, h2, hxn]; rfl
      · refine small fun y hy => ?_
        rcases List.mem_append.1 hy with hy | hy
        · have := hlt y hy; omega
        · rw [List.mem_singleton.1 hy]; omega
theorem Lg.Val.set {l : Lg} {T : List Int} (h : l.Val T) : ∃ s, s < 2 ^ l.es.length ∧ setL s l.es.length = T :=
  setL_of _ T h.1.1 fun x hx => ⟨(h.1.2 x hx).1, (h.1.2 x hx).2.1⟩
/-! ### The order of lists -/
end Go.Proofs.YtjekjehgmljbgaaDoor.T

/- The law of changes, walked. -/
namespace Go.Proofs.YtjekjehgmljbgaaDoor.T
open Go.RowKit Go.Proofs Go.Eng
set_option maxRecDepth 100000
set_option maxHeartbeats 1000000
set_option linter.unusedVariables false
set_option linter.unusedSimpArgs false



def Lg.wrL (l : Lg) : List Int := if l.err = 0 then l.wr.getD [] else []
def Lg.wrE (l : Lg) : Int := if l.err = 0 then (if l.wr.isSome then 0 else 6) else l.err
def WrI (l : Lg) (v : Value) (Hn : List Blk) : Prop :=
  ∃ fa fcap, v = .tuple #[.slice fa l.wrL.length fcap, .int .i64 l.wrE] ∧ ∀ (C : Ctx) (H : List Blk) (w : World), Hn.Sublist H → St C H w → Ints w fa l.wrL.length fcap l.wrL
theorem WrongV.ints {l : Lg} {v : Value} {Hn : List Blk} (h : WrongV l v Hn) : WrI l v Hn := by
  unfold WrI Lg.wrL Lg.wrE
  by_cases h0 : l.err = 0
  · rw [if_pos h0, if_pos h0]
    cases hw : l.wr with
    | none =>
      obtain ⟨rfl, rfl⟩ := (h.2 h0).2 hw
      exact ⟨none, 0, rfl, fun C H w _ _ => Ints.nil _ _ _⟩
    | some R =>
      obtain ⟨fa, fn, fcap, rfl, hr, rfl⟩ := (h.2 h0).1 R hw
      exact ⟨fa, fcap, rfl, fun C H w hs hw => Row.ints hr rfl hs w hw⟩
  · rw [if_neg h0, if_neg h0]
    obtain ⟨rfl, rfl⟩ := h.1 h0
    exact ⟨none, 0, rfl, fun C H w _ _ => Ints.nil _ _ _⟩
def Lg.zero : Lg := ⟨⟨[], 0, 0⟩, ⟨0, 0⟩, []⟩
def Lg.addL (l : Lg) (x : En) : Lg := if l.addE x = 0 then l.put x else Lg.zero
def Lg.strL (l : Lg) (D : List Int) : Lg := if l.strE D = 0 then l.wo D else Lg.zero
theorem twin_zero : TwinL Lg.zero zeroLg [] := ⟨none, 0, none, 0, [], [], rfl, ⟨none, 0, rfl, Nat.le_refl _, .inr ⟨rfl, rfl, rfl⟩⟩, ⟨none, 0, rfl, Nat.le_refl _, .inr ⟨rfl, rfl, rfl⟩⟩, rfl⟩
theorem AddV.twin {l : Lg} {x : En} {v : Value} {Hn : List Blk} (h : AddV l x v Hn) : ∃ v0, v = .tuple #[v0, .int .i64 (l.addE x)] ∧ TwinL (l.addL x) v0 Hn := by
  obtain ⟨v0, rfl, h1, h2⟩ := h
  refine ⟨v0, rfl, ?_⟩
  unfold Lg.addL
  by_cases h0 : l.addE x = 0
  · rw [if_pos h0]; exact h2 h0
  · obtain ⟨rfl, rfl⟩ := h1 h0
    rw [if_neg h0]; exact twin_zero
theorem StrikeV.twin {l : Lg} {D : List Int} {v : Value} {Hn : List Blk} (h : StrikeV l D v Hn) : ∃ v0, v = .tuple #[v0, .int .i64 (l.strE D)] ∧ TwinL (l.strL D) v0 Hn := by
  obtain ⟨v0, rfl, h1, h2⟩ := h
  refine ⟨v0, rfl, ?_⟩
  unfold Lg.strL
  by_cases h0 : l.strE D = 0
  · rw [if_pos h0]; exact h2 h0
  · obtain ⟨rfl, rfl⟩ := h1 h0
    rw [if_neg h0]; exact twin_zero
end Go.Proofs.YtjekjehgmljbgaaDoor.T

/- Pure facts about cans and pourings. -/
namespace Go.Proofs.YtjekjehgmljbgaaDoor.T
open Go.RowKit Go.Eng

structure Cn where
  sz : List Int
  inn : List Int
  st : Int
def Cn.n (c : Cn) : Nat := c.sz.length
def Cn.s (c : Cn) (k : Nat) : Int := c.sz.getD k 0
def Cn.i (c : Cn) (k : Nat) : Int := c.inn.getD k 0
def Cn.fitB (c : Cn) (m : Nat) : Bool := (List.range m).all fun k => inB 0 (c.s k) [c.i k]
def Cn.okB (c : Cn) : Bool := (inB 1 3 [(c.n : Int)] && decide (c.inn.length = c.n)) && (inB 1 20 c.sz && inB 0 600 [c.st]) && c.fitB c.n
theorem Cn.fitB_succ (c : Cn) (m : Nat) : c.fitB (m + 1) = (c.fitB m && inB 0 (c.s m) [c.i m]) := by
  unfold Cn.fitB; rw [List.range_succ, List.all_append]; simp
theorem Cn.fitB_false {c : Cn} {k m : Nat} (h : k < m) (hk : inB 0 (c.s k) [c.i k] = false) : c.fitB m = false := by
  unfold Cn.fitB
  exact List.all_eq_false.2 ⟨k, List.mem_range.2 h, by simp [hk]⟩
theorem inB_all {lo hi : Int} {xs : List Int} : inB lo hi xs = true ↔ ∀ k, k < xs.length → lo ≤ xs.getD k 0 ∧ xs.getD k 0 ≤ hi := by
  unfold inB
  simp only [List.all_eq_true, Bool.not_eq_true', outB_iff]
  constructor
  · intro h k hk
    have := h xs[k] (List.getElem_mem hk)
    simpa [List.getD_eq_getElem?_getD, hk] using this
  · intro h x hx
    obtain ⟨k, hk, rfl⟩ := List.getElem_of_mem hx
    simpa [List.getD_eq_getElem?_getD, hk] using h k hk
structure Cn.Ok (c : Cn) : Prop where
  n1 : 1 ≤ c.n
  n3 : c.n ≤ 3
  len : c.inn.length = c.n
  st0 : 0 ≤ c.st
  st1 : c.st ≤ 600
  s : ∀ k, k < c.n → 1 ≤ c.s k ∧ c.s k ≤ 20
  i : ∀ k, k < c.n → 0 ≤ c.i k ∧ c.i k ≤ c.s k
theorem Cn.ok_iff {c : Cn} : c.okB = true ↔ c.Ok := by
  unfold Cn.okB Cn.fitB
  simp only [Bool.and_eq_true, inB1, decide_eq_true_eq, List.all_eq_true, List.mem_range]
  rw [inB_all]
  constructor
  · rintro ⟨⟨⟨⟨h1, h2⟩, h3⟩, h4, h5, h6⟩, h7⟩
    exact ⟨by omega, by omega, h3, h5, h6, h4, h7⟩
  · intro h
    have := h.n1
    have := h.n3
    exact ⟨⟨⟨⟨by omega, by omega⟩, h.len⟩, h.s, h.st0, h.st1⟩, h.i⟩

structure Po where
  f : Int
  t : Int
deriving DecidableEq
def Po.cells (p : Po) : List Value := [.int .i64 p.f, .int .i64 p.t]
def Po.z : Po := ⟨0, 0⟩
/-- What is in the tank and the cans. -/
structure Co where
  a : Int
  b : Int
  c : Int
  d : Int
deriving DecidableEq
def Co.cells (x : Co) : List Value := [.int .i64 x.a, .int .i64 x.b, .int .i64 x.c, .int .i64 x.d]
def Co.z : Co := ⟨0, 0, 0, 0⟩
def Co.g (x : Co) : Nat → Int
  | 0 => x.a
  | 1 => x.b
  | 2 => x.c
  | _ => x.d
def Co.w (x : Co) (k : Nat) (v : Int) : Co :=
  match k with
  | 0 => ⟨v, x.b, x.c, x.d⟩
  | 1 => ⟨x.a, v, x.c, x.d⟩
  | 2 => ⟨x.a, x.b, v, x.d⟩
  | _ => ⟨x.a, x.b, x.c, v⟩
theorem lt4 {k : Nat} (h : k < 4) : k = 0 ∨ k = 1 ∨ k = 2 ∨ k = 3 := by omega
theorem Co.drop (x : Co) {k : Nat} (h : k < 4) : ∃ rest, List.drop (0 + k * 1) x.cells = [.int .i64 (x.g k)] ++ rest := by
  obtain rfl | rfl | rfl | rfl := lt4 h
  all_goals exact ⟨_, rfl⟩
theorem Co.splice (x : Co) (v : Int) {k : Nat} (h : k < 4) : splice x.cells (0 + k * 1) [.int .i64 v] = (x.w k v).cells := by
  obtain rfl | rfl | rfl | rfl := lt4 h
  all_goals rfl
theorem Co.g_w (x : Co) (v : Int) {k j : Nat} (hk : k < 4) (hj : j < 4) : (x.w k v).g j = if j = k then v else x.g j := by
  obtain rfl | rfl | rfl | rfl := lt4 hk <;> obtain rfl | rfl | rfl | rfl := lt4 hj
  all_goals rfl
theorem Co.ext4 {x y : Co} (h : ∀ k, k < 4 → x.g k = y.g k) : x = y := by
  obtain ⟨a, b, c, d⟩ := x
  obtain ⟨a', b', c', d'⟩ := y
  have h0 : a = a' := h 0 (by decide)
  have h1 : b = b' := h 1 (by decide)
  have h2 : c = c' := h 2 (by decide)
  have h3 : d = d' := h 3 (by decide)
  subst h0 h1 h2 h3; rfl
def Cn.co (c : Cn) : Co := ⟨c.st, c.i 0, c.i 1, c.i 2⟩
def Cn.room (c : Cn) (k : Nat) : Int := if k = 0 then 600 else c.s (k - 1)
def Cn.vldB (c : Cn) (p : Po) : Bool := inB 0 (c.n : Int) [p.f, p.t] && decide (p.f ≠ p.t)
def Cn.lack (c : Cn) (x : Co) (t : Nat) : Int := c.room t - x.g t
def Cn.amt (c : Cn) (x : Co) (f t : Nat) : Int := min (x.g f) (c.lack x t)
def Cn.noB (c : Cn) (x : Co) (f t : Nat) : Bool := decide (f = 0) && decide (x.g f < c.lack x t) || decide (t = 0) && decide (c.lack x t < x.g f)
def Cn.to (c : Cn) (x : Co) (f t : Nat) : Co := (x.w f (x.g f - c.amt x f t)).w t (x.g t + c.amt x f t)
def Cn.canB (c : Cn) (x : Co) (f t : Nat) : Bool := !c.noB x f t && decide (0 < c.amt x f t)
/-- Cans of such a content. -/
def Cn.of (c : Cn) (x : Co) : Cn := ⟨c.sz, [x.b, x.c, x.d].take c.n, x.a⟩
structure Cn.In (c : Cn) (x : Co) : Prop where
  lo : ∀ k, k < 4 → 0 ≤ x.g k
  hi : ∀ k, k ≤ c.n → x.g k ≤ c.room k
  z : ∀ k, c.n < k → k < 4 → x.g k = 0
theorem Cn.co_g (c : Cn) (k : Nat) (h : k < 3) : c.co.g (k + 1) = c.i k := by
  obtain rfl | rfl | rfl : k = 0 ∨ k = 1 ∨ k = 2 := by omega
  all_goals rfl
theorem Cn.Ok.co_in {c : Cn} (h : c.Ok) : c.In c.co := by
  have h3 := h.n3
  refine ⟨fun k hk => ?_, fun k hk => ?_, fun k hk hk4 => ?_⟩
  · cases k with
    | zero => exact h.st0
    | succ k =>
      rw [c.co_g k (by omega)]
      by_cases hkn : k < c.n
      · exact (h.i k hkn).1
      · unfold Cn.i
        rw [List.getD_eq_getElem?_getD, List.getElem?_eq_none (by rw [h.len]; omega)]
        exact Int.le_refl _
  · cases k with
    | zero => exact h.st1
    | succ k => rw [c.co_g k (by omega)]; exact (h.i k (by omega)).2
  · cases k with
    | zero => omega
    | succ k =>
      rw [c.co_g k (by omega)]
      unfold Cn.i
      rw [List.getD_eq_getElem?_getD, List.getElem?_eq_none (by rw [h.len]; omega)]
      rfl
theorem Cn.to_g (c : Cn) (x : Co) {f t k : Nat} (hf : f < 4) (ht : t < 4) (hk : k < 4) : (c.to x f t).g k = if k = t then x.g t + c.amt x f t else if k = f then x.g f - c.amt x f t else x.g k := by
  unfold Cn.to
  rw [Co.g_w _ _ ht hk, Co.g_w _ _ hf hk]
theorem Cn.In.to {c : Cn} {x : Co} {f t : Nat} (h : c.In x) (hn : c.n ≤ 3) (hf : f ≤ c.n) (ht : t ≤ c.n) (ha : 0 ≤ c.amt x f t) : c.In (c.to x f t) := by
  have hm : c.amt x f t ≤ x.g f ∧ c.amt x f t ≤ c.room t - x.g t := by unfold Cn.amt Cn.lack; omega
  have h0 := h.lo t (by omega)
  refine ⟨fun k hk => ?_, fun k hk => ?_, fun k hk hk4 => ?_⟩
  · rw [c.to_g x (by omega) (by omega) hk]
    have := h.lo k hk
    split
    · omega
    · split <;> omega
  · rw [c.to_g x (by omega) (by omega) (by omega)]
    split
    · rename_i hkt; subst hkt; omega
    · split
      · rename_i hkf
        subst hkf
        have := h.hi k hk
        omega
      · exact h.hi k hk
  · rw [c.to_g x (by omega) (by omega) hk4, if_neg (by omega), if_neg (by omega)]
    exact h.z k hk hk4
theorem Cn.canB_iff {c : Cn} {x : Co} {f t : Nat} : c.canB x f t = true ↔ (¬ (f = 0 ∧ x.g f < c.lack x t) ∧ ¬ (t = 0 ∧ c.lack x t < x.g f)) ∧ 0 < c.amt x f t := by
  unfold Cn.canB Cn.noB
  simp only [Bool.and_eq_true, Bool.not_eq_true', Bool.or_eq_false_iff, Bool.and_eq_false_iff, decide_eq_true_eq, decide_eq_false_iff_not]
  constructor
  · rintro ⟨⟨h1, h2⟩, h3⟩; exact ⟨⟨by omega, by omega⟩, h3⟩
  · rintro ⟨⟨h1, h2⟩, h3⟩; exact ⟨⟨by omega, by omega⟩, h3⟩
theorem Cn.of_i (c : Cn) (x : Co) (k : Nat) (h : k < c.n) (hn : c.n ≤ 3) : (c.of x).i k = x.g (k + 1) := by
  unfold Cn.i Cn.of
  obtain rfl | rfl | rfl : k = 0 ∨ k = 1 ∨ k = 2 := by omega
  all_goals
    obtain h1 | h1 | h1 : c.n = 1 ∨ c.n = 2 ∨ c.n = 3 := by omega
    all_goals first | omega | (simp only [h1]; rfl)
theorem Cn.of_len (c : Cn) (x : Co) (hn : c.n ≤ 3) : (c.of x).inn.length = c.n := by
  unfold Cn.of
  simp only [List.length_take, List.length_cons, List.length_nil]
  omega
theorem Cn.Ok.of {c : Cn} (h : c.Ok) {x : Co} (hx : c.In x) : (c.of x).Ok := by
  refine ⟨h.n1, h.n3, c.of_len x h.n3, hx.lo 0 (by decide), hx.hi 0 (Nat.zero_le _), h.s, fun k hk => ?_⟩
  have hk' : k < c.n := hk
  have := h.n3
  rw [c.of_i x k hk h.n3]
  exact ⟨hx.lo (k + 1) (by omega), hx.hi (k + 1) (by omega)⟩
theorem Cn.Ok.of_co {c : Cn} (h : c.Ok) {x : Co} (hx : c.In x) : (c.of x).co = x := by
  have h3 := h.n3
  have hi := (h.of hx).co_in
  refine Co.ext4 fun k hk => ?_
  cases k with
  | zero => rfl
  | succ k =>
    by_cases hkn : k < c.n
    · rw [(c.of x).co_g k (by omega), c.of_i x k hkn h3]
    · rw [hi.z (k + 1) (show c.n < k + 1 by omega) hk, hx.z (k + 1) (by omega) hk]
theorem Cn.Ok.co_of {c : Cn} (h : c.Ok) : c.of c.co = c := by
  obtain ⟨s, i, t⟩ := c
  have h1 := h.n1
  have h3 := h.n3
  have hl := h.len
  change i.length = s.length at hl
  unfold Cn.of Cn.co Cn.n Cn.i
  simp only [Cn.mk.injEq, and_true, true_and]
  rw [← hl]
  change s.length ≤ 3 at h3
  match i, hl with
  | [], _ => rfl
  | [_], _ => rfl
  | [_, _], _ => rfl
  | [_, _, _], _ => rfl
  | _ :: _ :: _ :: _ :: _, hl => simp only [List.length_cons] at hl; omega
/-- Lists of pourings. -/
def Cn.stp (c : Cn) (x : Co) (p : Po) : Co := c.to x p.f.toNat p.t.toNat
def Cn.pE (c : Cn) (x : Co) (p : Po) : Int := if c.vldB p then if c.canB x p.f.toNat p.t.toNat then 0 else 6 else 81
def Cn.runK (c : Cn) (l : List Po) : Nat → Co
  | 0 => c.co
  | k + 1 => c.stp (c.runK l k) (l.getD k Po.z)
def bk (x y : Co) : Int := max 0 (y.a - x.a)
def Cn.backK (c : Cn) (l : List Po) : Nat → Int
  | 0 => 0
  | k + 1 => c.backK l k + bk (c.runK l k) (c.runK l (k + 1))
def Cn.badK (c : Cn) (l : List Po) : Nat → Nat → Option Nat
  | _, 0 => none
  | k, m + 1 => if c.pE (c.runK l k) (l.getD k Po.z) = 0 then c.badK l (k + 1) m else some k
def Cn.zero : Cn := ⟨[], [], 0⟩
def Cn.err (c : Cn) : Int := if c.okB then 0 else 80
def Cn.bad (c : Cn) (l : List Po) : Option Nat := c.badK l 0 l.length
def Cn.plC (c : Cn) (l : List Po) : Cn := if c.okB then match c.bad l with | none => c.of (c.runK l l.length) | some _ => Cn.zero else Cn.zero
def Cn.plB (c : Cn) (l : List Po) : Int := if c.okB then match c.bad l with | none => c.backK l l.length | some _ => 0 else 0
def Cn.plA (c : Cn) (l : List Po) : Int := if c.okB then match c.bad l with | none => 0 | some k => (k : Int) else 0
def Cn.plE (c : Cn) (l : List Po) : Int := if c.okB then match c.bad l with | none => 0 | some k => c.pE (c.runK l k) (l.getD k Po.z) else 80
def Cn.poC (c : Cn) (p : Po) : Cn := if c.okB then if c.pE c.co p = 0 then c.of (c.stp c.co p) else Cn.zero else Cn.zero
def Cn.poE (c : Cn) (p : Po) : Int := if c.okB then c.pE c.co p else 80
theorem Cn.vld_iff {c : Cn} {p : Po} : c.vldB p = true ↔ (0 ≤ p.f ∧ p.f ≤ c.n) ∧ (0 ≤ p.t ∧ p.t ≤ c.n) ∧ p.f ≠ p.t := by
  unfold Cn.vldB
  simp only [Bool.and_eq_true, inB2, decide_eq_true_eq]
  constructor
  · rintro ⟨⟨h1, h2⟩, h3⟩; exact ⟨h1, h2, h3⟩
  · rintro ⟨h1, h2, h3⟩; exact ⟨⟨h1, h2⟩, h3⟩
theorem Cn.pE_zero {c : Cn} {x : Co} {p : Po} : c.pE x p = 0 ↔ c.vldB p = true ∧ c.canB x p.f.toNat p.t.toNat = true := by
  unfold Cn.pE
  split
  · rename_i h; split
    · rename_i h2; simp [h, h2]
    · rename_i h2; simp [h2]
  · rename_i h; simp [h]
theorem Cn.In.stp {c : Cn} {x : Co} {p : Po} (h : c.In x) (hn : c.n ≤ 3) (hp : c.pE x p = 0) : c.In (c.stp x p) := by
  obtain ⟨h1, h2⟩ := Cn.pE_zero.1 hp
  rw [Cn.vld_iff] at h1
  exact h.to hn (by omega) (by omega) (Int.le_of_lt (Cn.canB_iff.1 h2).2)
end Go.Proofs.YtjekjehgmljbgaaDoor.T

/- What cans are asked, walked: in, the checks, Check. -/
namespace Go.Proofs.YtjekjehgmljbgaaDoor.T
open Go.RowKit Go.Proofs Go.Eng
set_option maxRecDepth 100000
set_option maxHeartbeats 1000000
set_option linter.unusedVariables false
set_option linter.unusedSimpArgs false

theorem fa106_0 : ∀ b o w, (Instr.fieldAt 106 (.pointer (some ⟨b, o, none⟩)) 0).run Tryd.prog w = .ok (.pointer (some ⟨b, o + 0, none⟩)) w := fun b o w => by kernel_rfl
theorem fa24_0 : ∀ b o w, (Instr.fieldAt 24 (.pointer (some ⟨b, o, none⟩)) 0).run Tryd.prog w = .ok (.pointer (some ⟨b, o + 0, none⟩)) w := fun b o w => by kernel_rfl
theorem fa24_1 : ∀ b o w, (Instr.fieldAt 24 (.pointer (some ⟨b, o, none⟩)) 1).run Tryd.prog w = .ok (.pointer (some ⟨b, o + 1, none⟩)) w := fun b o w => by kernel_rfl
theorem fa24_2 : ∀ b o w, (Instr.fieldAt 24 (.pointer (some ⟨b, o, none⟩)) 2).run Tryd.prog w = .ok (.pointer (some ⟨b, o + 2, none⟩)) w := fun b o w => by kernel_rfl

def firstP (p : Int → Bool) : List Int → Nat → Int
  | [], _ => -1
  | x :: l, k => if p x then (k : Int) else firstP p l (k + 1)
theorem firstP_step {p : Int → Bool} {xs : List Int} {k : Nat} (h : k < xs.length) :
    firstP p (xs.drop k) k = if p (xs.getD k 0) then (k : Int) else firstP p (xs.drop (k + 1)) (k + 1) := by
  rw [List.drop_eq_getElem_cons h]; simp [firstP, h, List.getD_eq_getElem?_getD]
theorem firstP_lt {p : Int → Bool} : ∀ {xs : List Int} {k : Nat}, decide (0 ≤ firstP p xs k) = xs.any p
  | [], _ => by simp [firstP]
  | x :: l, k => by
    have ih := firstP_lt (p := p) (xs := l) (k := k + 1)
    unfold firstP
    cases hx : p x
    · simp only [Bool.false_eq_true, if_false, List.any_cons, hx, Bool.false_or, ih]
    · simp [hx]
/-- A function that tells something of an int. -/
structure Tells (P : Program) (w : World) (fid : FuncId) (caps : List Value) (p : Int → Bool) : Prop where
  enter : ∀ args w, (callFunc fid args).run P w = .ok (.enter fid args) w
  call : ∀ x w', Below w.heap.size w w' → Ct P fid (Value.int .i64 x :: caps).toArray w' fun v _ => v = .bool (p x)
theorem Tells.st {C : Ctx} {H : List Blk} {fid : FuncId} {caps : List Value} {p : Int → Bool} (h : Tells C.P C.w0 fid caps p) (w : World) (hw : St C H w) : Tells C.P w fid caps p :=
  ⟨h.enter, fun x w' hb => h.call x w' (hw.1.trans (hb.mono hw.1.size))⟩

theorem ixP_any (fid : FuncId) (caps : List Value) (p : Int → Bool) (a : Option Addr) (n cap : Nat) (xs : List Int) (w : World) (hn : (n : Int) ≤ 9223372036854775806) (hx : Ints w a n cap xs) (hp : Tells Tryd.prog w fid caps p) :
    Ct Tryd.prog 128 #[.slice a n cap, .func (.func fid) #[] caps.toArray] w fun v _ => v = .int .i64 (firstP p xs 0) := by
  have hl := hx.len
  have hF := wide_wide
  refine Ct_start (args := [_, _]) Tryd.func128 (by rfl) Tryd.ntmps128 (by rfl) ?_
  refine W_seq ?_
  refine W_region_lit (fun ds => ?_)
  refine WS_det hF (by rfl) (y_assign (c := .int .i64 _) (by rfl)) ?_
  refine WS_nil ?_
  refine Then_normal ?_
  refine W_seq ?_
  refine W_seq ?_
  refine W_region_lit (fun ds => ?_)
  refine WS_det hF (by rfl) (y_move (c := .slice _ _ _) (by rfl)) ?_
  refine WS_det hF (by rfl) (y_len (by rfl) Tryd.runUnderlying22) ?_
  refine WS_det hF (by rfl) (y_move (c := .int .i64 _) (by rfl)) ?_
  refine WS_nil ?_
  refine Then_normal ?_
  refine W_block ?_
  refine W_loop (γ := Nat) (fun k => k ≤ n ∧ firstP p (xs.drop k) k = firstP p xs 0) (fun k => [(8, .int .i64 (k : Int)), (7, .int .i64 (n : Int)), (0, .slice a n cap), (1, .func (.func fid) #[] caps.toArray)]) (fun _ => _) (fun k => n - k) (0) ⟨Nat.zero_le _, by simp⟩ (by repeat (first | exact trivial | refine ⟨by rfl, ?_⟩)) (List.Sublist.refl _) ?_
  intro k e hk
  refine W_seq ?_
  refine W_region_lit (fun ds => ?_)
  refine WS_det hF (by rfl) (y_lss (by rfl) (by rfl)) ?_
  refine WS_nil ?_
  refine Then_normal ?_
  refine W_seq ?_
  refine W_cond (by rfl) (fun c2 => ?_) (fun c2 => ?_)
  ·
    try simp only [Bool.not_eq_true', Bool.not_eq_false', decide_eq_true_eq, decide_eq_false_iff_not, ne_eq, Classical.not_not, Int.not_lt, Int.not_le] at c2
    obtain ⟨b, o, rfl, hc⟩ := hx.cell k (by omega)
    refine W_skip ?_
    refine Then_normal ?_
    refine W_seq ?_
    refine W_block ?_
    refine W_seq ?_
    refine W_region_lit (fun ds => ?_)
    refine WS_det hF (by rfl) (y_move (c := .int .i64 _) (by rfl)) ?_
    refine WS_det hF (by rfl) (y_assign (c := .int .i64 _) (by rfl)) ?_
    refine WS_nil ?_
    refine Then_normal ?_
    refine W_seq ?_
    refine W_region_lit (fun ds => ?_)
    refine WS_det hF (by rfl) (y_move (c := _) (by rfl)) ?_
    refine WS_det hF (by rfl) (y_move (c := .slice _ _ _) (by rfl)) ?_
    refine WS_det hF (by rfl) (y_move (c := .int .i64 _) (by rfl)) ?_
    refine WS_det hF (by rfl) (y_index (k := k) (by rfl) (by rfl) (by first | rfl | omega) (by first | decide | omega) Tryd.runUnderlying22 Tryd.sizeOf3) ?_
    refine WS_det hF (by rfl) (y_load1 (by rfl) Tryd.isAgg3 (by first | exact Mem.old1 (by assumption) | exact Mem.oldAt1 (by assumption) (by rfl) | exact Mem.old (by assumption) | exact Mem.oldAtL1 (by assumption) (by rfl) (by rfl))) ?_
    refine WS_det hF (by rfl) (y_callL (first := []) (captured := caps) (by rfl) (by rfl) hp.enter (fun w hw => hp.call _ w hw.1)) ?_
    refine WS_nil ?_
    refine Then_normal ?_
    refine W_cond (by rfl) (fun c4 => ?_) (fun c4 => ?_)
    ·
      try simp only [Bool.not_eq_true', Bool.not_eq_false', decide_eq_true_eq, decide_eq_false_iff_not, ne_eq, Classical.not_not, Int.not_lt, Int.not_le] at c4
      refine W_seq ?_
      refine W_region_lit (fun ds => ?_)
      refine WS_det hF (by rfl) (y_move (c := .int .i64 _) (by rfl)) ?_
      refine WS_det hF (by rfl) (y_assign (c := .int .i64 _) (by rfl)) ?_
      refine WS_nil ?_
      refine Then_normal ?_
      refine W_ret ?_
      refine InB_ret ?_
      refine Then_ret ?_
      refine Loop_ret ?_
      refine InB_ret ?_
      refine Then_ret ?_
      refine Fin_ret [.int .i64 _] [] Tryd.results128 ⟨by rfl, trivial⟩ HSub.nil ?_
      show _ = _
      rw [firstP_step (by omega), c4] at hk
      simp [tupOf, ← hk.2]
    ·
      try simp only [Bool.not_eq_true', Bool.not_eq_false', decide_eq_true_eq, decide_eq_false_iff_not, ne_eq, Classical.not_not, Int.not_lt, Int.not_le] at c4
      refine W_skip ?_
      refine InB_normal ?_
      refine Then_normal ?_
      refine W_region_lit (fun ds => ?_)
      refine WS_det hF (by rfl) (y_add (by rfl) (by rfl) (by unfold I64; omega)) ?_
      refine WS_det hF (by rfl) (y_move (c := .int .i64 _) (by rfl)) ?_
      refine WS_nil ?_
      exact Loop_next (k + 1) ⟨by omega, by rw [firstP_step (by omega), c4] at hk; exact hk.2⟩ (by repeat (first | exact trivial | refine ⟨by rfl, ?_⟩)) (by repeat (first | exact List.Sublist.refl _ | exact List.nil_sublist _ | apply List.Sublist.cons_cons | apply List.Sublist.cons)) (by omega)
  ·
    try simp only [Bool.not_eq_true', Bool.not_eq_false', decide_eq_true_eq, decide_eq_false_iff_not, ne_eq, Classical.not_not, Int.not_lt, Int.not_le] at c2
    refine W_exit ?_
    refine Then_exit ?_
    refine Loop_exit ?_
    refine InB_same ?_
    refine Then_normal ?_
    refine W_seq ?_
    refine W_region_lit (fun ds => ?_)
    refine WS_det hF (by rfl) (y_assign (c := .int .i64 _) (by rfl)) ?_
    refine WS_nil ?_
    refine Then_normal ?_
    refine W_ret ?_
    refine Fin_ret [.int .i64 _] [] Tryd.results128 ⟨by rfl, trivial⟩ HSub.nil ?_
    show _ = _
    obtain rfl : k = n := by omega
    rw [← hk.2, ← hl]; simp [tupOf, firstP]
theorem ctP_any (fid : FuncId) (caps : List Value) (p : Int → Bool) (a : Option Addr) (n cap : Nat) (xs : List Int) (w : World) (hn : (n : Int) ≤ 9223372036854775806) (hx : Ints w a n cap xs) (hp : Tells Tryd.prog w fid caps p) :
    Ct Tryd.prog 94 #[.slice a n cap, .func (.func fid) #[] caps.toArray] w fun v _ => v = .bool (xs.any p) := by
  have hF := wide_wide
  refine Ct_start (args := [_, _]) Tryd.func94 (by rfl) Tryd.ntmps94 (by rfl) ?_
  refine W_seq ?_
  refine W_region_lit (fun ds => ?_)
  refine WS_det hF (by rfl) (y_assign (c := .bool _) (by rfl)) ?_
  refine WS_nil ?_
  refine Then_normal ?_
  refine W_seq ?_
  refine W_region_lit (fun ds => ?_)
  refine WS_det hF (by rfl) (y_move (c := .slice _ _ _) (by rfl)) ?_
  refine WS_det hF (by rfl) (y_move (c := _) (by rfl)) ?_
  refine WS_det hF (by rfl) (y_callL (by rfl) (by rfl) Tryd.call128 (fun w hw => ixP_any fid caps p a n cap xs w hn (hx.st w hw) (hp.st w hw))) ?_
  refine WS_det hF (by rfl) (y_geq (by rfl) (by rfl)) ?_
  refine WS_det hF (by rfl) (y_assign (c := .bool _) (by rfl)) ?_
  refine WS_nil ?_
  refine Then_normal ?_
  refine W_ret ?_
  refine Fin_ret [.bool _] [] Tryd.results94 ⟨by rfl, trivial⟩ HSub.nil ?_
  show Value.bool _ = _
  rw [firstP_lt]
theorem cin1_any (n lo hi : Int) (p q o1 o2 : Nat) (w : World) (h1 : At w p o1 [.int .i64 lo]) (h2 : At w q o2 [.int .i64 hi]) :
    Ct Tryd.prog 95 #[.int .i64 n, .pointer (some ⟨p, o1, none⟩), .pointer (some ⟨q, o2, none⟩)] w fun v _ => v = .bool (outB lo hi n) := by
  have hF := wide_wide
  refine Ct_start (args := [_, _, _]) Tryd.func95 (by rfl) Tryd.ntmps95 (by rfl) ?_
  refine W_seq ?_
  refine W_region_lit (fun ds => ?_)
  refine WS_det hF (by rfl) (y_assign (c := .bool _) (by rfl)) ?_
  refine WS_nil ?_
  refine Then_normal ?_
  refine W_seq ?_
  refine W_region_lit (fun ds => ?_)
  refine WS_det hF (by rfl) (y_move (c := .int .i64 _) (by rfl)) ?_
  refine WS_det hF (by rfl) (y_load1 (by rfl) Tryd.isAgg3 (by first | exact Mem.old1 (by assumption) | exact Mem.oldAt1 (by assumption) (by rfl) | exact Mem.old (by assumption) | exact Mem.oldAtL1 (by assumption) (by rfl) (by rfl))) ?_
  refine WS_det hF (by rfl) (y_lss (by rfl) (by rfl)) ?_
  refine WS_det hF (by rfl) (y_move (c := .bool _) (by rfl)) ?_
  refine WS_split 8 (by rfl) (fun g1_3 => ?_) (fun g1_3 => ?_)
  ·
    try simp only [Bool.not_eq_true', Bool.not_eq_false', decide_eq_true_eq, decide_eq_false_iff_not, ne_eq, Classical.not_not, Int.not_lt, Int.not_le] at g1_3
    refine WS_no hF (by rfl) ?_
    refine WS_no hF (by rfl) ?_
    refine WS_no hF (by rfl) ?_
    refine WS_det hF (by rfl) (by first | exact y_pick_t (c := .bool _) (by rfl) (by rfl) | exact y_pick_f (c := .bool _) (by rfl) (by rfl)) ?_
    refine WS_det hF (by rfl) (y_assign (c := .bool _) (by rfl)) ?_
    refine WS_nil ?_
    refine Then_normal ?_
    refine W_ret ?_
    refine Fin_ret [.bool _] [] Tryd.results95 ⟨by rfl, trivial⟩ HSub.nil ?_
    show _ = _
    simp [tupOf, outB, *] <;> omega
  ·
    try simp only [Bool.not_eq_true', Bool.not_eq_false', decide_eq_true_eq, decide_eq_false_iff_not, ne_eq, Classical.not_not, Int.not_lt, Int.not_le] at g1_3
    refine WS_det hF (by rfl) (y_move (c := .int .i64 _) (by rfl)) ?_
    refine WS_det hF (by rfl) (y_load1 (by rfl) Tryd.isAgg3 (by first | exact Mem.old1 (by assumption) | exact Mem.oldAt1 (by assumption) (by rfl) | exact Mem.old (by assumption) | exact Mem.oldAtL1 (by assumption) (by rfl) (by rfl))) ?_
    refine WS_det hF (by rfl) (y_gtr (by rfl) (by rfl)) ?_
    refine WS_det hF (by rfl) (by first | exact y_pick_t (c := .bool _) (by rfl) (by rfl) | exact y_pick_f (c := .bool _) (by rfl) (by rfl)) ?_
    refine WS_det hF (by rfl) (y_assign (c := .bool _) (by rfl)) ?_
    refine WS_nil ?_
    refine Then_normal ?_
    refine W_ret ?_
    refine Fin_ret [.bool _] [] Tryd.results95 ⟨by rfl, trivial⟩ HSub.nil ?_
    show _ = _
    simp [tupOf, outB, *] <;> omega
theorem cin_any (a : Option Addr) (n cap : Nat) (xs : List Int) (lo hi : Int) (w : World) (hn : (n : Int) ≤ 9223372036854775806) (hx : Ints w a n cap xs) :
    Ct Tryd.prog 56 #[.int .i64 lo, .int .i64 hi, .slice a n cap] w fun v _ => v = .bool (inB lo hi xs) := by
  have hF := wide_wide
  refine Ct_start (args := [_, _, _]) Tryd.func56 (by rfl) Tryd.ntmps56 (by rfl) ?_
  refine W_seq ?_
  refine W_region_lit (fun ds => ?_)
  refine WS_new hF (by rfl) (y_box (by rfl)) (fun b1 => ?_)
  refine WS_new hF (by rfl) (y_box (by rfl)) (fun b2 => ?_)
  refine WS_det hF (by rfl) (y_assign (c := .bool _) (by rfl)) ?_
  refine WS_nil ?_
  refine Then_normal ?_
  refine W_seq ?_
  refine W_region_lit (fun ds => ?_)
  refine WS_det hF (by rfl) (y_move (c := .slice _ _ _) (by rfl)) ?_
  refine WS_det hF (by rfl) (y_makeFuncL (by rfl) (by rfl)) ?_
  refine WS_det hF (by rfl) (y_callL (by rfl) (by rfl) Tryd.call94 (fun w hw => ctP_any 95 [_, _] (outB lo hi) a n cap xs w hn (hx.st w hw) ⟨Tryd.call95, fun x w' hb => cin1_any x lo hi _ _ 0 0 w' (At.old hb (Mem.own1 1 rfl rfl w hw)) (At.old hb (Mem.own1 0 rfl rfl w hw))⟩)) ?_
  refine WS_det hF (by rfl) (y_not (by rfl)) ?_
  refine WS_det hF (by rfl) (y_assign (c := .bool _) (by rfl)) ?_
  refine WS_nil ?_
  refine Then_normal ?_
  refine W_ret ?_
  refine Fin_ret [.bool _] [] Tryd.results56 ⟨by rfl, trivial⟩ HSub.nil ?_
  show Value.bool _ = _
  rw [inB_any]

def Cn.chkB (c : Cn) : Nat → Bool
  | 0 => inB 1 3 [(c.n : Int)] && decide (c.inn.length = c.n)
  | 1 => inB 1 20 c.sz && inB 0 600 [c.st]
  | _ => c.fitB c.n
theorem chk1_any (c : Cn) (a1 : Option Addr) (p1 : Nat) (a2 : Option Addr) (p2 : Nat) (w : World) (hn : c.n ≤ 1000000) (hm : c.inn.length ≤ 1000000) (h1 : Ints w a1 c.n p1 c.sz) (h2 : Ints w a2 c.inn.length p2 c.inn) : Ct Tryd.prog 225 #[.agg #[.slice a1 c.n p1, .slice a2 c.inn.length p2, .int .i64 c.st]] w fun v _ => v = .bool (c.chkB 0) := by
  have hF := wide_wide
  refine Ct_start (args := [_]) Tryd.func225 (by rfl) Tryd.ntmps225 (by rfl) ?_
  refine W_seq ?_
  refine W_region_lit (fun ds => ?_)
  refine WS_new hF (by rfl) (y_box (by rfl)) (fun b1 => ?_)
  refine WS_det hF (by rfl) (y_assign (c := .bool _) (by rfl)) ?_
  refine WS_nil ?_
  refine Then_normal ?_
  refine W_seq ?_
  refine W_region_lit (fun ds => ?_)
  refine WS_det hF (by rfl) (y_fieldAddr (by rfl) fa24_0) ?_
  refine WS_det hF (by rfl) (y_load1 (by rfl) Tryd.isAgg22 (Mem.own1 0 (by rfl) (by rfl))) ?_
  refine WS_det hF (by rfl) (y_len (by rfl) Tryd.runUnderlying22) ?_
  refine WS_newS hF (by rfl) (y_buildSliceL bs22_1_0 (by rfl)) (fun b2 => ?_)
  refine WS_det hF (by rfl) (y_callL (by rfl) (by rfl) Tryd.call56 (fun w hw => cin_any _ _ _ _ _ _ w (by decide) (by first | exact Ints.one 0 rfl w hw | exact Ints.two 0 rfl w hw))) ?_
  refine WS_det hF (by rfl) (y_move (c := .bool _) (by rfl)) ?_
  refine WS_split 8 (by rfl) (fun g1_5 => ?_) (fun g1_5 => ?_)
  ·
    try simp only [Bool.not_eq_true', Bool.not_eq_false', decide_eq_true_eq, decide_eq_false_iff_not, ne_eq, Classical.not_not, Int.not_lt, Int.not_le] at g1_5
    refine WS_det hF (by rfl) (y_fieldAddr (by rfl) fa24_1) ?_
    refine WS_det hF (by rfl) (y_load1 (by rfl) Tryd.isAgg22 (Mem.own1 1 (by rfl) (by rfl))) ?_
    refine WS_det hF (by rfl) (y_len (by rfl) Tryd.runUnderlying22) ?_
    refine WS_det hF (by rfl) (y_fieldAddr (by rfl) fa24_0) ?_
    refine WS_det hF (by rfl) (y_load1 (by rfl) Tryd.isAgg22 (Mem.own1 1 (by rfl) (by rfl))) ?_
    refine WS_det hF (by rfl) (y_len (by rfl) Tryd.runUnderlying22) ?_
    refine WS_det hF (by rfl) (y_eql (by rfl) (by rfl)) ?_
    refine WS_det hF (by rfl) (by first | exact y_pick_t (c := .bool _) (by rfl) (by rfl) | exact y_pick_f (c := .bool _) (by rfl) (by rfl)) ?_
    refine WS_det hF (by rfl) (y_assign (c := .bool _) (by rfl)) ?_
    refine WS_nil ?_
    refine Then_normal ?_
    refine W_ret ?_
    refine Fin_ret [.bool _] [] Tryd.results225 ⟨by rfl, trivial⟩ HSub.nil ?_
    show Value.bool _ = _
    unfold Cn.chkB
    simp [*] <;> omega
  ·
    try simp only [Bool.not_eq_true', Bool.not_eq_false', decide_eq_true_eq, decide_eq_false_iff_not, ne_eq, Classical.not_not, Int.not_lt, Int.not_le] at g1_5
    refine WS_no hF (by rfl) ?_
    refine WS_no hF (by rfl) ?_
    refine WS_no hF (by rfl) ?_
    refine WS_no hF (by rfl) ?_
    refine WS_no hF (by rfl) ?_
    refine WS_no hF (by rfl) ?_
    refine WS_no hF (by rfl) ?_
    refine WS_det hF (by rfl) (by first | exact y_pick_t (c := .bool _) (by rfl) (by rfl) | exact y_pick_f (c := .bool _) (by rfl) (by rfl)) ?_
    refine WS_det hF (by rfl) (y_assign (c := .bool _) (by rfl)) ?_
    refine WS_nil ?_
    refine Then_normal ?_
    refine W_ret ?_
    refine Fin_ret [.bool _] [] Tryd.results225 ⟨by rfl, trivial⟩ HSub.nil ?_
    show Value.bool _ = _
    unfold Cn.chkB
    simp [*] <;> omega
theorem chk2_any (c : Cn) (a1 : Option Addr) (p1 : Nat) (a2 : Option Addr) (p2 : Nat) (w : World) (hn : c.n ≤ 1000000) (hm : c.inn.length ≤ 1000000) (h1 : Ints w a1 c.n p1 c.sz) (h2 : Ints w a2 c.inn.length p2 c.inn) : Ct Tryd.prog 226 #[.agg #[.slice a1 c.n p1, .slice a2 c.inn.length p2, .int .i64 c.st]] w fun v _ => v = .bool (c.chkB 1) := by
  have hF := wide_wide
  refine Ct_start (args := [_]) Tryd.func226 (by rfl) Tryd.ntmps226 (by rfl) ?_
  refine W_seq ?_
  refine W_region_lit (fun ds => ?_)
  refine WS_new hF (by rfl) (y_box (by rfl)) (fun b1 => ?_)
  refine WS_det hF (by rfl) (y_assign (c := .bool _) (by rfl)) ?_
  refine WS_nil ?_
  refine Then_normal ?_
  refine W_seq ?_
  refine W_region_lit (fun ds => ?_)
  refine WS_det hF (by rfl) (y_fieldAddr (by rfl) fa24_0) ?_
  refine WS_det hF (by rfl) (y_load1 (by rfl) Tryd.isAgg22 (Mem.own1 0 (by rfl) (by rfl))) ?_
  refine WS_det hF (by rfl) (y_callL (by rfl) (by rfl) Tryd.call56 (fun w hw => cin_any _ _ _ _ _ _ w (by omega) (h1.st w hw))) ?_
  refine WS_det hF (by rfl) (y_move (c := .bool _) (by rfl)) ?_
  refine WS_split 6 (by rfl) (fun g1_3 => ?_) (fun g1_3 => ?_)
  ·
    try simp only [Bool.not_eq_true', Bool.not_eq_false', decide_eq_true_eq, decide_eq_false_iff_not, ne_eq, Classical.not_not, Int.not_lt, Int.not_le] at g1_3
    refine WS_det hF (by rfl) (y_fieldAddr (by rfl) fa24_2) ?_
    refine WS_det hF (by rfl) (y_load1 (by rfl) Tryd.isAgg3 (Mem.own1 0 (by rfl) (by rfl))) ?_
    refine WS_newS hF (by rfl) (y_buildSliceL bs22_1_0 (by rfl)) (fun b2 => ?_)
    refine WS_det hF (by rfl) (y_callL (by rfl) (by rfl) Tryd.call56 (fun w hw => cin_any _ _ _ _ _ _ w (by decide) (by first | exact Ints.one 0 rfl w hw | exact Ints.two 0 rfl w hw))) ?_
    refine WS_det hF (by rfl) (by first | exact y_pick_t (c := .bool _) (by rfl) (by rfl) | exact y_pick_f (c := .bool _) (by rfl) (by rfl)) ?_
    refine WS_det hF (by rfl) (y_assign (c := .bool _) (by rfl)) ?_
    refine WS_nil ?_
    refine Then_normal ?_
    refine W_ret ?_
    refine Fin_ret [.bool _] [] Tryd.results226 ⟨by rfl, trivial⟩ HSub.nil ?_
    show Value.bool _ = _
    unfold Cn.chkB
    simp [*]
  ·
    try simp only [Bool.not_eq_true', Bool.not_eq_false', decide_eq_true_eq, decide_eq_false_iff_not, ne_eq, Classical.not_not, Int.not_lt, Int.not_le] at g1_3
    refine WS_no hF (by rfl) ?_
    refine WS_no hF (by rfl) ?_
    refine WS_no hF (by rfl) ?_
    refine WS_no hF (by rfl) ?_
    refine WS_det hF (by rfl) (by first | exact y_pick_t (c := .bool _) (by rfl) (by rfl) | exact y_pick_f (c := .bool _) (by rfl) (by rfl)) ?_
    refine WS_det hF (by rfl) (y_assign (c := .bool _) (by rfl)) ?_
    refine WS_nil ?_
    refine Then_normal ?_
    refine W_ret ?_
    refine Fin_ret [.bool _] [] Tryd.results226 ⟨by rfl, trivial⟩ HSub.nil ?_
    show Value.bool _ = _
    unfold Cn.chkB
    simp [*]
theorem chk3_any (c : Cn) (a1 : Option Addr) (p1 : Nat) (a2 : Option Addr) (p2 : Nat) (w : World) (hl : c.inn.length = c.n) (hn : c.n ≤ 1000000) (hm : c.inn.length ≤ 1000000) (h1 : Ints w a1 c.n p1 c.sz) (h2 : Ints w a2 c.inn.length p2 c.inn) : Ct Tryd.prog 227 #[.agg #[.slice a1 c.n p1, .slice a2 c.inn.length p2, .int .i64 c.st]] w fun v _ => v = .bool (c.chkB 2) := by
  have hF := wide_wide
  refine Ct_start (args := [_]) Tryd.func227 (by rfl) Tryd.ntmps227 (by rfl) ?_
  refine W_seq ?_
  refine W_region_lit (fun ds => ?_)
  refine WS_new hF (by rfl) (y_box (by rfl)) (fun b1 => ?_)
  refine WS_det hF (by rfl) (y_assign (c := .bool _) (by rfl)) ?_
  refine WS_nil ?_
  refine Then_normal ?_
  refine W_seq ?_
  refine W_seq ?_
  refine W_region_lit (fun ds => ?_)
  refine WS_det hF (by rfl) (y_fieldAddr (by rfl) fa24_0) ?_
  refine WS_det hF (by rfl) (y_load1 (by rfl) Tryd.isAgg22 (Mem.own1 0 (by rfl) (by rfl))) ?_
  refine WS_det hF (by rfl) (y_len (by rfl) Tryd.runUnderlying22) ?_
  refine WS_det hF (by rfl) (y_move (c := .int .i64 _) (by rfl)) ?_
  refine WS_nil ?_
  refine Then_normal ?_
  refine W_block ?_
  refine W_loop (γ := Nat) (fun k => k ≤ c.n ∧ c.fitB k = true) (fun k => [(1, .pointer (some ⟨b1, 0, none⟩)), (6, .slice a1 c.n p1), (7, .int .i64 (c.n : Int)), (8, .int .i64 (k : Int))]) (fun _ => _) (fun k => c.n - k) (0) ⟨Nat.zero_le _, rfl⟩ (by repeat (first | exact trivial | refine ⟨by rfl, ?_⟩)) (List.Sublist.refl _) ?_
  rintro k e ⟨hk, hfit⟩
  refine W_seq ?_
  refine W_region_lit (fun ds => ?_)
  refine WS_det hF (by rfl) (y_lss (by rfl) (by rfl)) ?_
  refine WS_nil ?_
  refine Then_normal ?_
  refine W_seq ?_
  refine W_cond (by rfl) (fun c2 => ?_) (fun c2 => ?_)
  ·
    try simp only [Bool.not_eq_true', Bool.not_eq_false', decide_eq_true_eq, decide_eq_false_iff_not, ne_eq, Classical.not_not, Int.not_lt, Int.not_le] at c2
    obtain ⟨b, o, rfl, hc⟩ := h1.cell k (by omega)
    obtain ⟨b', o', rfl, hc'⟩ := h2.cell k (by omega)
    change At w b _ [.int .i64 (c.s k)] at hc
    change At w b' _ [.int .i64 (c.i k)] at hc'
    refine W_skip ?_
    refine Then_normal ?_
    refine W_seq ?_
    refine W_block ?_
    refine W_seq ?_
    refine W_region_lit (fun ds => ?_)
    refine WS_det hF (by rfl) (y_move (c := .int .i64 _) (by rfl)) ?_
    refine WS_det hF (by rfl) (y_index (k := k) (by rfl) (by rfl) (by first | rfl | omega) (by first | decide | omega) Tryd.runUnderlying22 Tryd.sizeOf3) ?_
    refine WS_det hF (by rfl) (y_load1 (by rfl) Tryd.isAgg3 (by first | exact Mem.old1 (by assumption) | exact Mem.oldAt1 (by assumption) (by rfl) | exact Mem.old (by assumption) | exact Mem.oldAtL1 (by assumption) (by rfl) (by rfl))) ?_
    refine WS_det hF (by rfl) (y_assign (c := .int .i64 _) (by rfl)) ?_
    refine WS_det hF (by rfl) (y_assign (c := .int .i64 _) (by rfl)) ?_
    refine WS_nil ?_
    refine Then_normal ?_
    refine W_seq ?_
    refine W_region_lit (fun ds => ?_)
    refine WS_det hF (by rfl) (y_move (c := .int .i64 _) (by rfl)) ?_
    refine WS_det hF (by rfl) (y_fieldAddr (by rfl) fa24_1) ?_
    refine WS_det hF (by rfl) (y_load1 (by rfl) Tryd.isAgg22 (Mem.own1 0 (by rfl) (by rfl))) ?_
    refine WS_det hF (by rfl) (y_move (c := .int .i64 _) (by rfl)) ?_
    refine WS_det hF (by rfl) (y_index (k := k) (by rfl) (by rfl) (by first | rfl | omega) (by first | decide | omega) Tryd.runUnderlying22 Tryd.sizeOf3) ?_
    refine WS_det hF (by rfl) (y_load1 (by rfl) Tryd.isAgg3 (by first | exact Mem.old1 (by assumption) | exact Mem.oldAt1 (by assumption) (by rfl) | exact Mem.old (by assumption) | exact Mem.oldAtL1 (by assumption) (by rfl) (by rfl))) ?_
    refine WS_newS hF (by rfl) (y_buildSliceL bs22_1_0 (by rfl)) (fun b2 => ?_)
    refine WS_det hF (by rfl) (y_callL (by rfl) (by rfl) Tryd.call56 (fun w hw => cin_any _ _ _ _ _ _ w (by decide) (by first | exact Ints.one 0 rfl w hw | exact Ints.two 0 rfl w hw))) ?_
    refine WS_det hF (by rfl) (y_not (by rfl)) ?_
    refine WS_nil ?_
    refine Then_normal ?_
    refine W_cond (by rfl) (fun c4 => ?_) (fun c4 => ?_)
    ·
      try simp only [Bool.not_eq_true', Bool.not_eq_false', decide_eq_true_eq, decide_eq_false_iff_not, ne_eq, Classical.not_not, Int.not_lt, Int.not_le] at c4
      refine W_seq ?_
      refine W_region_lit (fun ds => ?_)
      refine WS_det hF (by rfl) (y_assign (c := .bool _) (by rfl)) ?_
      refine WS_nil ?_
      refine Then_normal ?_
      refine W_ret ?_
      refine InB_ret ?_
      refine Then_ret ?_
      refine Loop_ret ?_
      refine InB_ret ?_
      refine Then_ret ?_
      refine Fin_ret [.bool _] [] Tryd.results227 ⟨by rfl, trivial⟩ HSub.nil ?_
      show Value.bool _ = _
      exact congrArg Value.bool (Cn.fitB_false (k := k) (by omega) c4).symm
    ·
      try simp only [Bool.not_eq_true', Bool.not_eq_false', decide_eq_true_eq, decide_eq_false_iff_not, ne_eq, Classical.not_not, Int.not_lt, Int.not_le] at c4
      refine W_skip ?_
      refine InB_normal ?_
      refine Then_normal ?_
      refine W_region_lit (fun ds => ?_)
      refine WS_det hF (by rfl) (y_add (by rfl) (by rfl) (by unfold I64; omega)) ?_
      refine WS_det hF (by rfl) (y_move (c := .int .i64 _) (by rfl)) ?_
      refine WS_nil ?_
      exact Loop_next (k + 1) ⟨by omega, by rw [c.fitB_succ, hfit, c4]; rfl⟩ (by repeat (first | exact trivial | refine ⟨by rfl, ?_⟩)) (by repeat (first | exact List.Sublist.refl _ | exact List.nil_sublist _ | apply List.Sublist.cons_cons | apply List.Sublist.cons)) (by omega)
  ·
    try simp only [Bool.not_eq_true', Bool.not_eq_false', decide_eq_true_eq, decide_eq_false_iff_not, ne_eq, Classical.not_not, Int.not_lt, Int.not_le] at c2
    refine W_exit ?_
    refine Then_exit ?_
    refine Loop_exit ?_
    refine InB_same ?_
    refine Then_normal ?_
    refine W_seq ?_
    refine W_region_lit (fun ds => ?_)
    refine WS_det hF (by rfl) (y_assign (c := .bool _) (by rfl)) ?_
    refine WS_nil ?_
    refine Then_normal ?_
    refine W_ret ?_
    refine Fin_ret [.bool _] [] Tryd.results227 ⟨by rfl, trivial⟩ HSub.nil ?_
    show Value.bool _ = _
    obtain rfl : k = c.n := by omega
    exact congrArg Value.bool hfit.symm
def chkF : Nat → FuncId
  | 0 => 225
  | 1 => 226
  | _ => 227
def chkV : List Value := [.func (.func 225) #[] #[], .func (.func 226) #[] #[], .func (.func 227) #[] #[]]
/-- The table of checks, where it was laid. -/
def Gv (w : World) : Prop := At w 0 0 chkV
theorem Gv.st {C : Ctx} {H : List Blk} (h : Gv C.w0) (w : World) (hw : St C H w) : Gv w := At.old hw.1 h
theorem chk_enter (k : Nat) : ∀ args w, (callFunc (chkF k) args).run Tryd.prog w = .ok (.enter (chkF k) args) w := by
  match k with
  | 0 => exact Tryd.call225
  | 1 => exact Tryd.call226
  | _ + 2 => exact Tryd.call227
theorem chk_part (k : Nat) (hk : k < 3) : ∀ w, (part 106 chkV.toArray (k * 1)).run Tryd.prog w = .ok (.agg #[.func (.func (chkF k)) #[] #[]]) w := by
  obtain rfl | rfl | rfl : k = 0 ∨ k = 1 ∨ k = 2 := by omega
  all_goals exact fun w => by kernel_rfl
theorem chk_any (k : Nat) (hk : k < 3) (c : Cn) (a1 : Option Addr) (p1 : Nat) (a2 : Option Addr) (p2 : Nat) (w : World) (hj : ∀ j, j < k → c.chkB j = true) (hn : c.n ≤ 1000000) (hm : c.inn.length ≤ 1000000) (h1 : Ints w a1 c.n p1 c.sz) (h2 : Ints w a2 c.inn.length p2 c.inn) : Ct Tryd.prog (chkF k) #[.agg #[.slice a1 c.n p1, .slice a2 c.inn.length p2, .int .i64 c.st]] w fun v _ => v = .bool (c.chkB k) := by
  obtain rfl | rfl | rfl : k = 0 ∨ k = 1 ∨ k = 2 := by omega
  · exact chk1_any c a1 p1 a2 p2 w hn hm h1 h2
  · exact chk2_any c a1 p1 a2 p2 w hn hm h1 h2
  · refine chk3_any c a1 p1 a2 p2 w ?_ hn hm h1 h2
    have := hj 0 (by decide)
    unfold Cn.chkB at this
    simp only [Bool.and_eq_true, decide_eq_true_eq] at this
    exact this.2
theorem Cn.okB_no {c : Cn} (h : ¬ c.Ok) : Value.bool false = Value.bool c.okB := by
  cases hb : c.okB with
  | false => rfl
  | true => exact absurd (Cn.ok_iff.1 hb) h
theorem Cn.okB_yes {c : Cn} (h : c.Ok) : Value.bool true = Value.bool c.okB := by rw [Cn.ok_iff.2 h]
theorem Cn.okB_chk (c : Cn) : c.okB = (c.chkB 0 && c.chkB 1 && c.chkB 2) := rfl
theorem Cn.err_bad {c : Cn} {k : Nat} (hk : k < 3) (h : c.chkB k = false) : c.err = 80 := by
  unfold Cn.err
  rw [c.okB_chk]
  obtain rfl | rfl | rfl : k = 0 ∨ k = 1 ∨ k = 2 := by omega
  all_goals simp [h]
theorem Cn.err_ok {c : Cn} (h : ∀ j, j < 3 → c.chkB j = true) : c.err = 0 := by
  unfold Cn.err
  rw [c.okB_chk, h 0 (by decide), h 1 (by decide), h 2 (by decide)]
  rfl
theorem ccheck_any (c : Cn) (a1 : Option Addr) (p1 : Nat) (a2 : Option Addr) (p2 : Nat) (w : World) (hG : Gv w) (hn : c.n ≤ 1000000) (hm : c.inn.length ≤ 1000000) (h1 : Ints w a1 c.n p1 c.sz) (h2 : Ints w a2 c.inn.length p2 c.inn) : Ct Tryd.prog 16 #[.agg #[.slice a1 c.n p1, .slice a2 c.inn.length p2, .int .i64 c.st]] w fun v _ => v = .int .i64 c.err := by
  have hG0 : At w 0 0 chkV := hG
  have hF := wide_wide
  refine Ct_start (args := [_]) Tryd.func16 (by rfl) Tryd.ntmps16 (by rfl) ?_
  refine W_seq ?_
  refine W_region_lit (fun ds => ?_)
  refine WS_new hF (by rfl) (y_box (by rfl)) (fun b1 => ?_)
  refine WS_det hF (by rfl) (y_assign (c := .int .i64 _) (by rfl)) ?_
  refine WS_nil ?_
  refine Then_normal ?_
  refine W_seq ?_
  refine W_seq ?_
  refine W_region_lit (fun ds => ?_)
  refine WS_det hF (by rfl) (y_loadN (by rfl) Tryd.isAgg107 Tryd.sizeOf107 (by first | exact Mem.old (by assumption) | exact Mem.oldAt (us := [_, _, _]) (by assumption) (by rfl) | exact Mem.oldAtL (us := [_, _, _]) (by assumption) (by rfl) (by rfl)) (by rfl)) ?_
  refine WS_det hF (by rfl) (y_move (c := .int .i64 _) (by rfl)) ?_
  refine WS_nil ?_
  refine Then_normal ?_
  refine W_block ?_
  refine W_loop (γ := Nat) (fun k => k ≤ 3 ∧ ∀ j, j < k → c.chkB j = true) (fun k => [(1, .pointer (some ⟨b1, 0, none⟩)), (5, .agg chkV.toArray), (6, .int .i64 (k : Int))]) (fun _ => _) (fun k => 3 - k) (0) ⟨Nat.zero_le _, fun j h => absurd h (Nat.not_lt_zero _)⟩ (by repeat (first | exact trivial | refine ⟨by rfl, ?_⟩)) (List.Sublist.refl _) ?_
  rintro k e ⟨hk, hj⟩
  refine W_seq ?_
  refine W_region_lit (fun ds => ?_)
  refine WS_det hF (by rfl) (y_lss (by rfl) (by rfl)) ?_
  refine WS_nil ?_
  refine Then_normal ?_
  refine W_seq ?_
  refine W_cond (by rfl) (fun c2 => ?_) (fun c2 => ?_)
  ·
    try simp only [Bool.not_eq_true', Bool.not_eq_false', decide_eq_true_eq, decide_eq_false_iff_not, ne_eq, Classical.not_not, Int.not_lt, Int.not_le] at c2
    refine W_skip ?_
    refine Then_normal ?_
    refine W_seq ?_
    refine W_block ?_
    refine W_seq ?_
    refine W_region_lit (fun ds => ?_)
    refine WS_det hF (by rfl) (y_indexV (k := k) (by rfl) (by rfl) (by rfl) (by omega) Tryd.runUnderlying107 Tryd.sizeOf106 (chk_part k (by omega))) ?_
    refine WS_new hF (by rfl) (y_alloc Tryd.zeroValue106 (by rfl)) (fun b2 => ?_)
    refine WS_store hF (i := 0) (by rfl) (by rfl) Tryd.sizeOf106 (by rfl) (by rfl) (by rfl) (by first | decide | exact Nat.le_of_ble_eq_true rfl | simp) ?_
    refine WS_nil ?_
    refine Then_normal ?_
    refine W_seq ?_
    refine W_region_lit (fun ds => ?_)
    refine WS_det hF (by rfl) (y_fieldAddr (by rfl) fa106_0) ?_
    refine WS_det hF (by rfl) (y_load1 (by rfl) Tryd.isAgg28 (Mem.own1 0 (by rfl) (by rfl))) ?_
    refine WS_det hF (by rfl) (y_loadN (by rfl) Tryd.isAgg24 Tryd.sizeOf24 (Mem.own (us := [.slice _ _ _, .slice _ _ _, .int .i64 _]) 1 (by rfl) (by rfl)) (by rfl)) ?_
    refine WS_det hF (by rfl) (y_callL (first := []) (captured := []) (by rfl) (by rfl) (chk_enter k) (fun w hw => chk_any k (by omega) c a1 p1 a2 p2 w hj hn hm (h1.st w hw) (h2.st w hw))) ?_
    refine WS_det hF (by rfl) (y_not (by rfl)) ?_
    refine WS_nil ?_
    refine Then_normal ?_
    refine W_cond (by rfl) (fun c4 => ?_) (fun c4 => ?_)
    ·
      try simp only [Bool.not_eq_true', Bool.not_eq_false', decide_eq_true_eq, decide_eq_false_iff_not, ne_eq, Classical.not_not, Int.not_lt, Int.not_le] at c4
      refine W_seq ?_
      refine W_region_lit (fun ds => ?_)
      refine WS_det hF (by rfl) (y_assign (c := .int .i64 _) (by rfl)) ?_
      refine WS_nil ?_
      refine Then_normal ?_
      refine W_ret ?_
      refine InB_ret ?_
      refine Then_ret ?_
      refine Loop_ret ?_
      refine InB_ret ?_
      refine Then_ret ?_
      refine Fin_ret [.int .i64 _] [] Tryd.results16 ⟨by rfl, trivial⟩ HSub.nil ?_
      show Value.int _ _ = _
      rw [Cn.err_bad (by omega) c4]
    ·
      try simp only [Bool.not_eq_true', Bool.not_eq_false', decide_eq_true_eq, decide_eq_false_iff_not, ne_eq, Classical.not_not, Int.not_lt, Int.not_le] at c4
      refine W_skip ?_
      refine InB_normal ?_
      refine Then_normal ?_
      refine W_region_lit (fun ds => ?_)
      refine WS_det hF (by rfl) (y_add (by rfl) (by rfl) (by unfold I64; omega)) ?_
      refine WS_det hF (by rfl) (y_move (c := .int .i64 _) (by rfl)) ?_
      refine WS_nil ?_
      exact Loop_next (k + 1) ⟨by omega, fun j hj2 => by by_cases h : j = k; (subst h; exact c4); exact hj j (by omega)⟩ (by repeat (first | exact trivial | refine ⟨by rfl, ?_⟩)) (by repeat (first | exact List.Sublist.refl _ | exact List.nil_sublist _ | apply List.Sublist.cons_cons | apply List.Sublist.cons)) (by omega)
  ·
    try simp only [Bool.not_eq_true', Bool.not_eq_false', decide_eq_true_eq, decide_eq_false_iff_not, ne_eq, Classical.not_not, Int.not_lt, Int.not_le] at c2
    refine W_exit ?_
    refine Then_exit ?_
    refine Loop_exit ?_
    refine InB_same ?_
    refine Then_normal ?_
    refine W_seq ?_
    refine W_region_lit (fun ds => ?_)
    refine WS_det hF (by rfl) (y_assign (c := .int .i64 _) (by rfl)) ?_
    refine WS_nil ?_
    refine Then_normal ?_
    refine W_ret ?_
    refine Fin_ret [.int .i64 _] [] Tryd.results16 ⟨by rfl, trivial⟩ HSub.nil ?_
    show Value.int _ _ = _
    rw [Cn.err_ok fun j h => hj j (by omega)]
end Go.Proofs.YtjekjehgmljbgaaDoor.T

/- The reference's cans, walked: whether they are valid, comparisons, copies. -/
namespace Go.Proofs.YtjekjehgmljbgaaDoor.T
open Go.RowKit Go.Proofs Go.Eng
set_option maxRecDepth 100000
set_option maxHeartbeats 1000000
set_option linter.unusedVariables false
set_option linter.unusedSimpArgs false

theorem bd24_0_1_2 {x0a : Option Addr} {x0l x0c : Nat} {x1a : Option Addr} {x1l x1c : Nat} {x2 : Int} : ∀ w, (Instr.build 24 #[(0, .slice x0a x0l x0c), (1, .slice x1a x1l x1c), (2, .int .i64 x2)]).run Tryd.prog w = .ok (.agg #[.slice x0a x0l x0c, .slice x1a x1l x1c, .int .i64 x2]) w := fun w => by kernel_rfl
theorem fa26_0 : ∀ b o w, (Instr.fieldAt 26 (.pointer (some ⟨b, o, none⟩)) 0).run Tryd.prog w = .ok (.pointer (some ⟨b, o + 0, none⟩)) w := fun b o w => by kernel_rfl
theorem fa26_1 : ∀ b o w, (Instr.fieldAt 26 (.pointer (some ⟨b, o, none⟩)) 1).run Tryd.prog w = .ok (.pointer (some ⟨b, o + 1, none⟩)) w := fun b o w => by kernel_rfl

theorem sameInts2_any (a a' : Option Addr) (n n' cap cap' : Nat) (xs ys : List Int) (w : World) (hn : n ≤ 1000000) (hx : Ints w a n cap xs) (hy : Ints w a' n' cap' ys) :
    Ct Tryd.prog 29 #[.slice a n cap, .slice a' n' cap'] w fun v _ => v = .bool (decide (xs = ys)) := by
  have hF := wide_wide
  refine Ct_start (args := [_, _]) Tryd.func29 (by rfl) Tryd.ntmps29 (by rfl) ?_
  refine W_seq ?_
  refine W_region_lit (fun ds => ?_)
  refine WS_det hF (by rfl) (y_assign (c := .bool _) (by rfl)) ?_
  refine WS_nil ?_
  refine Then_normal ?_
  refine W_seq ?_
  refine W_seq ?_
  refine W_region_lit (fun ds => ?_)
  refine WS_det hF (by rfl) (y_move (c := .slice _ _ _) (by rfl)) ?_
  refine WS_det hF (by rfl) (y_len (by rfl) Tryd.runUnderlying22) ?_
  refine WS_det hF (by rfl) (y_move (c := .slice _ _ _) (by rfl)) ?_
  refine WS_det hF (by rfl) (y_len (by rfl) Tryd.runUnderlying22) ?_
  refine WS_det hF (by rfl) (y_neq (by rfl) (by rfl)) ?_
  refine WS_nil ?_
  refine Then_normal ?_
  refine W_cond (by rfl) (fun c1 => ?_) (fun c1 => ?_)
  ·
    try simp only [Bool.not_eq_true', Bool.not_eq_false', decide_eq_true_eq, decide_eq_false_iff_not, ne_eq, Classical.not_not, Int.not_lt, Int.not_le] at c1
    refine W_seq ?_
    refine W_region_lit (fun ds => ?_)
    refine WS_det hF (by rfl) (y_assign (c := .bool _) (by rfl)) ?_
    refine WS_nil ?_
    refine Then_normal ?_
    refine W_ret ?_
    refine Then_ret ?_
    refine Fin_ret [.bool _] [] Tryd.results29 ⟨by rfl, trivial⟩ HSub.nil ?_
    show Value.bool _ = _
    rw [decide_eq_false]
    intro h
    have h1 := hx.len
    have h2 := hy.len
    rw [h] at h1
    omega
  ·
    try simp only [Bool.not_eq_true', Bool.not_eq_false', decide_eq_true_eq, decide_eq_false_iff_not, ne_eq, Classical.not_not, Int.not_lt, Int.not_le] at c1
    obtain rfl : n = n' := by omega
    refine W_skip ?_
    refine Then_normal ?_
    refine W_seq ?_
    refine W_seq ?_
    refine W_region_lit (fun ds => ?_)
    refine WS_det hF (by rfl) (y_assign (c := .int .i64 _) (by rfl)) ?_
    refine WS_nil ?_
    refine Then_normal ?_
    refine W_block ?_
    refine W_loop (γ := Nat) (fun k => k ≤ n ∧ ∀ j, j < k → xs.getD j 0 = ys.getD j 0) (fun k => [(5, .int .i64 (k : Int)), (0, .slice a n cap), (1, .slice a' n cap')]) (fun _ => _) (fun k => n - k) (0) ⟨Nat.zero_le _, fun j h => absurd h (Nat.not_lt_zero _)⟩ (by repeat (first | exact trivial | refine ⟨by rfl, ?_⟩)) (List.Sublist.refl _) ?_
    rintro k e ⟨hk, hj⟩
    refine W_seq ?_
    refine W_seq ?_
    refine W_region_lit (fun ds => ?_)
    refine WS_det hF (by rfl) (y_move (c := .int .i64 _) (by rfl)) ?_
    refine WS_det hF (by rfl) (y_move (c := .slice _ _ _) (by rfl)) ?_
    refine WS_det hF (by rfl) (y_len (by rfl) Tryd.runUnderlying22) ?_
    refine WS_det hF (by rfl) (y_lss (by rfl) (by rfl)) ?_
    refine WS_nil ?_
    refine Then_normal ?_
    refine W_cond (by rfl) (fun c4 => ?_) (fun c4 => ?_)
    ·
      try simp only [Bool.not_eq_true', Bool.not_eq_false', decide_eq_true_eq, decide_eq_false_iff_not, ne_eq, Classical.not_not, Int.not_lt, Int.not_le] at c4
      obtain ⟨b, o, rfl, h1⟩ := hx.cell k (by omega)
      obtain ⟨b', o', rfl, h2⟩ := hy.cell k (by omega)
      refine W_skip ?_
      refine Then_normal ?_
      refine W_seq ?_
      refine W_block ?_
      refine W_seq ?_
      refine W_draw0 hF Trydmixed [] (by decide +kernel) (fun ds => ?_)
      refine P_det (by rfl) (Over_nil (y_move (c := .slice _ _ _) (by rfl))) ?_
      refine P_det (by rfl) (Over_nil (y_move (c := .int .i64 _) (by rfl))) ?_
      refine P_det (by rfl) (Over_nil (y_index (k := k) (by rfl) (by rfl) (by first | rfl | omega) (by first | decide | omega) Tryd.runUnderlying22 Tryd.sizeOf3)) ?_
      refine P_det (by rfl) (Over_nil (y_load1 (by rfl) Tryd.isAgg3 (by first | exact Mem.old1 (by assumption) | exact Mem.oldAt1 (by assumption) (by rfl) | exact Mem.old (by assumption) | exact Mem.oldAtL1 (by assumption) (by rfl) (by rfl)))) ?_
      refine P_det (by rfl) (Over_nil (y_move (c := .slice _ _ _) (by rfl))) ?_
      refine P_det (by rfl) (Over_nil (y_move (c := .int .i64 _) (by rfl))) ?_
      refine P_det (by rfl) (Over_nil (y_index (k := k) (by rfl) (by rfl) (by first | rfl | omega) (by first | decide | omega) Tryd.runUnderlying22 Tryd.sizeOf3)) ?_
      refine P_det (by rfl) (Over_nil (y_load1 (by rfl) Tryd.isAgg3 (by first | exact Mem.old1 (by assumption) | exact Mem.oldAt1 (by assumption) (by rfl) | exact Mem.old (by assumption) | exact Mem.oldAtL1 (by assumption) (by rfl) (by rfl)))) ?_
      refine P_det (by rfl) (Over_nil (y_neq (by rfl) (by rfl))) ?_
      refine PW_end (by rfl) ?_
      refine OverAll_nil ?_
      rintro -
      refine Then_normal ?_
      refine W_cond (by rfl) (fun c6 => ?_) (fun c6 => ?_)
      ·
        try simp only [Bool.not_eq_true', Bool.not_eq_false', decide_eq_true_eq, decide_eq_false_iff_not, ne_eq, Classical.not_not, Int.not_lt, Int.not_le] at c6
        refine W_seq ?_
        refine W_region_lit (fun ds => ?_)
        refine WS_det hF (by rfl) (y_assign (c := .bool _) (by rfl)) ?_
        refine WS_nil ?_
        refine Then_normal ?_
        refine W_ret ?_
        refine InB_ret ?_
        refine Then_ret ?_
        refine Loop_ret ?_
        refine InB_ret ?_
        refine Then_ret ?_
        refine Fin_ret [.bool _] [] Tryd.results29 ⟨by rfl, trivial⟩ HSub.nil ?_
        show Value.bool _ = _
        rw [decide_eq_false]
        intro h
        exact c6 (by rw [h])
      ·
        try simp only [Bool.not_eq_true', Bool.not_eq_false', decide_eq_true_eq, decide_eq_false_iff_not, ne_eq, Classical.not_not, Int.not_lt, Int.not_le] at c6
        refine W_skip ?_
        refine InB_normal ?_
        refine Then_normal ?_
        refine W_region_lit (fun ds => ?_)
        refine WS_det hF (by rfl) (y_move (c := .int .i64 _) (by rfl)) ?_
        refine WS_det hF (by rfl) (y_add (by rfl) (by rfl) (by unfold I64; omega)) ?_
        refine WS_det hF (by rfl) (y_assign (c := .int .i64 _) (by rfl)) ?_
        refine WS_nil ?_
        exact Loop_next (k + 1) ⟨by omega, fun j h => by by_cases hjk : j = k; (subst hjk; exact c6); exact hj j (by omega)⟩ (by repeat (first | exact trivial | refine ⟨by rfl, ?_⟩)) (by repeat (first | exact List.Sublist.refl _ | exact List.nil_sublist _ | apply List.Sublist.cons_cons | apply List.Sublist.cons)) (by omega)
    ·
      try simp only [Bool.not_eq_true', Bool.not_eq_false', decide_eq_true_eq, decide_eq_false_iff_not, ne_eq, Classical.not_not, Int.not_lt, Int.not_le] at c4
      refine W_exit ?_
      refine Then_exit ?_
      refine Loop_exit ?_
      refine InB_same ?_
      refine Then_normal ?_
      refine W_seq ?_
      refine W_region_lit (fun ds => ?_)
      refine WS_det hF (by rfl) (y_assign (c := .bool _) (by rfl)) ?_
      refine WS_nil ?_
      refine Then_normal ?_
      refine W_ret ?_
      refine Fin_ret [.bool _] [] Tryd.results29 ⟨by rfl, trivial⟩ HSub.nil ?_
      show Value.bool _ = _
      rw [decide_eq_true]
      have hkn : k = n := by omega
      subst hkn
      refine List.ext_getElem (hx.len.trans hy.len.symm) fun j h1 h2 => ?_
      have := hj j (by rw [← hx.len]; exact h1)
      simpa [List.getD_eq_getElem?_getD, h1, h2] using this
theorem rwi_any (n lo hi : Int) (w : World) : Ct Tryd.prog 65 #[.int .i64 n, .int .i64 lo, .int .i64 hi] w fun v _ => v = .bool (inB lo hi [n]) := by
  have hF := wide_wide
  refine Ct_start (args := [_, _, _]) Tryd.func65 (by rfl) Tryd.ntmps65 (by rfl) ?_
  refine W_seq ?_
  refine W_region_lit (fun ds => ?_)
  refine WS_det hF (by rfl) (y_assign (c := .bool _) (by rfl)) ?_
  refine WS_nil ?_
  refine Then_normal ?_
  refine W_seq ?_
  refine W_region_lit (fun ds => ?_)
  refine WS_det hF (by rfl) (y_move (c := .int .i64 _) (by rfl)) ?_
  refine WS_det hF (by rfl) (y_move (c := .int .i64 _) (by rfl)) ?_
  refine WS_det hF (by rfl) (y_geq (by rfl) (by rfl)) ?_
  refine WS_det hF (by rfl) (y_move (c := .bool _) (by rfl)) ?_
  refine WS_split 10 (by rfl) (fun g1_3 => ?_) (fun g1_3 => ?_)
  ·
    try simp only [Bool.not_eq_true', Bool.not_eq_false', decide_eq_true_eq, decide_eq_false_iff_not, ne_eq, Classical.not_not, Int.not_lt, Int.not_le] at g1_3
    refine WS_det hF (by rfl) (y_move (c := .int .i64 _) (by rfl)) ?_
    refine WS_det hF (by rfl) (y_move (c := .int .i64 _) (by rfl)) ?_
    refine WS_det hF (by rfl) (y_leq (by rfl) (by rfl)) ?_
    refine WS_det hF (by rfl) (by first | exact y_pick_t (c := .bool _) (by rfl) (by rfl) | exact y_pick_f (c := .bool _) (by rfl) (by rfl)) ?_
    refine WS_det hF (by rfl) (y_assign (c := .bool _) (by rfl)) ?_
    refine WS_nil ?_
    refine Then_normal ?_
    refine W_ret ?_
    refine Fin_ret [.bool _] [] Tryd.results65 ⟨by rfl, trivial⟩ HSub.nil ?_
    show Value.bool _ = .bool (inB lo hi [n])
    congr 1
    rw [Bool.eq_iff_iff, inB1]
    try simp only [decide_eq_true_eq, Bool.false_eq_true, false_iff]
    omega
  ·
    try simp only [Bool.not_eq_true', Bool.not_eq_false', decide_eq_true_eq, decide_eq_false_iff_not, ne_eq, Classical.not_not, Int.not_lt, Int.not_le] at g1_3
    refine WS_no hF (by rfl) ?_
    refine WS_no hF (by rfl) ?_
    refine WS_no hF (by rfl) ?_
    refine WS_det hF (by rfl) (by first | exact y_pick_t (c := .bool _) (by rfl) (by rfl) | exact y_pick_f (c := .bool _) (by rfl) (by rfl)) ?_
    refine WS_det hF (by rfl) (y_assign (c := .bool _) (by rfl)) ?_
    refine WS_nil ?_
    refine Then_normal ?_
    refine W_ret ?_
    refine Fin_ret [.bool _] [] Tryd.results65 ⟨by rfl, trivial⟩ HSub.nil ?_
    show Value.bool _ = .bool (inB lo hi [n])
    congr 1
    rw [Bool.eq_iff_iff, inB1]
    try simp only [decide_eq_true_eq, Bool.false_eq_true, false_iff]
    omega
theorem rcgreat_any (c : Cn) (a1 : Option Addr) (p1 : Nat) (a2 : Option Addr) (p2 : Nat) (w : World) : Ct Tryd.prog 9 #[.agg #[.slice a1 c.n p1, .slice a2 c.inn.length p2, .int .i64 c.st]] w fun v _ => v = .bool (decide ((c.n : Int) > 10) || decide ((c.inn.length : Int) > 10)) := by
  have hF := wide_wide
  refine Ct_start (args := [_]) Tryd.func9 (by rfl) Tryd.ntmps9 (by rfl) ?_
  refine W_seq ?_
  refine W_region_lit (fun ds => ?_)
  refine WS_new hF (by rfl) (y_box (by rfl)) (fun b1 => ?_)
  refine WS_det hF (by rfl) (y_assign (c := .bool _) (by rfl)) ?_
  refine WS_nil ?_
  refine Then_normal ?_
  refine W_seq ?_
  refine W_region_lit (fun ds => ?_)
  refine WS_det hF (by rfl) (y_fieldAddr (by rfl) fa24_0) ?_
  refine WS_det hF (by rfl) (y_load1 (by rfl) Tryd.isAgg22 (Mem.own1 0 (by rfl) (by rfl))) ?_
  refine WS_det hF (by rfl) (y_len (by rfl) Tryd.runUnderlying22) ?_
  refine WS_det hF (by rfl) (y_gtr (by rfl) (by rfl)) ?_
  refine WS_det hF (by rfl) (y_move (c := .bool _) (by rfl)) ?_
  refine WS_split 7 (by rfl) (fun g1_4 => ?_) (fun g1_4 => ?_)
  ·
    try simp only [Bool.not_eq_true', Bool.not_eq_false', decide_eq_true_eq, decide_eq_false_iff_not, ne_eq, Classical.not_not, Int.not_lt, Int.not_le] at g1_4
    refine WS_no hF (by rfl) ?_
    refine WS_no hF (by rfl) ?_
    refine WS_no hF (by rfl) ?_
    refine WS_no hF (by rfl) ?_
    refine WS_det hF (by rfl) (by first | exact y_pick_t (c := .bool _) (by rfl) (by rfl) | exact y_pick_f (c := .bool _) (by rfl) (by rfl)) ?_
    refine WS_det hF (by rfl) (y_assign (c := .bool _) (by rfl)) ?_
    refine WS_nil ?_
    refine Then_normal ?_
    refine W_ret ?_
    refine Fin_ret [.bool _] [] Tryd.results9 ⟨by rfl, trivial⟩ HSub.nil ?_
    show Value.bool _ = _
    simp [*] <;> omega
  ·
    try simp only [Bool.not_eq_true', Bool.not_eq_false', decide_eq_true_eq, decide_eq_false_iff_not, ne_eq, Classical.not_not, Int.not_lt, Int.not_le] at g1_4
    refine WS_det hF (by rfl) (y_fieldAddr (by rfl) fa24_1) ?_
    refine WS_det hF (by rfl) (y_load1 (by rfl) Tryd.isAgg22 (Mem.own1 0 (by rfl) (by rfl))) ?_
    refine WS_det hF (by rfl) (y_len (by rfl) Tryd.runUnderlying22) ?_
    refine WS_det hF (by rfl) (y_gtr (by rfl) (by rfl)) ?_
    refine WS_det hF (by rfl) (by first | exact y_pick_t (c := .bool _) (by rfl) (by rfl) | exact y_pick_f (c := .bool _) (by rfl) (by rfl)) ?_
    refine WS_det hF (by rfl) (y_assign (c := .bool _) (by rfl)) ?_
    refine WS_nil ?_
    refine Then_normal ?_
    refine W_ret ?_
    refine Fin_ret [.bool _] [] Tryd.results9 ⟨by rfl, trivial⟩ HSub.nil ?_
    show Value.bool _ = _
    simp [*] <;> omega
theorem rcans_any (c : Cn) (a1 : Option Addr) (p1 : Nat) (a2 : Option Addr) (p2 : Nat) (w : World) (hn : c.n ≤ 1000000) (hm : c.inn.length ≤ 1000000) (h1 : Ints w a1 c.n p1 c.sz) (h2 : Ints w a2 c.inn.length p2 c.inn) : Ct Tryd.prog 52 #[.agg #[.slice a1 c.n p1, .slice a2 c.inn.length p2, .int .i64 c.st]] w fun v _ => v = .bool c.okB := by
  have hF := wide_wide
  refine Ct_start (args := [_]) Tryd.func52 (by rfl) Tryd.ntmps52 (by rfl) ?_
  refine W_seq ?_
  refine W_region_lit (fun ds => ?_)
  refine WS_new hF (by rfl) (y_box (by rfl)) (fun b1 => ?_)
  refine WS_det hF (by rfl) (y_assign (c := .bool _) (by rfl)) ?_
  refine WS_nil ?_
  refine Then_normal ?_
  refine W_seq ?_
  refine W_seq ?_
  refine W_region_lit (fun ds => ?_)
  refine WS_det hF (by rfl) (y_fieldAddr (by rfl) fa24_0) ?_
  refine WS_det hF (by rfl) (y_load1 (by rfl) Tryd.isAgg22 (Mem.own1 0 (by rfl) (by rfl))) ?_
  refine WS_det hF (by rfl) (y_len (by rfl) Tryd.runUnderlying22) ?_
  refine WS_det hF (by rfl) (y_callL (by rfl) (by rfl) Tryd.call65 (fun w hw => rwi_any _ _ _ w)) ?_
  refine WS_det hF (by rfl) (y_not (by rfl)) ?_
  refine WS_det hF (by rfl) (y_move (c := .bool _) (by rfl)) ?_
  refine WS_split 9 (by rfl) (fun g1_5 => ?_) (fun g1_5 => ?_)
  ·
    try simp only [Bool.not_eq_true', Bool.not_eq_false', decide_eq_true_eq, decide_eq_false_iff_not, ne_eq, Classical.not_not, Int.not_lt, Int.not_le] at g1_5
    refine WS_no hF (by rfl) ?_
    refine WS_no hF (by rfl) ?_
    refine WS_no hF (by rfl) ?_
    refine WS_no hF (by rfl) ?_
    refine WS_no hF (by rfl) ?_
    refine WS_no hF (by rfl) ?_
    refine WS_no hF (by rfl) ?_
    refine WS_det hF (by rfl) (by first | exact y_pick_t (c := .bool _) (by rfl) (by rfl) | exact y_pick_f (c := .bool _) (by rfl) (by rfl)) ?_
    refine WS_det hF (by rfl) (y_move (c := .bool _) (by rfl)) ?_
    refine WS_no hF (by rfl) ?_
    refine WS_no hF (by rfl) ?_
    refine WS_no hF (by rfl) ?_
    refine WS_no hF (by rfl) ?_
    refine WS_det hF (by rfl) (by first | exact y_pick_t (c := .bool _) (by rfl) (by rfl) | exact y_pick_f (c := .bool _) (by rfl) (by rfl)) ?_
    refine WS_nil ?_
    refine Then_normal ?_
    refine W_cond (by rfl) (fun c1 => ?_) (fun c1 => ?_)
    ·
      try simp only [Bool.not_eq_true', Bool.not_eq_false', decide_eq_true_eq, decide_eq_false_iff_not, ne_eq, Classical.not_not, Int.not_lt, Int.not_le] at c1
      refine W_seq ?_
      refine W_region_lit (fun ds => ?_)
      refine WS_det hF (by rfl) (y_assign (c := .bool _) (by rfl)) ?_
      refine WS_nil ?_
      refine Then_normal ?_
      refine W_ret ?_
      refine Then_ret ?_
      refine Fin_ret [.bool _] [] Tryd.results52 ⟨by rfl, trivial⟩ HSub.nil ?_
      refine Cn.okB_no fun h => ?_
      have := h.n1
      have := h.n3
      have := h.len
      first
        | exact absurd ⟨by omega, by omega⟩ (inB1f.1 g1_5)
        | exact absurd h.len (by omega)
        | exact absurd ⟨h.st0, h.st1⟩ (inB1f.1 c1)
        | exact absurd (h.s k (by omega)) (inB1f.1 g6_7)
        | exact absurd (h.i k (by omega)) (inB1f.1 c6)
    · cases c1
  ·
    try simp only [Bool.not_eq_true', Bool.not_eq_false', decide_eq_true_eq, decide_eq_false_iff_not, ne_eq, Classical.not_not, Int.not_lt, Int.not_le] at g1_5
    refine WS_det hF (by rfl) (y_fieldAddr (by rfl) fa24_1) ?_
    refine WS_det hF (by rfl) (y_load1 (by rfl) Tryd.isAgg22 (Mem.own1 0 (by rfl) (by rfl))) ?_
    refine WS_det hF (by rfl) (y_len (by rfl) Tryd.runUnderlying22) ?_
    refine WS_det hF (by rfl) (y_fieldAddr (by rfl) fa24_0) ?_
    refine WS_det hF (by rfl) (y_load1 (by rfl) Tryd.isAgg22 (Mem.own1 0 (by rfl) (by rfl))) ?_
    refine WS_det hF (by rfl) (y_len (by rfl) Tryd.runUnderlying22) ?_
    refine WS_det hF (by rfl) (y_neq (by rfl) (by rfl)) ?_
    refine WS_det hF (by rfl) (by first | exact y_pick_t (c := .bool _) (by rfl) (by rfl) | exact y_pick_f (c := .bool _) (by rfl) (by rfl)) ?_
    refine WS_det hF (by rfl) (y_move (c := .bool _) (by rfl)) ?_
    refine WS_split 18 (by rfl) (fun g1_14 => ?_) (fun g1_14 => ?_)
    ·
      try simp only [Bool.not_eq_true', Bool.not_eq_false', decide_eq_true_eq, decide_eq_false_iff_not, ne_eq, Classical.not_not, Int.not_lt, Int.not_le] at g1_14
      refine WS_no hF (by rfl) ?_
      refine WS_no hF (by rfl) ?_
      refine WS_no hF (by rfl) ?_
      refine WS_no hF (by rfl) ?_
      refine WS_det hF (by rfl) (by first | exact y_pick_t (c := .bool _) (by rfl) (by rfl) | exact y_pick_f (c := .bool _) (by rfl) (by rfl)) ?_
      refine WS_nil ?_
      refine Then_normal ?_
      refine W_cond (by rfl) (fun c1 => ?_) (fun c1 => ?_)
      ·
        try simp only [Bool.not_eq_true', Bool.not_eq_false', decide_eq_true_eq, decide_eq_false_iff_not, ne_eq, Classical.not_not, Int.not_lt, Int.not_le] at c1
        refine W_seq ?_
        refine W_region_lit (fun ds => ?_)
        refine WS_det hF (by rfl) (y_assign (c := .bool _) (by rfl)) ?_
        refine WS_nil ?_
        refine Then_normal ?_
        refine W_ret ?_
        refine Then_ret ?_
        refine Fin_ret [.bool _] [] Tryd.results52 ⟨by rfl, trivial⟩ HSub.nil ?_
        refine Cn.okB_no fun h => ?_
        have := h.n1
        have := h.n3
        have := h.len
        first
          | exact absurd ⟨by omega, by omega⟩ (inB1f.1 g1_5)
          | exact absurd h.len (by omega)
          | exact absurd ⟨h.st0, h.st1⟩ (inB1f.1 c1)
          | exact absurd (h.s k (by omega)) (inB1f.1 g6_7)
          | exact absurd (h.i k (by omega)) (inB1f.1 c6)
      · cases c1
    ·
      try simp only [Bool.not_eq_true', Bool.not_eq_false', decide_eq_true_eq, decide_eq_false_iff_not, ne_eq, Classical.not_not, Int.not_lt, Int.not_le] at g1_14
      refine WS_det hF (by rfl) (y_fieldAddr (by rfl) fa24_2) ?_
      refine WS_det hF (by rfl) (y_load1 (by rfl) Tryd.isAgg3 (Mem.own1 0 (by rfl) (by rfl))) ?_
      refine WS_det hF (by rfl) (y_callL (by rfl) (by rfl) Tryd.call65 (fun w hw => rwi_any _ _ _ w)) ?_
      refine WS_det hF (by rfl) (y_not (by rfl)) ?_
      refine WS_det hF (by rfl) (by first | exact y_pick_t (c := .bool _) (by rfl) (by rfl) | exact y_pick_f (c := .bool _) (by rfl) (by rfl)) ?_
      refine WS_nil ?_
      refine Then_normal ?_
      refine W_cond (by rfl) (fun c1 => ?_) (fun c1 => ?_)
      ·
        try simp only [Bool.not_eq_true', Bool.not_eq_false', decide_eq_true_eq, decide_eq_false_iff_not, ne_eq, Classical.not_not, Int.not_lt, Int.not_le] at c1
        refine W_seq ?_
        refine W_region_lit (fun ds => ?_)
        refine WS_det hF (by rfl) (y_assign (c := .bool _) (by rfl)) ?_
        refine WS_nil ?_
        refine Then_normal ?_
        refine W_ret ?_
        refine Then_ret ?_
        refine Fin_ret [.bool _] [] Tryd.results52 ⟨by rfl, trivial⟩ HSub.nil ?_
        refine Cn.okB_no fun h => ?_
        have := h.n1
        have := h.n3
        have := h.len
        first
          | exact absurd ⟨by omega, by omega⟩ (inB1f.1 g1_5)
          | exact absurd h.len (by omega)
          | exact absurd ⟨h.st0, h.st1⟩ (inB1f.1 c1)
          | exact absurd (h.s k (by omega)) (inB1f.1 g6_7)
          | exact absurd (h.i k (by omega)) (inB1f.1 c6)
      ·
        try simp only [Bool.not_eq_true', Bool.not_eq_false', decide_eq_true_eq, decide_eq_false_iff_not, ne_eq, Classical.not_not, Int.not_lt, Int.not_le] at c1
        have hlen : c.inn.length = c.n := by omega
        refine W_skip ?_
        refine Then_normal ?_
        refine W_seq ?_
        refine W_seq ?_
        refine W_region_lit (fun ds => ?_)
        refine WS_det hF (by rfl) (y_assign (c := .int .i64 _) (by rfl)) ?_
        refine WS_nil ?_
        refine Then_normal ?_
        refine W_block ?_
        refine W_loop (γ := Nat) (fun k => k ≤ c.n ∧ ∀ j, j < k → (1 ≤ c.s j ∧ c.s j ≤ 20) ∧ 0 ≤ c.i j ∧ c.i j ≤ c.s j) (fun k => [(1, .pointer (some ⟨b1, 0, none⟩)), (3, .int .i64 (k : Int))]) (fun _ => _) (fun k => c.n - k) (0) ⟨Nat.zero_le _, fun j h => absurd h (Nat.not_lt_zero _)⟩ (by repeat (first | exact trivial | refine ⟨by rfl, ?_⟩)) (List.Sublist.refl _) ?_
        rintro k e ⟨hk, hj⟩
        refine W_seq ?_
        refine W_seq ?_
        refine W_region_lit (fun ds => ?_)
        refine WS_det hF (by rfl) (y_move (c := .int .i64 _) (by rfl)) ?_
        refine WS_det hF (by rfl) (y_fieldAddr (by rfl) fa24_0) ?_
        refine WS_det hF (by rfl) (y_load1 (by rfl) Tryd.isAgg22 (Mem.own1 0 (by rfl) (by rfl))) ?_
        refine WS_det hF (by rfl) (y_len (by rfl) Tryd.runUnderlying22) ?_
        refine WS_det hF (by rfl) (y_lss (by rfl) (by rfl)) ?_
        refine WS_nil ?_
        refine Then_normal ?_
        refine W_cond (by rfl) (fun c4 => ?_) (fun c4 => ?_)
        ·
          try simp only [Bool.not_eq_true', Bool.not_eq_false', decide_eq_true_eq, decide_eq_false_iff_not, ne_eq, Classical.not_not, Int.not_lt, Int.not_le] at c4
          obtain ⟨b, o, rfl, hc⟩ := h1.cell k (by omega)
          obtain ⟨b', o', rfl, hc'⟩ := h2.cell k (by omega)
          change At w b _ [.int .i64 (c.s k)] at hc
          change At w b' _ [.int .i64 (c.i k)] at hc'
          refine W_skip ?_
          refine Then_normal ?_
          refine W_seq ?_
          refine W_block ?_
          refine W_seq ?_
          refine W_draw0 hF Trydmixed [] (by decide +kernel) (fun ds => ?_)
          refine P_det (by rfl) (Over_nil (y_fieldAddr (by rfl) fa24_0)) ?_
          refine P_det (by rfl) (Over_nil (y_load1 (by rfl) Tryd.isAgg22 (Mem.own1 0 (by rfl) (by rfl)))) ?_
          refine P_det (by rfl) (Over_nil (y_move (c := .int .i64 _) (by rfl))) ?_
          refine P_det (by rfl) (Over_nil (y_index (k := k) (by rfl) (by rfl) (by first | rfl | omega) (by first | decide | omega) Tryd.runUnderlying22 Tryd.sizeOf3)) ?_
          refine P_det (by rfl) (Over_nil (y_load1 (by rfl) Tryd.isAgg3 (by first | exact Mem.old1 (by assumption) | exact Mem.oldAt1 (by assumption) (by rfl) | exact Mem.old (by assumption) | exact Mem.oldAtL1 (by assumption) (by rfl) (by rfl)))) ?_
          refine P_det (by rfl) (Over_nil (y_callL (by rfl) (by rfl) Tryd.call65 (fun w hw => rwi_any _ _ _ w))) ?_
          refine P_det (by rfl) (Over_nil (y_not (by rfl))) ?_
          refine P_det (by rfl) (Over_nil (y_move (c := .bool _) (by rfl))) ?_
          refine P_split 38 (by rfl) (fun g6_7 => ?_) (fun g6_7 => ?_)
          ·
            try simp only [Bool.not_eq_true', Bool.not_eq_false', decide_eq_true_eq, decide_eq_false_iff_not, ne_eq, Classical.not_not, Int.not_lt, Int.not_le] at g6_7
            refine P_no (by rfl) ?_
            refine P_no (by rfl) ?_
            refine P_no (by rfl) ?_
            refine P_no (by rfl) ?_
            refine P_no (by rfl) ?_
            refine P_no (by rfl) ?_
            refine P_no (by rfl) ?_
            refine P_no (by rfl) ?_
            refine P_no (by rfl) ?_
            refine P_no (by rfl) ?_
            refine P_no (by rfl) ?_
            refine P_no (by rfl) ?_
            refine P_det (by rfl) (Over_nil (by first | exact y_pick_t (c := .bool _) (by rfl) (by rfl) | exact y_pick_f (c := .bool _) (by rfl) (by rfl))) ?_
            refine PW_end (by rfl) ?_
            refine OverAll_nil ?_
            rintro -
            refine Then_normal ?_
            refine W_cond (by rfl) (fun c6 => ?_) (fun c6 => ?_)
            ·
              try simp only [Bool.not_eq_true', Bool.not_eq_false', decide_eq_true_eq, decide_eq_false_iff_not, ne_eq, Classical.not_not, Int.not_lt, Int.not_le] at c6
              refine W_seq ?_
              refine W_region_lit (fun ds => ?_)
              refine WS_det hF (by rfl) (y_assign (c := .bool _) (by rfl)) ?_
              refine WS_nil ?_
              refine Then_normal ?_
              refine W_ret ?_
              refine InB_ret ?_
              refine Then_ret ?_
              refine Loop_ret ?_
              refine InB_ret ?_
              refine Then_ret ?_
              refine Fin_ret [.bool _] [] Tryd.results52 ⟨by rfl, trivial⟩ HSub.nil ?_
              refine Cn.okB_no fun h => ?_
              have := h.n1
              have := h.n3
              have := h.len
              first
                | exact absurd ⟨by omega, by omega⟩ (inB1f.1 g1_5)
                | exact absurd h.len (by omega)
                | exact absurd ⟨h.st0, h.st1⟩ (inB1f.1 c1)
                | exact absurd (h.s k (by omega)) (inB1f.1 g6_7)
                | exact absurd (h.i k (by omega)) (inB1f.1 c6)
            · cases c6
          ·
            try simp only [Bool.not_eq_true', Bool.not_eq_false', decide_eq_true_eq, decide_eq_false_iff_not, ne_eq, Classical.not_not, Int.not_lt, Int.not_le] at g6_7
            refine P_det (by rfl) (Over_nil (y_fieldAddr (by rfl) fa24_1)) ?_
            refine P_det (by rfl) (Over_nil (y_load1 (by rfl) Tryd.isAgg22 (Mem.own1 0 (by rfl) (by rfl)))) ?_
            refine P_det (by rfl) (Over_nil (y_move (c := .int .i64 _) (by rfl))) ?_
            refine P_det (by rfl) (Over_nil (y_index (k := k) (by rfl) (by rfl) (by first | rfl | omega) (by first | decide | omega) Tryd.runUnderlying22 Tryd.sizeOf3)) ?_
            refine P_det (by rfl) (Over_nil (y_load1 (by rfl) Tryd.isAgg3 (by first | exact Mem.old1 (by assumption) | exact Mem.oldAt1 (by assumption) (by rfl) | exact Mem.old (by assumption) | exact Mem.oldAtL1 (by assumption) (by rfl) (by rfl)))) ?_
            refine P_det (by rfl) (Over_nil (y_fieldAddr (by rfl) fa24_0)) ?_
            refine P_det (by rfl) (Over_nil (y_load1 (by rfl) Tryd.isAgg22 (Mem.own1 0 (by rfl) (by rfl)))) ?_
            refine P_det (by rfl) (Over_nil (y_move (c := .int .i64 _) (by rfl))) ?_
            refine P_det (by rfl) (Over_nil (y_index (k := k) (by rfl) (by rfl) (by first | rfl | omega) (by first | decide | omega) Tryd.runUnderlying22 Tryd.sizeOf3)) ?_
            refine P_det (by rfl) (Over_nil (y_load1 (by rfl) Tryd.isAgg3 (by first | exact Mem.old1 (by assumption) | exact Mem.oldAt1 (by assumption) (by rfl) | exact Mem.old (by assumption) | exact Mem.oldAtL1 (by assumption) (by rfl) (by rfl)))) ?_
            refine P_det (by rfl) (Over_nil (y_callL (by rfl) (by rfl) Tryd.call65 (fun w hw => rwi_any _ _ _ w))) ?_
            refine P_det (by rfl) (Over_nil (y_not (by rfl))) ?_
            refine P_det (by rfl) (Over_nil (by first | exact y_pick_t (c := .bool _) (by rfl) (by rfl) | exact y_pick_f (c := .bool _) (by rfl) (by rfl))) ?_
            refine PW_end (by rfl) ?_
            refine OverAll_nil ?_
            rintro -
            refine Then_normal ?_
            refine W_cond (by rfl) (fun c6 => ?_) (fun c6 => ?_)
            ·
              try simp only [Bool.not_eq_true', Bool.not_eq_false', decide_eq_true_eq, decide_eq_false_iff_not, ne_eq, Classical.not_not, Int.not_lt, Int.not_le] at c6
              refine W_seq ?_
              refine W_region_lit (fun ds => ?_)
              refine WS_det hF (by rfl) (y_assign (c := .bool _) (by rfl)) ?_
              refine WS_nil ?_
              refine Then_normal ?_
              refine W_ret ?_
              refine InB_ret ?_
              refine Then_ret ?_
              refine Loop_ret ?_
              refine InB_ret ?_
              refine Then_ret ?_
              refine Fin_ret [.bool _] [] Tryd.results52 ⟨by rfl, trivial⟩ HSub.nil ?_
              refine Cn.okB_no fun h => ?_
              have := h.n1
              have := h.n3
              have := h.len
              first
                | exact absurd ⟨by omega, by omega⟩ (inB1f.1 g1_5)
                | exact absurd h.len (by omega)
                | exact absurd ⟨h.st0, h.st1⟩ (inB1f.1 c1)
                | exact absurd (h.s k (by omega)) (inB1f.1 g6_7)
                | exact absurd (h.i k (by omega)) (inB1f.1 c6)
            ·
              try simp only [Bool.not_eq_true', Bool.not_eq_false', decide_eq_true_eq, decide_eq_false_iff_not, ne_eq, Classical.not_not, Int.not_lt, Int.not_le] at c6
              have hs : 1 ≤ c.s k ∧ c.s k ≤ 20 := inB1.1 g6_7
              have hi : 0 ≤ c.i k ∧ c.i k ≤ c.s k := inB1.1 c6
              refine W_skip ?_
              refine InB_normal ?_
              refine Then_normal ?_
              refine W_region_lit (fun ds => ?_)
              refine WS_det hF (by rfl) (y_move (c := .int .i64 _) (by rfl)) ?_
              refine WS_det hF (by rfl) (y_add (by rfl) (by rfl) (by unfold I64; omega)) ?_
              refine WS_det hF (by rfl) (y_assign (c := .int .i64 _) (by rfl)) ?_
              refine WS_nil ?_
              exact Loop_next (k + 1) ⟨by omega, fun j h => by by_cases hjk : j = k; (subst hjk; exact ⟨hs, hi⟩); exact hj j (by omega)⟩ (by repeat (first | exact trivial | refine ⟨by rfl, ?_⟩)) (by repeat (first | exact List.Sublist.refl _ | exact List.nil_sublist _ | apply List.Sublist.cons_cons | apply List.Sublist.cons)) (by omega)
        ·
          try simp only [Bool.not_eq_true', Bool.not_eq_false', decide_eq_true_eq, decide_eq_false_iff_not, ne_eq, Classical.not_not, Int.not_lt, Int.not_le] at c4
          refine W_exit ?_
          refine Then_exit ?_
          refine Loop_exit ?_
          refine InB_same ?_
          refine Then_normal ?_
          refine W_seq ?_
          refine W_region_lit (fun ds => ?_)
          refine WS_det hF (by rfl) (y_assign (c := .bool _) (by rfl)) ?_
          refine WS_nil ?_
          refine Then_normal ?_
          refine W_ret ?_
          refine Fin_ret [.bool _] [] Tryd.results52 ⟨by rfl, trivial⟩ HSub.nil ?_
          refine Cn.okB_yes ⟨?_, ?_, hlen, (inB1.1 c1).1, (inB1.1 c1).2, fun j h => (hj j (by omega)).1, fun j h => (hj j (by omega)).2⟩
          · have := inB1.1 g1_5; omega
          · have := inB1.1 g1_5; omega
theorem rpouring_any (c : Cn) (a1 : Option Addr) (p1 : Nat) (a2 : Option Addr) (p2 : Nat) (p : Po) (w : World) : Ct Tryd.prog 53 #[.agg #[.slice a1 c.n p1, .slice a2 c.inn.length p2, .int .i64 c.st], .agg p.cells.toArray] w fun v _ => v = .bool (c.vldB p) := by
  have hF := wide_wide
  refine Ct_start (args := [_, _]) Tryd.func53 (by rfl) Tryd.ntmps53 (by rfl) ?_
  refine W_seq ?_
  refine W_region_lit (fun ds => ?_)
  refine WS_new hF (by rfl) (y_box (by rfl)) (fun b1 => ?_)
  refine WS_new hF (by rfl) (y_box (by rfl)) (fun b2 => ?_)
  refine WS_det hF (by rfl) (y_assign (c := .bool _) (by rfl)) ?_
  refine WS_nil ?_
  refine Then_normal ?_
  refine W_seq ?_
  refine W_region_lit (fun ds => ?_)
  refine WS_det hF (by rfl) (y_fieldAddr (by rfl) fa26_0) ?_
  refine WS_det hF (by rfl) (y_load1 (by rfl) Tryd.isAgg3 (Mem.own1 0 (by rfl) (by rfl))) ?_
  refine WS_det hF (by rfl) (y_fieldAddr (by rfl) fa24_0) ?_
  refine WS_det hF (by rfl) (y_load1 (by rfl) Tryd.isAgg22 (Mem.own1 1 (by rfl) (by rfl))) ?_
  refine WS_det hF (by rfl) (y_len (by rfl) Tryd.runUnderlying22) ?_
  refine WS_det hF (by rfl) (y_callL (by rfl) (by rfl) Tryd.call65 (fun w hw => rwi_any _ _ _ w)) ?_
  refine WS_det hF (by rfl) (y_move (c := .bool _) (by rfl)) ?_
  refine WS_split 11 (by rfl) (fun g1_6 => ?_) (fun g1_6 => ?_)
  ·
    try simp only [Bool.not_eq_true', Bool.not_eq_false', decide_eq_true_eq, decide_eq_false_iff_not, ne_eq, Classical.not_not, Int.not_lt, Int.not_le] at g1_6
    refine WS_det hF (by rfl) (y_fieldAddr (by rfl) fa26_1) ?_
    refine WS_det hF (by rfl) (y_load1 (by rfl) Tryd.isAgg3 (Mem.own1 0 (by rfl) (by rfl))) ?_
    refine WS_det hF (by rfl) (y_fieldAddr (by rfl) fa24_0) ?_
    refine WS_det hF (by rfl) (y_load1 (by rfl) Tryd.isAgg22 (Mem.own1 1 (by rfl) (by rfl))) ?_
    refine WS_det hF (by rfl) (y_len (by rfl) Tryd.runUnderlying22) ?_
    refine WS_det hF (by rfl) (y_callL (by rfl) (by rfl) Tryd.call65 (fun w hw => rwi_any _ _ _ w)) ?_
    refine WS_det hF (by rfl) (by first | exact y_pick_t (c := .bool _) (by rfl) (by rfl) | exact y_pick_f (c := .bool _) (by rfl) (by rfl)) ?_
    refine WS_det hF (by rfl) (y_move (c := .bool _) (by rfl)) ?_
    refine WS_split 19 (by rfl) (fun g1_14 => ?_) (fun g1_14 => ?_)
    ·
      try simp only [Bool.not_eq_true', Bool.not_eq_false', decide_eq_true_eq, decide_eq_false_iff_not, ne_eq, Classical.not_not, Int.not_lt, Int.not_le] at g1_14
      refine WS_det hF (by rfl) (y_fieldAddr (by rfl) fa26_0) ?_
      refine WS_det hF (by rfl) (y_load1 (by rfl) Tryd.isAgg3 (Mem.own1 0 (by rfl) (by rfl))) ?_
      refine WS_det hF (by rfl) (y_fieldAddr (by rfl) fa26_1) ?_
      refine WS_det hF (by rfl) (y_load1 (by rfl) Tryd.isAgg3 (Mem.own1 0 (by rfl) (by rfl))) ?_
      refine WS_det hF (by rfl) (y_neq (by rfl) (by rfl)) ?_
      refine WS_det hF (by rfl) (by first | exact y_pick_t (c := .bool _) (by rfl) (by rfl) | exact y_pick_f (c := .bool _) (by rfl) (by rfl)) ?_
      refine WS_det hF (by rfl) (y_assign (c := .bool _) (by rfl)) ?_
      refine WS_nil ?_
      refine Then_normal ?_
      refine W_ret ?_
      refine Fin_ret [.bool _] [] Tryd.results53 ⟨by rfl, trivial⟩ HSub.nil ?_
      show Value.bool _ = .bool (c.vldB p)
      congr 1
      rw [Bool.eq_iff_iff, Cn.vld_iff]
      simp only [inB1, inB1f] at *
      try simp only [decide_eq_true_eq, Bool.false_eq_true, false_iff]
      omega
    ·
      try simp only [Bool.not_eq_true', Bool.not_eq_false', decide_eq_true_eq, decide_eq_false_iff_not, ne_eq, Classical.not_not, Int.not_lt, Int.not_le] at g1_14
      refine WS_no hF (by rfl) ?_
      refine WS_no hF (by rfl) ?_
      refine WS_no hF (by rfl) ?_
      refine WS_no hF (by rfl) ?_
      refine WS_no hF (by rfl) ?_
      refine WS_det hF (by rfl) (by first | exact y_pick_t (c := .bool _) (by rfl) (by rfl) | exact y_pick_f (c := .bool _) (by rfl) (by rfl)) ?_
      refine WS_det hF (by rfl) (y_assign (c := .bool _) (by rfl)) ?_
      refine WS_nil ?_
      refine Then_normal ?_
      refine W_ret ?_
      refine Fin_ret [.bool _] [] Tryd.results53 ⟨by rfl, trivial⟩ HSub.nil ?_
      show Value.bool _ = .bool (c.vldB p)
      congr 1
      rw [Bool.eq_iff_iff, Cn.vld_iff]
      simp only [inB1, inB1f] at *
      try simp only [decide_eq_true_eq, Bool.false_eq_true, false_iff]
      omega
  ·
    try simp only [Bool.not_eq_true', Bool.not_eq_false', decide_eq_true_eq, decide_eq_false_iff_not, ne_eq, Classical.not_not, Int.not_lt, Int.not_le] at g1_6
    refine WS_no hF (by rfl) ?_
    refine WS_no hF (by rfl) ?_
    refine WS_no hF (by rfl) ?_
    refine WS_no hF (by rfl) ?_
    refine WS_no hF (by rfl) ?_
    refine WS_no hF (by rfl) ?_
    refine WS_det hF (by rfl) (by first | exact y_pick_t (c := .bool _) (by rfl) (by rfl) | exact y_pick_f (c := .bool _) (by rfl) (by rfl)) ?_
    refine WS_det hF (by rfl) (y_move (c := .bool _) (by rfl)) ?_
    refine WS_no hF (by rfl) ?_
    refine WS_no hF (by rfl) ?_
    refine WS_no hF (by rfl) ?_
    refine WS_no hF (by rfl) ?_
    refine WS_no hF (by rfl) ?_
    refine WS_det hF (by rfl) (by first | exact y_pick_t (c := .bool _) (by rfl) (by rfl) | exact y_pick_f (c := .bool _) (by rfl) (by rfl)) ?_
    refine WS_det hF (by rfl) (y_assign (c := .bool _) (by rfl)) ?_
    refine WS_nil ?_
    refine Then_normal ?_
    refine W_ret ?_
    refine Fin_ret [.bool _] [] Tryd.results53 ⟨by rfl, trivial⟩ HSub.nil ?_
    show Value.bool _ = .bool (c.vldB p)
    congr 1
    rw [Bool.eq_iff_iff, Cn.vld_iff]
    simp only [inB1, inB1f] at *
    try simp only [decide_eq_true_eq, Bool.false_eq_true, false_iff]
    omega
/-- Cans in new memory. -/
def TwinC (c : Cn) (v : Value) (Hn : List Blk) : Prop :=
  ∃ b1 q1 b2 q2 H1 H2, v = .agg #[.slice b1 c.n q1, .slice b2 c.inn.length q2, .int .i64 c.st] ∧ NewRow 3 1 c.n (iv c.sz) (.slice b1 c.n q1) H1 ∧ NewRow 3 1 c.inn.length (iv c.inn) (.slice b2 c.inn.length q2) H2 ∧ Hn = H1 ++ H2
theorem iv_len (xs : List Int) : (iv xs).length = xs.length * 1 := by rw [Nat.mul_one]; exact List.length_map _
theorem rctwin_any (c : Cn) (a1 : Option Addr) (p1 : Nat) (a2 : Option Addr) (p2 : Nat) (w : World) (hn : c.n ≤ 1000000) (hm : c.inn.length ≤ 1000000) (h1 : Ints w a1 c.n p1 c.sz) (h2 : Ints w a2 c.inn.length p2 c.inn) : Ct Tryd.prog 10 #[.agg #[.slice a1 c.n p1, .slice a2 c.inn.length p2, .int .i64 c.st]] w (TwinC c) := by
  have hn' : c.sz.length ≤ 1000000 := hn
  have hF := wide_wide
  refine Ct_start (args := [_]) Tryd.func10 (by rfl) Tryd.ntmps10 (by rfl) ?_
  refine W_seq ?_
  refine W_region_lit (fun ds => ?_)
  refine WS_new hF (by rfl) (y_box (by rfl)) (fun b1 => ?_)
  refine WS_new hF (by rfl) (y_alloc Tryd.zeroValue24 (by rfl)) (fun b2 => ?_)
  refine WS_nil ?_
  refine Then_normal ?_
  refine W_seq ?_
  apply W_draw1D hF Trydmixed [1000000] 13 _ (i := 0) (by rfl) (by decide +kernel)
  intro ds
  refine P_new (by rfl) (by rfl) (Over_out (by rfl) (Over_nil (y_buildSliceL bs22_0 (by rfl)))) ?_
  refine P_det (by rfl) (Over_out (by rfl) (Over_out (by rfl) (Over_nil (y_fieldAddr (by rfl) fa24_0)))) ?_
  refine P_det (by rfl) (Over_out (by rfl) (Over_out (by rfl) (Over_nil (y_load1 (by rfl) Tryd.isAgg22 (Mem.own1 0 (by rfl) (by rfl)))))) ?_
  refine P_new (by rfl) (by rfl) (Over_in (by rfl) (Over_out (by rfl) (Over_nil (by rintro _ _ ⟨b4, rfl, rfl⟩; exact (y_append0 (by rfl) (by rfl) Tryd.underlying22 infInt (by rfl) h1.src (iv_len c.sz) (by omega) (by omega)))))) ?_
  refine P_new (by rfl) (by rfl) (Over_out (by rfl) (Over_out (by rfl) (Over_out (by rfl) (Over_nil (y_buildSliceL bs22_0 (by rfl)))))) ?_
  refine P_det (by rfl) (Over_out (by rfl) (Over_out (by rfl) (Over_out (by rfl) (Over_out (by rfl) (Over_nil (y_fieldAddr (by rfl) fa24_1)))))) ?_
  refine P_det (by rfl) (Over_out (by rfl) (Over_out (by rfl) (Over_out (by rfl) (Over_out (by rfl) (Over_nil (y_load1 (by rfl) Tryd.isAgg22 (Mem.own1 0 (by rfl) (by rfl)))))))) ?_
  refine P_new (by rfl) (by rfl) (Over_in (by rfl) (Over_out (by rfl) (Over_out (by rfl) (Over_out (by rfl) (Over_nil (by rintro _ _ ⟨b7, rfl, rfl⟩; exact (y_append0 (by rfl) (by rfl) Tryd.underlying22 infInt (by rfl) h2.src (iv_len c.inn) (by omega) (by omega)))))))) ?_
  refine P_det (by rfl) (Over_out (by rfl) (Over_out (by rfl) (Over_out (by rfl) (Over_out (by rfl) (Over_out (by rfl) (Over_nil (y_fieldAddr (by rfl) fa24_2))))))) ?_
  refine P_det (by rfl) (Over_out (by rfl) (Over_out (by rfl) (Over_out (by rfl) (Over_out (by rfl) (Over_out (by rfl) (Over_nil (y_load1 (by rfl) Tryd.isAgg3 (Mem.own1 0 (by rfl) (by rfl))))))))) ?_
  refine P_ali [10, 6] (aggP [.inr 6, .inr 10, .inl _]) (by rfl) (by rfl) (by rfl) (aggP_congr (by rfl)) (Over_in (by rfl) (Over_out (by rfl) (Over_in (by rfl) (Over_out (by rfl) (Over_out (by rfl) (Over_nil (by rintro _ l6 ⟨ab9, cb9, rfl, hleb9, hrowb9⟩; rintro _ l10 ⟨ab10, cb10, rfl, hleb10, hrowb10⟩; exact (YD0_of (y_buildL bd24_0_1_2 (by rfl)))))))))) ?_
  refine P_st 1000000 5 (by rfl) (by rfl) (by rfl) (by rfl) (by rfl) (Over_in (by rfl) (Over_in (by rfl) (Over_out (by rfl) (Over_in (by rfl) (Over_out (by rfl) (Over_nil (by rintro _ l6 ⟨ab12, cb12, rfl, hleb12, hrowb12⟩; rintro _ l10 ⟨ab13, cb13, rfl, hleb13, hrowb13⟩; rintro vb14 _ ⟨hvb14, rfl⟩; replace hvb14 : vb14 = .agg #[.slice _ _ _, .slice _ _ _, .int .i64 _] := hvb14; subst hvb14; exact (st_preD (fun _ => by rfl) (by rfl) (by rfl) Tryd.sizeOf24 (by rfl) (by rfl) (by first | decide | exact Nat.le_of_ble_eq_true rfl | simp))))))))) ?_
  refine PW_end (by rfl) ?_
  refine OverAll_cons (fun w13 l13 => ?_)
  refine OverAll_cons (fun w10 l10 => ?_)
  refine OverAll_cons (fun w7 l7 => ?_)
  refine OverAll_cons (fun w6 l6 => ?_)
  refine OverAll_cons (fun w3 l3 => ?_)
  refine OverAll_cons (fun w1000000 l1000000 => ?_)
  refine OverAll_nil ?_
  rintro ⟨⟨⟨⟨⟨⟨-, h13⟩, h10⟩, h7⟩, h6⟩, h3⟩, h1000000⟩
  obtain ⟨b3, rfl, rfl⟩ := h3
  obtain ⟨ab5, cb5, rfl, hleb5, hrowb5⟩ := h6
  obtain ⟨b6, rfl, rfl⟩ := h7
  obtain ⟨ab8, cb8, rfl, hleb8, hrowb8⟩ := h10
  obtain ⟨h13, rfl⟩ := h13
  replace h13 : w13 = .agg #[.slice _ _ _, .slice _ _ _, .int .i64 _] := h13
  subst h13
  obtain rfl := h1000000
  refine Then_normal ?_
  refine W_ret ?_
  refine Fin_ret [_] (l6 ++ l10) Tryd.results10 ⟨lvN (by rfl) Tryd.isAgg24 Tryd.sizeOf24 (Mem.own (us := [.slice _ _ _, .slice _ _ _, .int .i64 _]) 0 (by rfl) (by rfl)) (by rfl), trivial⟩ (HSub.sub sbA) ?_
  exact ⟨_, _, _, _, l6, l10, rfl, ⟨_, _, rfl, by assumption, by assumption⟩, ⟨_, _, rfl, by assumption, by assumption⟩, rfl⟩
theorem rcsame_any (c : Cn) (a1 : Option Addr) (p1 : Nat) (a2 : Option Addr) (p2 : Nat) (c' : Cn) (a1' : Option Addr) (p1' : Nat) (a2' : Option Addr) (p2' : Nat) (w : World) (hn : c.n ≤ 1000000) (hm : c.inn.length ≤ 1000000) (h1 : Ints w a1 c.n p1 c.sz) (h2 : Ints w a2 c.inn.length p2 c.inn) (h1' : Ints w a1' c'.n p1' c'.sz) (h2' : Ints w a2' c'.inn.length p2' c'.inn) :
    Ct Tryd.prog 15 #[.agg #[.slice a1 c.n p1, .slice a2 c.inn.length p2, .int .i64 c.st], .agg #[.slice a1' c'.n p1', .slice a2' c'.inn.length p2', .int .i64 c'.st]] w fun v _ => v = .bool (decide (c.sz = c'.sz) && decide (c.inn = c'.inn) && decide (c.st = c'.st)) := by
  have hF := wide_wide
  refine Ct_start (args := [_, _]) Tryd.func15 (by rfl) Tryd.ntmps15 (by rfl) ?_
  refine W_seq ?_
  refine W_region_lit (fun ds => ?_)
  refine WS_new hF (by rfl) (y_box (by rfl)) (fun b1 => ?_)
  refine WS_new hF (by rfl) (y_box (by rfl)) (fun b2 => ?_)
  refine WS_det hF (by rfl) (y_assign (c := .bool _) (by rfl)) ?_
  refine WS_nil ?_
  refine Then_normal ?_
  refine W_seq ?_
  refine W_region_lit (fun ds => ?_)
  refine WS_det hF (by rfl) (y_fieldAddr (by rfl) fa24_0) ?_
  refine WS_det hF (by rfl) (y_load1 (by rfl) Tryd.isAgg22 (Mem.own1 1 (by rfl) (by rfl))) ?_
  refine WS_det hF (by rfl) (y_fieldAddr (by rfl) fa24_0) ?_
  refine WS_det hF (by rfl) (y_load1 (by rfl) Tryd.isAgg22 (Mem.own1 0 (by rfl) (by rfl))) ?_
  refine WS_det hF (by rfl) (y_callL (by rfl) (by rfl) Tryd.call29 (fun w hw => sameInts2_any _ _ _ _ _ _ c.sz c'.sz w hn (h1.st w hw) (h1'.st w hw))) ?_
  refine WS_det hF (by rfl) (y_move (c := .bool _) (by rfl)) ?_
  refine WS_split 10 (by rfl) (fun g1_5 => ?_) (fun g1_5 => ?_)
  ·
    try simp only [Bool.not_eq_true', Bool.not_eq_false', decide_eq_true_eq, decide_eq_false_iff_not, ne_eq, Classical.not_not, Int.not_lt, Int.not_le] at g1_5
    refine WS_det hF (by rfl) (y_fieldAddr (by rfl) fa24_1) ?_
    refine WS_det hF (by rfl) (y_load1 (by rfl) Tryd.isAgg22 (Mem.own1 1 (by rfl) (by rfl))) ?_
    refine WS_det hF (by rfl) (y_fieldAddr (by rfl) fa24_1) ?_
    refine WS_det hF (by rfl) (y_load1 (by rfl) Tryd.isAgg22 (Mem.own1 0 (by rfl) (by rfl))) ?_
    refine WS_det hF (by rfl) (y_callL (by rfl) (by rfl) Tryd.call29 (fun w hw => sameInts2_any _ _ _ _ _ _ c.inn c'.inn w hm (h2.st w hw) (h2'.st w hw))) ?_
    refine WS_det hF (by rfl) (by first | exact y_pick_t (c := .bool _) (by rfl) (by rfl) | exact y_pick_f (c := .bool _) (by rfl) (by rfl)) ?_
    refine WS_det hF (by rfl) (y_move (c := .bool _) (by rfl)) ?_
    refine WS_split 17 (by rfl) (fun g1_12 => ?_) (fun g1_12 => ?_)
    ·
      try simp only [Bool.not_eq_true', Bool.not_eq_false', decide_eq_true_eq, decide_eq_false_iff_not, ne_eq, Classical.not_not, Int.not_lt, Int.not_le] at g1_12
      refine WS_det hF (by rfl) (y_fieldAddr (by rfl) fa24_2) ?_
      refine WS_det hF (by rfl) (y_load1 (by rfl) Tryd.isAgg3 (Mem.own1 1 (by rfl) (by rfl))) ?_
      refine WS_det hF (by rfl) (y_fieldAddr (by rfl) fa24_2) ?_
      refine WS_det hF (by rfl) (y_load1 (by rfl) Tryd.isAgg3 (Mem.own1 0 (by rfl) (by rfl))) ?_
      refine WS_det hF (by rfl) (y_eql (by rfl) (by rfl)) ?_
      refine WS_det hF (by rfl) (by first | exact y_pick_t (c := .bool _) (by rfl) (by rfl) | exact y_pick_f (c := .bool _) (by rfl) (by rfl)) ?_
      refine WS_det hF (by rfl) (y_assign (c := .bool _) (by rfl)) ?_
      refine WS_nil ?_
      refine Then_normal ?_
      refine W_ret ?_
      refine Fin_ret [.bool _] [] Tryd.results15 ⟨by rfl, trivial⟩ HSub.nil ?_
      show Value.bool _ = _
      simp [*]
    ·
      try simp only [Bool.not_eq_true', Bool.not_eq_false', decide_eq_true_eq, decide_eq_false_iff_not, ne_eq, Classical.not_not, Int.not_lt, Int.not_le] at g1_12
      refine WS_no hF (by rfl) ?_
      refine WS_no hF (by rfl) ?_
      refine WS_no hF (by rfl) ?_
      refine WS_no hF (by rfl) ?_
      refine WS_no hF (by rfl) ?_
      refine WS_det hF (by rfl) (by first | exact y_pick_t (c := .bool _) (by rfl) (by rfl) | exact y_pick_f (c := .bool _) (by rfl) (by rfl)) ?_
      refine WS_det hF (by rfl) (y_assign (c := .bool _) (by rfl)) ?_
      refine WS_nil ?_
      refine Then_normal ?_
      refine W_ret ?_
      refine Fin_ret [.bool _] [] Tryd.results15 ⟨by rfl, trivial⟩ HSub.nil ?_
      show Value.bool _ = _
      simp [*]
  ·
    try simp only [Bool.not_eq_true', Bool.not_eq_false', decide_eq_true_eq, decide_eq_false_iff_not, ne_eq, Classical.not_not, Int.not_lt, Int.not_le] at g1_5
    refine WS_no hF (by rfl) ?_
    refine WS_no hF (by rfl) ?_
    refine WS_no hF (by rfl) ?_
    refine WS_no hF (by rfl) ?_
    refine WS_no hF (by rfl) ?_
    refine WS_det hF (by rfl) (by first | exact y_pick_t (c := .bool _) (by rfl) (by rfl) | exact y_pick_f (c := .bool _) (by rfl) (by rfl)) ?_
    refine WS_det hF (by rfl) (y_move (c := .bool _) (by rfl)) ?_
    refine WS_no hF (by rfl) ?_
    refine WS_no hF (by rfl) ?_
    refine WS_no hF (by rfl) ?_
    refine WS_no hF (by rfl) ?_
    refine WS_no hF (by rfl) ?_
    refine WS_det hF (by rfl) (by first | exact y_pick_t (c := .bool _) (by rfl) (by rfl) | exact y_pick_f (c := .bool _) (by rfl) (by rfl)) ?_
    refine WS_det hF (by rfl) (y_assign (c := .bool _) (by rfl)) ?_
    refine WS_nil ?_
    refine Then_normal ?_
    refine W_ret ?_
    refine Fin_ret [.bool _] [] Tryd.results15 ⟨by rfl, trivial⟩ HSub.nil ?_
    show Value.bool _ = _
    simp [*]
end Go.Proofs.YtjekjehgmljbgaaDoor.T

/- The reference's pourings, walked. -/
namespace Go.Proofs.YtjekjehgmljbgaaDoor.T
open Go.RowKit Go.Proofs Go.Eng
set_option maxRecDepth 100000
set_option maxHeartbeats 1000000
set_option linter.unusedVariables false
set_option linter.unusedSimpArgs false



def Cn.has (c : Cn) : Nat → Int
  | 0 => c.st
  | k + 1 => c.i k
theorem Cn.has_co (c : Cn) (k : Nat) (h : k ≤ 3) : c.has k = c.co.g k := by
  cases k with
  | zero => rfl
  | succ k => exact (c.co_g k (by omega)).symm
def Cn.put (c : Cn) (k : Nat) (v : Int) : Cn :=
  match k with
  | 0 => ⟨c.sz, c.inn, v⟩
  | k + 1 => ⟨c.sz, c.inn.set k v, c.st⟩
theorem Cn.of_put (c : Cn) (x : Co) (k : Nat) (v : Int) (hn : c.n ≤ 3) (hk : k ≤ c.n) : (c.of x).put k v = c.of (x.w k v) := by
  obtain rfl | rfl | rfl | rfl : k = 0 ∨ k = 1 ∨ k = 2 ∨ k = 3 := by omega
  · rfl
  all_goals
    unfold Cn.of Cn.put
    simp only [Cn.mk.injEq, true_and]
    obtain h1 | h1 | h1 : c.n = 1 ∨ c.n = 2 ∨ c.n = 3 := by omega
    all_goals first | omega | (rw [h1]; exact ⟨rfl, rfl⟩)
def Cn.pou (c : Cn) (f t : Nat) (m : Int) : Cn := (c.put f (c.has f - m)).put t (c.has t + m)
theorem Cn.Ok.pou {c : Cn} (h : c.Ok) {f t : Nat} (hf : f ≤ c.n) (ht : t ≤ c.n) (m : Int) : c.pou f t m = c.of ((c.co.w f (c.co.g f - m)).w t (c.co.g t + m)) := by
  have h3 := h.n3
  unfold Cn.pou
  rw [c.has_co f (by omega), c.has_co t (by omega)]
  conv => lhs; arg 1; arg 1; rw [← h.co_of]
  rw [Cn.of_put _ _ _ _ h3 hf, Cn.of_put _ _ _ _ h3 ht]
theorem splice_iv (xs : List Int) (junk : List Value) (v : Int) (k : Nat) (h : k < xs.length) : splice (iv xs ++ junk) (0 + k * 1) [.int .i64 v] = iv (xs.set k v) ++ junk := by
  unfold splice iv
  rw [Nat.zero_add, Nat.mul_one, List.map_set, List.length_singleton, List.take_append_of_le_length (by simp; omega), List.drop_append_of_le_length (by simp; omega), List.set_eq_take_append_cons_drop, if_pos (by simpa using h)]
  simp
theorem getD_set_ne {xs : List Int} {i j : Nat} {v : Int} (h : i ≠ j) : (xs.set j v).getD i 0 = xs.getD i 0 := by
  simp [List.getD_eq_getElem?_getD, List.getElem?_set, Ne.symm h]
theorem drop_iv {xs : List Int} {junk : List Value} {k : Nat} {v : Int} (h : k < xs.length) (hv : xs.getD k 0 = v) : List.drop (0 + k * 1) (iv xs ++ junk) = [.int .i64 v] ++ List.drop (k + 1) (iv xs ++ junk) := by
  subst hv
  have hlt : k < (iv xs ++ junk).length := by simp [iv]; omega
  rw [show 0 + k * 1 = k by omega, List.drop_eq_getElem_cons hlt]
  simp [iv, h, List.getD_eq_getElem?_getD]
theorem fit_iv {xs : List Int} {junk : List Value} {k : Nat} {v : Value} (h : k < xs.length) : 0 + k * 1 + [v].length ≤ (iv xs ++ junk).length := by simp [iv]; omega
def Cn.amtR (c : Cn) (f t : Nat) : Int := if f = 0 then (if c.lack c.co t ≤ c.st then c.lack c.co t else 0) else if t = 0 then c.co.g f else c.amt c.co f t
theorem rpints_any (c : Cn) (a1 : Option Addr) (p1 : Nat) (a2 : Option Addr) (p2 : Nat) (f t : Nat) (w : World) (hok : c.Ok) (hn : c.n ≤ 1000000) (hm : c.inn.length ≤ 1000000) (h1 : Ints w a1 c.n p1 c.sz) (h2 : Ints w a2 c.inn.length p2 c.inn) (hf : f ≤ c.n) (ht : t ≤ c.n) (hft : f ≠ t) :
    Ct Tryd.prog 54 #[.agg #[.slice a1 c.n p1, .slice a2 c.inn.length p2, .int .i64 c.st], .agg #[.int .i64 (f : Int), .int .i64 (t : Int)]] w fun v _ => v = .int .i64 (c.amtR f t) := by
  have hn3 := hok.n3
  have hlen := hok.len
  have hs0 := hok.st0
  have hs1 := hok.st1
  have hsz : c.sz.length = c.n := rfl
  have hF := wide_wide
  refine Ct_start (args := [_, _]) Tryd.func54 (by rfl) Tryd.ntmps54 (by rfl) ?_
  refine W_seq ?_
  refine W_region_lit (fun ds => ?_)
  refine WS_new hF (by rfl) (y_box (by rfl)) (fun b1 => ?_)
  refine WS_new hF (by rfl) (y_box (by rfl)) (fun b2 => ?_)
  refine WS_det hF (by rfl) (y_assign (c := .int .i64 _) (by rfl)) ?_
  refine WS_nil ?_
  refine Then_normal ?_
  refine W_seq ?_
  refine W_seq ?_
  refine W_region_lit (fun ds => ?_)
  refine WS_det hF (by rfl) (y_fieldAddr (by rfl) fa26_0) ?_
  refine WS_det hF (by rfl) (y_load1 (by rfl) Tryd.isAgg3 (Mem.own1 0 (by rfl) (by rfl))) ?_
  refine WS_det hF (by rfl) (y_eql (by rfl) (by rfl)) ?_
  refine WS_nil ?_
  refine Then_normal ?_
  refine W_cond (by rfl) (fun c1 => ?_) (fun c1 => ?_)
  ·
    try simp only [Bool.not_eq_true', Bool.not_eq_false', decide_eq_true_eq, decide_eq_false_iff_not, ne_eq, Classical.not_not, Int.not_lt, Int.not_le] at c1
    obtain rfl : f = 0 := by omega
    obtain ⟨j, rfl⟩ : ∃ j, t = j + 1 := ⟨t - 1, by omega⟩
    obtain ⟨b, o, rfl, hc⟩ := h1.cell j (by omega)
    obtain ⟨b', o', rfl, hc'⟩ := h2.cell j (by omega)
    change At w b _ [.int .i64 (c.s j)] at hc
    change At w b' _ [.int .i64 (c.i j)] at hc'
    have hs := hok.s j (by omega)
    have hi := hok.i j (by omega)
    have hla : c.lack c.co (j + 1) = c.s j - c.i j := by unfold Cn.lack; rw [c.co_g j (by omega)]; rfl
    refine W_seq ?_
    refine W_seq ?_
    refine W_draw0 hF Trydmixed [] (by decide +kernel) (fun ds => ?_)
    refine P_det (by rfl) (Over_nil (y_fieldAddr (by rfl) fa24_0)) ?_
    refine P_det (by rfl) (Over_nil (y_load1 (by rfl) Tryd.isAgg22 (Mem.own1 1 (by rfl) (by rfl)))) ?_
    refine P_det (by rfl) (Over_nil (y_fieldAddr (by rfl) fa26_1)) ?_
    refine P_det (by rfl) (Over_nil (y_load1 (by rfl) Tryd.isAgg3 (Mem.own1 0 (by rfl) (by rfl)))) ?_
    refine P_det (by rfl) (Over_nil (y_sub (by rfl) (by rfl) (by unfold I64; omega))) ?_
    refine P_det (by rfl) (Over_nil (y_index (k := j) (by rfl) (by rfl) (by first | rfl | omega) (by first | decide | omega) Tryd.runUnderlying22 Tryd.sizeOf3)) ?_
    refine P_det (by rfl) (Over_nil (y_load1 (by rfl) Tryd.isAgg3 (by first | exact Mem.old1 (by assumption) | exact Mem.oldAt1 (by assumption) (by rfl) | exact Mem.old (by assumption) | exact Mem.oldAtL1 (by assumption) (by rfl) (by rfl)))) ?_
    refine P_det (by rfl) (Over_nil (y_fieldAddr (by rfl) fa24_1)) ?_
    refine P_det (by rfl) (Over_nil (y_load1 (by rfl) Tryd.isAgg22 (Mem.own1 1 (by rfl) (by rfl)))) ?_
    refine P_det (by rfl) (Over_nil (y_fieldAddr (by rfl) fa26_1)) ?_
    refine P_det (by rfl) (Over_nil (y_load1 (by rfl) Tryd.isAgg3 (Mem.own1 0 (by rfl) (by rfl)))) ?_
    refine P_det (by rfl) (Over_nil (y_sub (by rfl) (by rfl) (by unfold I64; omega))) ?_
    refine P_det (by rfl) (Over_nil (y_index (k := j) (by rfl) (by rfl) (by first | rfl | omega) (by first | decide | omega) Tryd.runUnderlying22 Tryd.sizeOf3)) ?_
    refine P_det (by rfl) (Over_nil (y_load1 (by rfl) Tryd.isAgg3 (by first | exact Mem.old1 (by assumption) | exact Mem.oldAt1 (by assumption) (by rfl) | exact Mem.old (by assumption) | exact Mem.oldAtL1 (by assumption) (by rfl) (by rfl)))) ?_
    refine P_det (by rfl) (Over_nil (y_sub (by rfl) (by rfl) (by unfold I64; omega))) ?_
    refine P_det (by rfl) (Over_nil (y_assign (c := .int .i64 _) (by rfl))) ?_
    refine PW_end (by rfl) ?_
    refine OverAll_nil ?_
    rintro -
    refine Then_normal ?_
    refine W_seq ?_
    refine W_region_lit (fun ds => ?_)
    refine WS_det hF (by rfl) (y_move (c := .int .i64 _) (by rfl)) ?_
    refine WS_det hF (by rfl) (y_fieldAddr (by rfl) fa24_2) ?_
    refine WS_det hF (by rfl) (y_load1 (by rfl) Tryd.isAgg3 (Mem.own1 1 (by rfl) (by rfl))) ?_
    refine WS_det hF (by rfl) (y_leq (by rfl) (by rfl)) ?_
    refine WS_nil ?_
    refine Then_normal ?_
    refine W_cond (by rfl) (fun c3 => ?_) (fun c3 => ?_)
    ·
      try simp only [Bool.not_eq_true', Bool.not_eq_false', decide_eq_true_eq, decide_eq_false_iff_not, ne_eq, Classical.not_not, Int.not_lt, Int.not_le] at c3
      refine W_seq ?_
      refine W_region_lit (fun ds => ?_)
      refine WS_det hF (by rfl) (y_move (c := .int .i64 _) (by rfl)) ?_
      refine WS_det hF (by rfl) (y_assign (c := .int .i64 _) (by rfl)) ?_
      refine WS_nil ?_
      refine Then_normal ?_
      refine W_ret ?_
      refine Then_ret ?_
      refine Then_ret ?_
      refine Fin_ret [.int .i64 _] [] Tryd.results54 ⟨by rfl, trivial⟩ HSub.nil ?_
      show Value.int _ _ = _
      unfold Cn.amtR
      rw [if_pos rfl, hla, if_pos (by omega)]
    ·
      try simp only [Bool.not_eq_true', Bool.not_eq_false', decide_eq_true_eq, decide_eq_false_iff_not, ne_eq, Classical.not_not, Int.not_lt, Int.not_le] at c3
      refine W_skip ?_
      refine Then_normal ?_
      refine W_seq ?_
      refine W_region_lit (fun ds => ?_)
      refine WS_det hF (by rfl) (y_assign (c := .int .i64 _) (by rfl)) ?_
      refine WS_nil ?_
      refine Then_normal ?_
      refine W_ret ?_
      refine Then_ret ?_
      refine Fin_ret [.int .i64 _] [] Tryd.results54 ⟨by rfl, trivial⟩ HSub.nil ?_
      show Value.int _ _ = _
      unfold Cn.amtR
      rw [if_pos rfl, hla, if_neg (by omega)]
  ·
    try simp only [Bool.not_eq_true', Bool.not_eq_false', decide_eq_true_eq, decide_eq_false_iff_not, ne_eq, Classical.not_not, Int.not_lt, Int.not_le] at c1
    obtain ⟨j, rfl⟩ : ∃ j, f = j + 1 := ⟨f - 1, by omega⟩
    obtain ⟨b', o', rfl, hc'⟩ := h2.cell j (by omega)
    change At w b' _ [.int .i64 (c.i j)] at hc'
    have hi := hok.i j (by omega)
    have hs := hok.s j (by omega)
    have hgf : c.co.g (j + 1) = c.i j := c.co_g j (by omega)
    refine W_skip ?_
    refine Then_normal ?_
    refine W_seq ?_
    refine W_seq ?_
    refine W_region_lit (fun ds => ?_)
    refine WS_det hF (by rfl) (y_fieldAddr (by rfl) fa26_1) ?_
    refine WS_det hF (by rfl) (y_load1 (by rfl) Tryd.isAgg3 (Mem.own1 0 (by rfl) (by rfl))) ?_
    refine WS_det hF (by rfl) (y_eql (by rfl) (by rfl)) ?_
    refine WS_nil ?_
    refine Then_normal ?_
    refine W_cond (by rfl) (fun c6 => ?_) (fun c6 => ?_)
    ·
      try simp only [Bool.not_eq_true', Bool.not_eq_false', decide_eq_true_eq, decide_eq_false_iff_not, ne_eq, Classical.not_not, Int.not_lt, Int.not_le] at c6
      refine W_seq ?_
      refine W_region_lit (fun ds => ?_)
      refine WS_det hF (by rfl) (y_fieldAddr (by rfl) fa24_1) ?_
      refine WS_det hF (by rfl) (y_load1 (by rfl) Tryd.isAgg22 (Mem.own1 1 (by rfl) (by rfl))) ?_
      refine WS_det hF (by rfl) (y_fieldAddr (by rfl) fa26_0) ?_
      refine WS_det hF (by rfl) (y_load1 (by rfl) Tryd.isAgg3 (Mem.own1 0 (by rfl) (by rfl))) ?_
      refine WS_det hF (by rfl) (y_sub (by rfl) (by rfl) (by unfold I64; omega)) ?_
      refine WS_det hF (by rfl) (y_index (k := j) (by rfl) (by rfl) (by first | rfl | omega) (by first | decide | omega) Tryd.runUnderlying22 Tryd.sizeOf3) ?_
      refine WS_det hF (by rfl) (y_load1 (by rfl) Tryd.isAgg3 (by first | exact Mem.old1 (by assumption) | exact Mem.oldAt1 (by assumption) (by rfl) | exact Mem.old (by assumption) | exact Mem.oldAtL1 (by assumption) (by rfl) (by rfl))) ?_
      refine WS_det hF (by rfl) (y_assign (c := .int .i64 _) (by rfl)) ?_
      refine WS_nil ?_
      refine Then_normal ?_
      refine W_ret ?_
      refine Then_ret ?_
      refine Fin_ret [.int .i64 _] [] Tryd.results54 ⟨by rfl, trivial⟩ HSub.nil ?_
      show Value.int _ _ = _
      obtain rfl : t = 0 := by omega
      unfold Cn.amtR
      rw [if_neg (by omega), if_pos rfl, hgf]
    ·
      try simp only [Bool.not_eq_true', Bool.not_eq_false', decide_eq_true_eq, decide_eq_false_iff_not, ne_eq, Classical.not_not, Int.not_lt, Int.not_le] at c6
      obtain ⟨i, rfl⟩ : ∃ i, t = i + 1 := ⟨t - 1, by omega⟩
      obtain ⟨b2, o2, rfl, hd⟩ := h1.cell i (by omega)
      change At w b2 _ [.int .i64 (c.s i)] at hd
      have hd' := h2.at (k := i) (by omega)
      change At w b' _ [.int .i64 (c.i i)] at hd'
      have hs2 := hok.s i (by omega)
      have hi2 := hok.i i (by omega)
      have hla : c.lack c.co (i + 1) = c.s i - c.i i := by unfold Cn.lack; rw [c.co_g i (by omega)]; rfl
      refine W_skip ?_
      refine Then_normal ?_
      refine W_seq ?_
      refine W_draw0 hF Trydmixed [] (by decide +kernel) (fun ds => ?_)
      refine P_det (by rfl) (Over_nil (y_fieldAddr (by rfl) fa24_1)) ?_
      refine P_det (by rfl) (Over_nil (y_load1 (by rfl) Tryd.isAgg22 (Mem.own1 1 (by rfl) (by rfl)))) ?_
      refine P_det (by rfl) (Over_nil (y_fieldAddr (by rfl) fa26_0)) ?_
      refine P_det (by rfl) (Over_nil (y_load1 (by rfl) Tryd.isAgg3 (Mem.own1 0 (by rfl) (by rfl)))) ?_
      refine P_det (by rfl) (Over_nil (y_sub (by rfl) (by rfl) (by unfold I64; omega))) ?_
      refine P_det (by rfl) (Over_nil (y_index (k := j) (by rfl) (by rfl) (by first | rfl | omega) (by first | decide | omega) Tryd.runUnderlying22 Tryd.sizeOf3)) ?_
      refine P_det (by rfl) (Over_nil (y_load1 (by rfl) Tryd.isAgg3 (by first | exact Mem.old1 (by assumption) | exact Mem.oldAt1 (by assumption) (by rfl) | exact Mem.old (by assumption) | exact Mem.oldAtL1 (by assumption) (by rfl) (by rfl)))) ?_
      refine P_det (by rfl) (Over_nil (y_fieldAddr (by rfl) fa24_0)) ?_
      refine P_det (by rfl) (Over_nil (y_load1 (by rfl) Tryd.isAgg22 (Mem.own1 1 (by rfl) (by rfl)))) ?_
      refine P_det (by rfl) (Over_nil (y_fieldAddr (by rfl) fa26_1)) ?_
      refine P_det (by rfl) (Over_nil (y_load1 (by rfl) Tryd.isAgg3 (Mem.own1 0 (by rfl) (by rfl)))) ?_
      refine P_det (by rfl) (Over_nil (y_sub (by rfl) (by rfl) (by unfold I64; omega))) ?_
      refine P_det (by rfl) (Over_nil (y_index (k := i) (by rfl) (by rfl) (by first | rfl | omega) (by first | decide | omega) Tryd.runUnderlying22 Tryd.sizeOf3)) ?_
      refine P_det (by rfl) (Over_nil (y_load1 (by rfl) Tryd.isAgg3 (by first | exact Mem.old1 (by assumption) | exact Mem.oldAt1 (by assumption) (by rfl) | exact Mem.old (by assumption) | exact Mem.oldAtL1 (by assumption) (by rfl) (by rfl)))) ?_
      refine P_det (by rfl) (Over_nil (y_fieldAddr (by rfl) fa24_1)) ?_
      refine P_det (by rfl) (Over_nil (y_load1 (by rfl) Tryd.isAgg22 (Mem.own1 1 (by rfl) (by rfl)))) ?_
      refine P_det (by rfl) (Over_nil (y_fieldAddr (by rfl) fa26_1)) ?_
      refine P_det (by rfl) (Over_nil (y_load1 (by rfl) Tryd.isAgg3 (Mem.own1 0 (by rfl) (by rfl)))) ?_
      refine P_det (by rfl) (Over_nil (y_sub (by rfl) (by rfl) (by unfold I64; omega))) ?_
      refine P_det (by rfl) (Over_nil (y_index (k := i) (by rfl) (by rfl) (by first | rfl | omega) (by first | decide | omega) Tryd.runUnderlying22 Tryd.sizeOf3)) ?_
      refine P_det (by rfl) (Over_nil (y_load1 (by rfl) Tryd.isAgg3 (by first | exact Mem.old1 (by assumption) | exact Mem.oldAt1 (by assumption) (by rfl) | exact Mem.old (by assumption) | exact Mem.oldAtL1 (by assumption) (by rfl) (by rfl)))) ?_
      refine P_det (by rfl) (Over_nil (y_sub (by rfl) (by rfl) (by unfold I64; omega))) ?_
      refine P_det (by rfl) (Over_nil (y_min (by rfl) (by rfl))) ?_
      refine P_det (by rfl) (Over_nil (y_assign (c := .int .i64 _) (by rfl))) ?_
      refine PW_end (by rfl) ?_
      refine OverAll_nil ?_
      rintro -
      refine Then_normal ?_
      refine W_ret ?_
      refine Fin_ret [.int .i64 _] [] Tryd.results54 ⟨by rfl, trivial⟩ HSub.nil ?_
      show Value.int _ _ = _
      unfold Cn.amtR Cn.amt
      rw [if_neg (by omega), if_neg (by omega), hgf, hla]
theorem TwinC.mk2 {c c' : Cn} {z1 : Option Addr} {q1 pb q2 : Nat} {H1 : List Blk} {pj : List Value} (hs : c'.sz = c.sz) (hl : c'.inn.length = c.inn.length) (hr1 : NewRow 3 1 c.n (iv c.sz) (.slice z1 c.n q1) H1) (pl : (iv c.inn ++ pj).length = q2 * 1) (ple : c.inn.length ≤ q2) (h0 : 0 < c.inn.length) :
    TwinC c' (.agg #[.slice z1 c.n q1, .slice (some ⟨pb, 0, none⟩) c.inn.length q2, .int .i64 c'.st]) (H1 ++ [(pb, CB (iv c'.inn ++ pj) 3)]) := by
  have hn : c'.n = c.n := congrArg List.length hs
  refine ⟨z1, q1, some ⟨pb, 0, none⟩, q2, H1, [(pb, CB (iv c'.inn ++ pj) 3)], by rw [hn, hl], by rw [hn, hs]; exact hr1, NewRow.mk (junk := pj) rfl ?_ (by rw [hl]; exact ple) (by rw [hl]; exact h0), rfl⟩
  rw [← pl]
  simp only [List.length_append, iv, List.length_map, hl]
theorem rpoured_any (c : Cn) (a1 : Option Addr) (p1 : Nat) (a2 : Option Addr) (p2 : Nat) (f t : Nat) (m : Int) (w : World) (hok : c.Ok) (hn : c.n ≤ 1000000) (hm : c.inn.length ≤ 1000000) (h1 : Ints w a1 c.n p1 c.sz) (h2 : Ints w a2 c.inn.length p2 c.inn) (hf : f ≤ c.n) (ht : t ≤ c.n) (hft : f ≠ t) (hm0 : -1000 ≤ m) (hm1 : m ≤ 1000) :
    Ct Tryd.prog 55 #[.agg #[.slice a1 c.n p1, .slice a2 c.inn.length p2, .int .i64 c.st], .agg #[.int .i64 (f : Int), .int .i64 (t : Int)], .int .i64 m] w (TwinC (c.pou f t m)) := by
  have hn1 := hok.n1
  have hn3 := hok.n3
  have hlen := hok.len
  have hs0 := hok.st0
  have hs1 := hok.st1
  have hsz : c.sz.length = c.n := rfl
  have hF := wide_wide
  refine Ct_start (args := [_, _, _]) Tryd.func55 (by rfl) Tryd.ntmps55 (by rfl) ?_
  refine W_seq ?_
  refine W_region_lit (fun ds => ?_)
  refine WS_new hF (by rfl) (y_box (by rfl)) (fun b1 => ?_)
  refine WS_new hF (by rfl) (y_box (by rfl)) (fun b2 => ?_)
  refine WS_new hF (by rfl) (y_alloc Tryd.zeroValue24 (by rfl)) (fun b3 => ?_)
  refine WS_nil ?_
  refine Then_normal ?_
  refine W_seq ?_
  refine W_region_lit (fun ds => ?_)
  refine WS_det hF (by rfl) (y_loadN (by rfl) Tryd.isAgg24 Tryd.sizeOf24 (Mem.own (us := [.slice _ _ _, .slice _ _ _, .int .i64 _]) 2 (by rfl) (by rfl)) (by rfl)) ?_
  refine WS_gen hF (by rfl) (y_callL (by rfl) (by rfl) Tryd.call10 (fun w hw => rctwin_any c a1 p1 a2 p2 w hn hm (h1.st w hw) (h2.st w hw))) ?_
  rintro _ _ ⟨z1, q1, z2, q2, H1, H2, rfl, hr1, hr2, rfl⟩
  obtain ⟨pb, pj, rfl, rfl, pl, ple⟩ := NewRow.head hr2 (by omega)
  refine WS_back ?_
  refine WS_new hF (by rfl) (y_alloc Tryd.zeroValue24 (by rfl)) (fun bo => ?_)
  refine WS_store hF (us := [.slice _ _ _, .slice _ _ _, .int .i64 _]) (i := 0) (by rfl) (by rfl) Tryd.sizeOf24 (by rfl) (by rfl) (by rfl) (by first | decide | exact Nat.le_of_ble_eq_true rfl | simp) ?_
  refine WS_nil ?_
  refine Then_normal ?_
  refine W_seq ?_
  refine W_seq ?_
  refine W_pull (pb, CB (iv c.inn ++ pj) 3) (by repeat (first | exact Pul.base0 | exact Pul.base | apply Pul.cons | apply Pul.app)) ?_
  refine W_region_lit (fun ds => ?_)
  refine WS_det hF (by rfl) (y_fieldAddr (by rfl) fa26_0) ?_
  refine WS_det hF (by rfl) (y_load1 (by rfl) Tryd.isAgg3 (Mem.own1 3 (by rfl) (by rfl))) ?_
  refine WS_det hF (by rfl) (y_eql (by rfl) (by rfl)) ?_
  refine WS_nil ?_
  refine Then_normal ?_
  refine W_cond (by rfl) (fun c2 => ?_) (fun c2 => ?_)
  ·
    try simp only [Bool.not_eq_true', Bool.not_eq_false', decide_eq_true_eq, decide_eq_false_iff_not, ne_eq, Classical.not_not, Int.not_lt, Int.not_le] at c2
    obtain rfl : f = 0 := by omega
    refine W_region_lit (fun ds => ?_)
    refine WS_det hF (by rfl) (y_fieldAddr (by rfl) fa24_2) ?_
    refine WS_det hF (by rfl) (y_load1 (by rfl) Tryd.isAgg3 (Mem.own1 1 (by rfl) (by rfl))) ?_
    refine WS_det hF (by rfl) (y_move (c := .int .i64 _) (by rfl)) ?_
    refine WS_det hF (by rfl) (y_sub (by rfl) (by rfl) (by unfold I64; omega)) ?_
    refine WS_det hF (by rfl) (y_fieldAddr (by rfl) fa24_2) ?_
    refine WS_store hF (us := [.int .i64 _]) (i := 1) (by rfl) (by rfl) Tryd.sizeOf3 (by rfl) (by rfl) (by rfl) (by first | decide | exact Nat.le_of_ble_eq_true rfl | simp) ?_
    refine WS_nil ?_
    refine Then_normal ?_
    refine W_seq ?_
    refine W_seq ?_
    try rw [splice_iv _ _ _ _ (by omega)]
    refine W_region_lit (fun ds => ?_)
    refine WS_det hF (by rfl) (y_fieldAddr (by rfl) fa26_1) ?_
    refine WS_det hF (by rfl) (y_load1 (by rfl) Tryd.isAgg3 (Mem.own1 3 (by rfl) (by rfl))) ?_
    refine WS_det hF (by rfl) (y_eql (by rfl) (by rfl)) ?_
    refine WS_nil ?_
    refine Then_normal ?_
    refine W_cond (by rfl) (fun c5 => ?_) (fun c5 => ?_)
    ·
      try simp only [Bool.not_eq_true', Bool.not_eq_false', decide_eq_true_eq, decide_eq_false_iff_not, ne_eq, Classical.not_not, Int.not_lt, Int.not_le] at c5
      obtain rfl : t = 0 := by omega
      refine W_region_lit (fun ds => ?_)
      refine WS_det hF (by rfl) (y_fieldAddr (by rfl) fa24_2) ?_
      refine WS_det hF (by rfl) (y_load1 (by rfl) Tryd.isAgg3 (Mem.own1 1 (by rfl) (by rfl))) ?_
      refine WS_det hF (by rfl) (y_move (c := .int .i64 _) (by rfl)) ?_
      refine WS_det hF (by rfl) (y_add (by rfl) (by rfl) (by unfold I64; omega)) ?_
      refine WS_det hF (by rfl) (y_fieldAddr (by rfl) fa24_2) ?_
      refine WS_store hF (us := [.int .i64 _]) (i := 1) (by rfl) (by rfl) Tryd.sizeOf3 (by rfl) (by rfl) (by rfl) (by first | decide | exact Nat.le_of_ble_eq_true rfl | simp) ?_
      refine WS_nil ?_
      refine Then_normal ?_
      refine W_seq ?_
      try rw [splice_iv _ _ _ _ (by first | omega | (rw [List.length_set]; omega))]
      refine W_region_lit (fun ds => ?_)
      refine WS_det hF (by rfl) (y_loadN (by rfl) Tryd.isAgg24 Tryd.sizeOf24 (Mem.own (us := [.slice _ _ _, .slice _ _ _, .int .i64 _]) 1 (by rfl) (by rfl)) (by rfl)) ?_
      refine WS_store hF (us := [.slice _ _ _, .slice _ _ _, .int .i64 _]) (i := 2) (by rfl) (by rfl) Tryd.sizeOf24 (by rfl) (by rfl) (by rfl) (by first | decide | exact Nat.le_of_ble_eq_true rfl | simp) ?_
      refine WS_nil ?_
      refine Then_normal ?_
      refine W_ret ?_
      refine Fin_ret [_] (H1 ++ [(pb, _)]) Tryd.results55 ⟨lvN (by rfl) Tryd.isAgg24 Tryd.sizeOf24 (Mem.own (us := [.slice _ _ _, .slice _ _ _, .int .i64 _]) 2 (by rfl) (by rfl)) (by rfl), trivial⟩ (HSub.perm (Hn := (pb, _) :: H1) (HSub.sub sbA) (List.perm_append_singleton _ _)) ?_
      exact absurd rfl hft
    ·
      try simp only [Bool.not_eq_true', Bool.not_eq_false', decide_eq_true_eq, decide_eq_false_iff_not, ne_eq, Classical.not_not, Int.not_lt, Int.not_le] at c5
      obtain ⟨i, rfl⟩ : ∃ i, t = i + 1 := ⟨t - 1, by omega⟩
      have hs2 := hok.s i (by omega)
      have hi2 := hok.i i (by omega)
      refine W_region_lit (fun ds => ?_)
      refine WS_det hF (by rfl) (y_fieldAddr (by rfl) fa24_1) ?_
      refine WS_det hF (by rfl) (y_load1 (by rfl) Tryd.isAgg22 (Mem.own1 1 (by rfl) (by rfl))) ?_
      refine WS_det hF (by rfl) (y_fieldAddr (by rfl) fa26_1) ?_
      refine WS_det hF (by rfl) (y_load1 (by rfl) Tryd.isAgg3 (Mem.own1 3 (by rfl) (by rfl))) ?_
      refine WS_det hF (by rfl) (y_sub (by rfl) (by rfl) (by unfold I64; omega)) ?_
      refine WS_det hF (by rfl) (y_index (k := i) (by rfl) (by rfl) (by first | rfl | omega) (by first | decide | omega) Tryd.runUnderlying22 Tryd.sizeOf3) ?_
      refine WS_det hF (by rfl) (y_load1 (by rfl) Tryd.isAgg3 (Mem.own (us := [.int .i64 (c.i i)]) 0 (by rfl) (drop_iv (by first | omega | (rw [List.length_set]; omega)) (by first | rfl | exact getD_set_ne (by omega))))) ?_
      refine WS_det hF (by rfl) (y_move (c := .int .i64 _) (by rfl)) ?_
      refine WS_det hF (by rfl) (y_add (by rfl) (by rfl) (by unfold I64; omega)) ?_
      refine WS_det hF (by rfl) (y_index (k := i) (by rfl) (by rfl) (by first | rfl | omega) (by first | decide | omega) Tryd.runUnderlying22 Tryd.sizeOf3) ?_
      refine WS_store hF (us := [.int .i64 _]) (i := 0) (by rfl) (by rfl) Tryd.sizeOf3 (by rfl) (by rfl) (by rfl) (fit_iv (by first | omega | (rw [List.length_set]; omega))) ?_
      refine WS_nil ?_
      refine Then_normal ?_
      refine W_seq ?_
      try rw [splice_iv _ _ _ _ (by first | omega | (rw [List.length_set]; omega))]
      refine W_region_lit (fun ds => ?_)
      refine WS_det hF (by rfl) (y_loadN (by rfl) Tryd.isAgg24 Tryd.sizeOf24 (Mem.own (us := [.slice _ _ _, .slice _ _ _, .int .i64 _]) 1 (by rfl) (by rfl)) (by rfl)) ?_
      refine WS_store hF (us := [.slice _ _ _, .slice _ _ _, .int .i64 _]) (i := 2) (by rfl) (by rfl) Tryd.sizeOf24 (by rfl) (by rfl) (by rfl) (by first | decide | exact Nat.le_of_ble_eq_true rfl | simp) ?_
      refine WS_nil ?_
      refine Then_normal ?_
      refine W_ret ?_
      refine Fin_ret [_] (H1 ++ [(pb, _)]) Tryd.results55 ⟨lvN (by rfl) Tryd.isAgg24 Tryd.sizeOf24 (Mem.own (us := [.slice _ _ _, .slice _ _ _, .int .i64 _]) 2 (by rfl) (by rfl)) (by rfl), trivial⟩ (HSub.perm (Hn := (pb, _) :: H1) (HSub.sub sbA) (List.perm_append_singleton _ _)) ?_
      exact TwinC.mk2 (c := c) (c' := c.pou _ _ _) rfl (by simp only [Cn.pou, Cn.put, List.length_set]) hr1 pl ple (by omega)
  ·
    try simp only [Bool.not_eq_true', Bool.not_eq_false', decide_eq_true_eq, decide_eq_false_iff_not, ne_eq, Classical.not_not, Int.not_lt, Int.not_le] at c2
    obtain ⟨j, rfl⟩ : ∃ j, f = j + 1 := ⟨f - 1, by omega⟩
    have hs := hok.s j (by omega)
    have hi := hok.i j (by omega)
    refine W_region_lit (fun ds => ?_)
    refine WS_det hF (by rfl) (y_fieldAddr (by rfl) fa24_1) ?_
    refine WS_det hF (by rfl) (y_load1 (by rfl) Tryd.isAgg22 (Mem.own1 1 (by rfl) (by rfl))) ?_
    refine WS_det hF (by rfl) (y_fieldAddr (by rfl) fa26_0) ?_
    refine WS_det hF (by rfl) (y_load1 (by rfl) Tryd.isAgg3 (Mem.own1 3 (by rfl) (by rfl))) ?_
    refine WS_det hF (by rfl) (y_sub (by rfl) (by rfl) (by unfold I64; omega)) ?_
    refine WS_det hF (by rfl) (y_index (k := j) (by rfl) (by rfl) (by first | rfl | omega) (by first | decide | omega) Tryd.runUnderlying22 Tryd.sizeOf3) ?_
    refine WS_det hF (by rfl) (y_load1 (by rfl) Tryd.isAgg3 (Mem.own (us := [.int .i64 (c.i j)]) 0 (by rfl) (drop_iv (by omega) rfl))) ?_
    refine WS_det hF (by rfl) (y_move (c := .int .i64 _) (by rfl)) ?_
    refine WS_det hF (by rfl) (y_sub (by rfl) (by rfl) (by unfold I64; omega)) ?_
    refine WS_det hF (by rfl) (y_index (k := j) (by rfl) (by rfl) (by first | rfl | omega) (by first | decide | omega) Tryd.runUnderlying22 Tryd.sizeOf3) ?_
    refine WS_store hF (us := [.int .i64 _]) (i := 0) (by rfl) (by rfl) Tryd.sizeOf3 (by rfl) (by rfl) (by rfl) (fit_iv (by omega)) ?_
    refine WS_nil ?_
    refine Then_normal ?_
    refine W_seq ?_
    refine W_seq ?_
    try rw [splice_iv _ _ _ _ (by omega)]
    refine W_region_lit (fun ds => ?_)
    refine WS_det hF (by rfl) (y_fieldAddr (by rfl) fa26_1) ?_
    refine WS_det hF (by rfl) (y_load1 (by rfl) Tryd.isAgg3 (Mem.own1 3 (by rfl) (by rfl))) ?_
    refine WS_det hF (by rfl) (y_eql (by rfl) (by rfl)) ?_
    refine WS_nil ?_
    refine Then_normal ?_
    refine W_cond (by rfl) (fun c5 => ?_) (fun c5 => ?_)
    ·
      try simp only [Bool.not_eq_true', Bool.not_eq_false', decide_eq_true_eq, decide_eq_false_iff_not, ne_eq, Classical.not_not, Int.not_lt, Int.not_le] at c5
      obtain rfl : t = 0 := by omega
      refine W_region_lit (fun ds => ?_)
      refine WS_det hF (by rfl) (y_fieldAddr (by rfl) fa24_2) ?_
      refine WS_det hF (by rfl) (y_load1 (by rfl) Tryd.isAgg3 (Mem.own1 1 (by rfl) (by rfl))) ?_
      refine WS_det hF (by rfl) (y_move (c := .int .i64 _) (by rfl)) ?_
      refine WS_det hF (by rfl) (y_add (by rfl) (by rfl) (by unfold I64; omega)) ?_
      refine WS_det hF (by rfl) (y_fieldAddr (by rfl) fa24_2) ?_
      refine WS_store hF (us := [.int .i64 _]) (i := 1) (by rfl) (by rfl) Tryd.sizeOf3 (by rfl) (by rfl) (by rfl) (by first | decide | exact Nat.le_of_ble_eq_true rfl | simp) ?_
      refine WS_nil ?_
      refine Then_normal ?_
      refine W_seq ?_
      try rw [splice_iv _ _ _ _ (by first | omega | (rw [List.length_set]; omega))]
      refine W_region_lit (fun ds => ?_)
      refine WS_det hF (by rfl) (y_loadN (by rfl) Tryd.isAgg24 Tryd.sizeOf24 (Mem.own (us := [.slice _ _ _, .slice _ _ _, .int .i64 _]) 1 (by rfl) (by rfl)) (by rfl)) ?_
      refine WS_store hF (us := [.slice _ _ _, .slice _ _ _, .int .i64 _]) (i := 2) (by rfl) (by rfl) Tryd.sizeOf24 (by rfl) (by rfl) (by rfl) (by first | decide | exact Nat.le_of_ble_eq_true rfl | simp) ?_
      refine WS_nil ?_
      refine Then_normal ?_
      refine W_ret ?_
      refine Fin_ret [_] (H1 ++ [(pb, _)]) Tryd.results55 ⟨lvN (by rfl) Tryd.isAgg24 Tryd.sizeOf24 (Mem.own (us := [.slice _ _ _, .slice _ _ _, .int .i64 _]) 2 (by rfl) (by rfl)) (by rfl), trivial⟩ (HSub.perm (Hn := (pb, _) :: H1) (HSub.sub sbA) (List.perm_append_singleton _ _)) ?_
      exact TwinC.mk2 (c := c) (c' := c.pou _ _ _) rfl (by simp only [Cn.pou, Cn.put, List.length_set]) hr1 pl ple (by omega)
    ·
      try simp only [Bool.not_eq_true', Bool.not_eq_false', decide_eq_true_eq, decide_eq_false_iff_not, ne_eq, Classical.not_not, Int.not_lt, Int.not_le] at c5
      obtain ⟨i, rfl⟩ : ∃ i, t = i + 1 := ⟨t - 1, by omega⟩
      have hs2 := hok.s i (by omega)
      have hi2 := hok.i i (by omega)
      refine W_region_lit (fun ds => ?_)
      refine WS_det hF (by rfl) (y_fieldAddr (by rfl) fa24_1) ?_
      refine WS_det hF (by rfl) (y_load1 (by rfl) Tryd.isAgg22 (Mem.own1 1 (by rfl) (by rfl))) ?_
      refine WS_det hF (by rfl) (y_fieldAddr (by rfl) fa26_1) ?_
      refine WS_det hF (by rfl) (y_load1 (by rfl) Tryd.isAgg3 (Mem.own1 3 (by rfl) (by rfl))) ?_
      refine WS_det hF (by rfl) (y_sub (by rfl) (by rfl) (by unfold I64; omega)) ?_
      refine WS_det hF (by rfl) (y_index (k := i) (by rfl) (by rfl) (by first | rfl | omega) (by first | decide | omega) Tryd.runUnderlying22 Tryd.sizeOf3) ?_
      refine WS_det hF (by rfl) (y_load1 (by rfl) Tryd.isAgg3 (Mem.own (us := [.int .i64 (c.i i)]) 0 (by rfl) (drop_iv (by first | omega | (rw [List.length_set]; omega)) (by first | rfl | exact getD_set_ne (by omega))))) ?_
      refine WS_det hF (by rfl) (y_move (c := .int .i64 _) (by rfl)) ?_
      refine WS_det hF (by rfl) (y_add (by rfl) (by rfl) (by unfold I64; omega)) ?_
      refine WS_det hF (by rfl) (y_index (k := i) (by rfl) (by rfl) (by first | rfl | omega) (by first | decide | omega) Tryd.runUnderlying22 Tryd.sizeOf3) ?_
      refine WS_store hF (us := [.int .i64 _]) (i := 0) (by rfl) (by rfl) Tryd.sizeOf3 (by rfl) (by rfl) (by rfl) (fit_iv (by first | omega | (rw [List.length_set]; omega))) ?_
      refine WS_nil ?_
      refine Then_normal ?_
      refine W_seq ?_
      try rw [splice_iv _ _ _ _ (by first | omega | (rw [List.length_set]; omega))]
      refine W_region_lit (fun ds => ?_)
      refine WS_det hF (by rfl) (y_loadN (by rfl) Tryd.isAgg24 Tryd.sizeOf24 (Mem.own (us := [.slice _ _ _, .slice _ _ _, .int .i64 _]) 1 (by rfl) (by rfl)) (by rfl)) ?_
      refine WS_store hF (us := [.slice _ _ _, .slice _ _ _, .int .i64 _]) (i := 2) (by rfl) (by rfl) Tryd.sizeOf24 (by rfl) (by rfl) (by rfl) (by first | decide | exact Nat.le_of_ble_eq_true rfl | simp) ?_
      refine WS_nil ?_
      refine Then_normal ?_
      refine W_ret ?_
      refine Fin_ret [_] (H1 ++ [(pb, _)]) Tryd.results55 ⟨lvN (by rfl) Tryd.isAgg24 Tryd.sizeOf24 (Mem.own (us := [.slice _ _ _, .slice _ _ _, .int .i64 _]) 2 (by rfl) (by rfl)) (by rfl), trivial⟩ (HSub.perm (Hn := (pb, _) :: H1) (HSub.sub sbA) (List.perm_append_singleton _ _)) ?_
      exact TwinC.mk2 (c := c) (c' := c.pou _ _ _) rfl (by simp only [Cn.pou, Cn.put, List.length_set]) hr1 pl ple (by omega)
end Go.Proofs.YtjekjehgmljbgaaDoor.T

/- The reference's Pour and Play, walked. -/
namespace Go.Proofs.YtjekjehgmljbgaaDoor.T
open Go.RowKit Go.Proofs Go.Eng
set_option maxRecDepth 100000
set_option maxHeartbeats 1000000
set_option linter.unusedVariables false
set_option linter.unusedSimpArgs false

theorem bd24  : ∀ w, (Instr.build 24 #[]).run Tryd.prog w = .ok (.agg #[.slice none 0 0, .slice none 0 0, .int .i64 0]) w := fun w => by kernel_rfl

theorem Cn.Ok.lack0 {c : Cn} (h : c.Ok) {t : Nat} (ht : t ≤ c.n) : 0 ≤ c.lack c.co t ∧ c.lack c.co t ≤ 600 := by
  have h3 := h.n3
  have h0 := h.st0
  have h1 := h.st1
  unfold Cn.lack Cn.room
  cases t with
  | zero => show 0 ≤ 600 - c.st ∧ 600 - c.st ≤ 600; omega
  | succ k =>
    have hs := h.s k (by omega)
    have hi := h.i k (by omega)
    rw [if_neg (by omega), c.co_g k (by omega), Nat.add_sub_cancel]
    omega
theorem Cn.Ok.g0 {c : Cn} (h : c.Ok) {f : Nat} (hf : f ≤ c.n) : 0 ≤ c.co.g f ∧ c.co.g f ≤ 600 := by
  have h3 := h.n3
  have h0 := h.st0
  have h1 := h.st1
  cases f with
  | zero => exact ⟨h0, h1⟩
  | succ k =>
    have hs := h.s k (by omega)
    have hi := h.i k (by omega)
    rw [c.co_g k (by omega)]
    omega
theorem Cn.Ok.amtR_bd {c : Cn} (h : c.Ok) {f t : Nat} (hf : f ≤ c.n) (ht : t ≤ c.n) : 0 ≤ c.amtR f t ∧ c.amtR f t ≤ 600 := by
  have h1 := h.lack0 ht
  have h2 := h.g0 hf
  unfold Cn.amtR Cn.amt
  split
  · split <;> omega
  · split
    · exact h2
    · omega
theorem Cn.pou_st (c : Cn) {f t : Nat} (hft : f ≠ t) (m : Int) : (c.pou f t m).st = if f = 0 then c.st - m else if t = 0 then c.st + m else c.st := by
  unfold Cn.pou
  cases f with
  | zero => cases t with
    | zero => exact absurd rfl hft
    | succ j => rfl
  | succ i => cases t with
    | zero => rfl
    | succ j => rfl
theorem Cn.Ok.can_iff {c : Cn} (h : c.Ok) {f t : Nat} (hf : f ≤ c.n) (ht : t ≤ c.n) (hft : f ≠ t) : c.canB c.co f t = true ↔ ¬ (c.amtR f t = 0 ∨ 600 < (c.pou f t (c.amtR f t)).st) := by
  have h1 := h.lack0 ht
  have h2 := h.g0 hf
  have h3 := h.st0
  have h4 := h.st1
  rw [Cn.canB_iff, c.pou_st hft]
  unfold Cn.amtR Cn.amt
  by_cases hf0 : f = 0
  · subst hf0
    simp only [if_true, true_and]
    change 0 ≤ c.st ∧ c.st ≤ 600 at h2
    change (¬ (c.st < _) ∧ _) ∧ 0 < min c.st _ ↔ _
    split <;> omega
  · by_cases ht0 : t = 0
    · subst ht0
      have hl : c.lack c.co 0 = 600 - c.st := rfl
      rw [hl] at h1 ⊢
      simp only [if_neg hf0, if_true, true_and]
      by_cases hg : c.co.g f ≤ 600 - c.st
      · rw [Int.min_eq_left hg]; omega
      · rw [Int.min_eq_right (show 600 - c.st ≤ c.co.g f by omega)]; omega
    · simp only [if_neg hf0, if_neg ht0]
      omega
theorem Cn.Ok.amt_of {c : Cn} (h : c.Ok) {f t : Nat} (hft : f ≠ t) (hc : c.canB c.co f t = true) : c.amtR f t = c.amt c.co f t := by
  rw [Cn.canB_iff] at hc
  unfold Cn.amtR
  unfold Cn.amt at *
  by_cases hf0 : f = 0
  · subst hf0
    have hg : c.co.g 0 = c.st := rfl
    rw [hg] at hc ⊢
    rw [if_pos rfl]
    split <;> omega
  · rw [if_neg hf0]
    by_cases ht0 : t = 0
    · subst ht0
      rw [if_pos rfl]
      omega
    · rw [if_neg ht0]
theorem twinC_zero : TwinC Cn.zero (.agg #[.slice none 0 0, .slice none 0 0, .int .i64 0]) [] :=
  ⟨none, 0, none, 0, [], [], rfl, ⟨none, 0, rfl, Nat.le_refl _, .inr ⟨rfl, rfl, rfl⟩⟩, ⟨none, 0, rfl, Nat.le_refl _, .inr ⟨rfl, rfl, rfl⟩⟩, rfl⟩
def PourV (c : Cn) (p : Po) (v : Value) (Hn : List Blk) : Prop := ∃ v0, v = .tuple #[v0, .int .i64 (c.poE p)] ∧ TwinC (c.poC p) v0 Hn
theorem PourV.bad {c : Cn} {p : Po} {e : Int} (h : c.poE p = e) (he : e ≠ 0) : PourV c p (.tuple #[.agg #[.slice none 0 0, .slice none 0 0, .int .i64 0], .int .i64 e]) [] := by
  refine ⟨_, by rw [h], ?_⟩
  have : c.poC p = Cn.zero := by
    unfold Cn.poC
    unfold Cn.poE at h
    split
    · rename_i hb
      rw [if_pos hb] at h
      rw [if_neg (by rw [h]; exact he)]
    · rfl
  rw [this]
  exact twinC_zero
theorem Cn.poE_bad {c : Cn} {p : Po} (h : c.okB = false) : c.poE p = 80 := by unfold Cn.poE; rw [h]; rfl
theorem Cn.poE_inv {c : Cn} {p : Po} (h : c.okB = true) (hv : c.vldB p = false) : c.poE p = 81 := by
  unfold Cn.poE Cn.pE; rw [if_pos h, hv]; rfl
theorem Cn.poE_no {c : Cn} {f t : Nat} (h : c.okB = true) (hv : c.vldB ⟨f, t⟩ = true) (hc : ¬ c.canB c.co f t = true) : c.poE ⟨f, t⟩ = 6 := by
  unfold Cn.poE Cn.pE
  rw [if_pos h, if_pos hv, if_neg]
  exact hc
theorem Cn.poE_yes {c : Cn} {f t : Nat} (h : c.okB = true) (hv : c.vldB ⟨f, t⟩ = true) (hc : c.canB c.co f t = true) : c.poE ⟨f, t⟩ = 0 ∧ c.poC ⟨f, t⟩ = c.of (c.to c.co f t) := by
  have h0 : c.pE c.co ⟨f, t⟩ = 0 := Cn.pE_zero.2 ⟨hv, hc⟩
  unfold Cn.poE Cn.poC
  rw [if_pos h, if_pos h, if_pos h0]
  exact ⟨h0, rfl⟩
theorem rpour_any (c : Cn) (a1 : Option Addr) (p1 : Nat) (a2 : Option Addr) (p2 : Nat) (p : Po) (w : World) (hn : c.n ≤ 1000000) (hm : c.inn.length ≤ 1000000) (h1 : Ints w a1 c.n p1 c.sz) (h2 : Ints w a2 c.inn.length p2 c.inn) : Ct Tryd.prog 12 #[.agg #[.slice a1 c.n p1, .slice a2 c.inn.length p2, .int .i64 c.st], .agg p.cells.toArray] w (PourV c p) := by
  obtain ⟨pf, pt⟩ := p
  have hF := wide_wide
  refine Ct_start (args := [_, _]) Tryd.func12 (by rfl) Tryd.ntmps12 (by rfl) ?_
  refine W_seq ?_
  refine W_region_lit (fun ds => ?_)
  refine WS_new hF (by rfl) (y_box (by rfl)) (fun b1 => ?_)
  refine WS_new hF (by rfl) (y_box (by rfl)) (fun b2 => ?_)
  refine WS_new hF (by rfl) (y_alloc Tryd.zeroValue24 (by rfl)) (fun b3 => ?_)
  refine WS_det hF (by rfl) (y_assign (c := .int .i64 _) (by rfl)) ?_
  refine WS_nil ?_
  refine Then_normal ?_
  refine W_seq ?_
  refine W_seq ?_
  refine W_region_lit (fun ds => ?_)
  refine WS_det hF (by rfl) (y_loadN (by rfl) Tryd.isAgg24 Tryd.sizeOf24 (Mem.own (us := [.slice _ _ _, .slice _ _ _, .int .i64 _]) 2 (by rfl) (by rfl)) (by rfl)) ?_
  refine WS_det hF (by rfl) (y_callL (by rfl) (by rfl) Tryd.call52 (fun w hw => rcans_any c a1 p1 a2 p2 w hn hm (h1.st w hw) (h2.st w hw))) ?_
  refine WS_det hF (by rfl) (y_not (by rfl)) ?_
  refine WS_nil ?_
  refine Then_normal ?_
  refine W_cond (by rfl) (fun c1 => ?_) (fun c1 => ?_)
  ·
    try simp only [Bool.not_eq_true', Bool.not_eq_false', decide_eq_true_eq, decide_eq_false_iff_not, ne_eq, Classical.not_not, Int.not_lt, Int.not_le] at c1
    refine W_seq ?_
    refine W_region_lit (fun ds => ?_)
    refine WS_det hF (by rfl) (y_buildL bd24 (by rfl)) ?_
    refine WS_store hF (us := [.slice _ _ _, .slice _ _ _, .int .i64 _]) (i := 0) (by rfl) (by rfl) Tryd.sizeOf24 (by rfl) (by rfl) (by rfl) (by first | decide | exact Nat.le_of_ble_eq_true rfl | simp) ?_
    refine WS_det hF (by rfl) (y_assign (c := .int .i64 _) (by rfl)) ?_
    refine WS_nil ?_
    refine Then_normal ?_
    refine W_ret ?_
    refine Then_ret ?_
    refine Fin_ret [_, .int .i64 _] [] Tryd.results12 ⟨lvN (by rfl) Tryd.isAgg24 Tryd.sizeOf24 (Mem.own (us := [.slice _ _ _, .slice _ _ _, .int .i64 _]) 0 (by rfl) (by rfl)) (by rfl), by rfl, trivial⟩ HSub.nil ?_
    exact PourV.bad (Cn.poE_bad c1) (by decide)
  ·
    try simp only [Bool.not_eq_true', Bool.not_eq_false', decide_eq_true_eq, decide_eq_false_iff_not, ne_eq, Classical.not_not, Int.not_lt, Int.not_le] at c1
    refine W_skip ?_
    refine Then_normal ?_
    refine W_seq ?_
    refine W_seq ?_
    refine W_region_lit (fun ds => ?_)
    refine WS_det hF (by rfl) (y_loadN (by rfl) Tryd.isAgg24 Tryd.sizeOf24 (Mem.own (us := [.slice _ _ _, .slice _ _ _, .int .i64 _]) 2 (by rfl) (by rfl)) (by rfl)) ?_
    refine WS_det hF (by rfl) (y_loadN (by rfl) Tryd.isAgg26 Tryd.sizeOf26 (Mem.own (us := [.int .i64 _, .int .i64 _]) 1 (by rfl) (by rfl)) (by rfl)) ?_
    refine WS_det hF (by rfl) (y_callL (by rfl) (by rfl) Tryd.call53 (fun w hw => rpouring_any c a1 p1 a2 p2 ⟨pf, pt⟩ w)) ?_
    refine WS_det hF (by rfl) (y_not (by rfl)) ?_
    refine WS_nil ?_
    refine Then_normal ?_
    refine W_cond (by rfl) (fun c3 => ?_) (fun c3 => ?_)
    ·
      try simp only [Bool.not_eq_true', Bool.not_eq_false', decide_eq_true_eq, decide_eq_false_iff_not, ne_eq, Classical.not_not, Int.not_lt, Int.not_le] at c3
      refine W_seq ?_
      refine W_region_lit (fun ds => ?_)
      refine WS_det hF (by rfl) (y_buildL bd24 (by rfl)) ?_
      refine WS_store hF (us := [.slice _ _ _, .slice _ _ _, .int .i64 _]) (i := 0) (by rfl) (by rfl) Tryd.sizeOf24 (by rfl) (by rfl) (by rfl) (by first | decide | exact Nat.le_of_ble_eq_true rfl | simp) ?_
      refine WS_det hF (by rfl) (y_assign (c := .int .i64 _) (by rfl)) ?_
      refine WS_nil ?_
      refine Then_normal ?_
      refine W_ret ?_
      refine Then_ret ?_
      refine Fin_ret [_, .int .i64 _] [] Tryd.results12 ⟨lvN (by rfl) Tryd.isAgg24 Tryd.sizeOf24 (Mem.own (us := [.slice _ _ _, .slice _ _ _, .int .i64 _]) 0 (by rfl) (by rfl)) (by rfl), by rfl, trivial⟩ HSub.nil ?_
      exact PourV.bad (Cn.poE_inv c1 c3) (by decide)
    ·
      try simp only [Bool.not_eq_true', Bool.not_eq_false', decide_eq_true_eq, decide_eq_false_iff_not, ne_eq, Classical.not_not, Int.not_lt, Int.not_le] at c3
      have hok := Cn.ok_iff.1 c1
      have hn3 := hok.n3
      obtain ⟨⟨hf0, hf1⟩, ⟨ht0, ht1⟩, hne⟩ := Cn.vld_iff.1 c3
      simp only at hf0 hf1 ht0 ht1 hne
      obtain ⟨f, rfl⟩ := Int.eq_ofNat_of_zero_le hf0
      obtain ⟨t, rfl⟩ := Int.eq_ofNat_of_zero_le ht0
      have hf : f ≤ c.n := by omega
      have ht : t ≤ c.n := by omega
      have hft : f ≠ t := by omega
      have hbd := hok.amtR_bd hf ht
      have hci := hok.can_iff hf ht hft
      have hst := c.pou_st hft (c.amtR f t)
      refine W_skip ?_
      refine Then_normal ?_
      refine W_seq ?_
      refine W_region_lit (fun ds => ?_)
      refine WS_det hF (by rfl) (y_loadN (by rfl) Tryd.isAgg24 Tryd.sizeOf24 (Mem.own (us := [.slice _ _ _, .slice _ _ _, .int .i64 _]) 2 (by rfl) (by rfl)) (by rfl)) ?_
      refine WS_det hF (by rfl) (y_loadN (by rfl) Tryd.isAgg26 Tryd.sizeOf26 (Mem.own (us := [.int .i64 _, .int .i64 _]) 1 (by rfl) (by rfl)) (by rfl)) ?_
      refine WS_det hF (by rfl) (y_callL (by rfl) (by rfl) Tryd.call54 (fun w hw => rpints_any c a1 p1 a2 p2 f t w hok hn hm (h1.st w hw) (h2.st w hw) hf ht hft)) ?_
      refine WS_det hF (by rfl) (y_assign (c := .int .i64 _) (by rfl)) ?_
      refine WS_nil ?_
      refine Then_normal ?_
      refine W_seq ?_
      refine W_region_lit (fun ds => ?_)
      refine WS_det hF (by rfl) (y_loadN (by rfl) Tryd.isAgg24 Tryd.sizeOf24 (Mem.own (us := [.slice _ _ _, .slice _ _ _, .int .i64 _]) 2 (by rfl) (by rfl)) (by rfl)) ?_
      refine WS_det hF (by rfl) (y_loadN (by rfl) Tryd.isAgg26 Tryd.sizeOf26 (Mem.own (us := [.int .i64 _, .int .i64 _]) 1 (by rfl) (by rfl)) (by rfl)) ?_
      refine WS_det hF (by rfl) (y_move (c := .int .i64 _) (by rfl)) ?_
      refine WS_gen hF (by rfl) (y_callL (by rfl) (by rfl) Tryd.call55 (fun w hw => rpoured_any c a1 p1 a2 p2 f t (c.amtR f t) w hok hn hm (h1.st w hw) (h2.st w hw) hf ht hft (by omega) (by omega))) ?_
      rintro _ _ ⟨z1, q1, z2, q2, H1, H2, rfl, hr1, hr2, rfl⟩
      refine WS_back ?_
      refine WS_new hF (by rfl) (y_alloc Tryd.zeroValue24 (by rfl)) (fun bo => ?_)
      refine WS_store hF (us := [.slice _ _ _, .slice _ _ _, .int .i64 _]) (i := 0) (by rfl) (by rfl) Tryd.sizeOf24 (by rfl) (by rfl) (by rfl) (by first | decide | exact Nat.le_of_ble_eq_true rfl | simp) ?_
      refine WS_nil ?_
      refine Then_normal ?_
      refine W_seq ?_
      refine W_seq ?_
      refine W_region_lit (fun ds => ?_)
      refine WS_det hF (by rfl) (y_move (c := .int .i64 _) (by rfl)) ?_
      refine WS_det hF (by rfl) (y_eql (by rfl) (by rfl)) ?_
      refine WS_det hF (by rfl) (y_move (c := .bool _) (by rfl)) ?_
      refine WS_split 26 (by rfl) (fun g7_2 => ?_) (fun g7_2 => ?_)
      ·
        try simp only [Bool.not_eq_true', Bool.not_eq_false', decide_eq_true_eq, decide_eq_false_iff_not, ne_eq, Classical.not_not, Int.not_lt, Int.not_le] at g7_2
        refine WS_no hF (by rfl) ?_
        refine WS_no hF (by rfl) ?_
        refine WS_no hF (by rfl) ?_
        refine WS_det hF (by rfl) (by first | exact y_pick_t (c := .bool _) (by rfl) (by rfl) | exact y_pick_f (c := .bool _) (by rfl) (by rfl)) ?_
        refine WS_nil ?_
        refine Then_normal ?_
        refine W_cond (by rfl) (fun c7 => ?_) (fun c7 => ?_)
        ·
          try simp only [Bool.not_eq_true', Bool.not_eq_false', decide_eq_true_eq, decide_eq_false_iff_not, ne_eq, Classical.not_not, Int.not_lt, Int.not_le] at c7
          refine W_seq ?_
          refine W_region_lit (fun ds => ?_)
          refine WS_det hF (by rfl) (y_buildL bd24 (by rfl)) ?_
          refine WS_store hF (us := [.slice _ _ _, .slice _ _ _, .int .i64 _]) (i := 1) (by rfl) (by rfl) Tryd.sizeOf24 (by rfl) (by rfl) (by rfl) (by first | decide | exact Nat.le_of_ble_eq_true rfl | simp) ?_
          refine WS_det hF (by rfl) (y_assign (c := .int .i64 _) (by rfl)) ?_
          refine WS_nil ?_
          refine Then_normal ?_
          refine W_ret ?_
          refine Then_ret ?_
          refine Fin_ret [_, .int .i64 _] [] Tryd.results12 ⟨lvN (by rfl) Tryd.isAgg24 Tryd.sizeOf24 (Mem.own (us := [.slice _ _ _, .slice _ _ _, .int .i64 _]) 1 (by rfl) (by rfl)) (by rfl), by rfl, trivial⟩ HSub.nil ?_
          exact PourV.bad (Cn.poE_no c1 c3 fun h => hci.1 h (.inl g7_2)) (by decide)
        · cases c7
      ·
        try simp only [Bool.not_eq_true', Bool.not_eq_false', decide_eq_true_eq, decide_eq_false_iff_not, ne_eq, Classical.not_not, Int.not_lt, Int.not_le] at g7_2
        refine WS_det hF (by rfl) (y_fieldAddr (by rfl) fa24_2) ?_
        refine WS_det hF (by rfl) (y_load1 (by rfl) Tryd.isAgg3 (Mem.own1 0 (by rfl) (by rfl))) ?_
        refine WS_det hF (by rfl) (y_gtr (by rfl) (by rfl)) ?_
        refine WS_det hF (by rfl) (by first | exact y_pick_t (c := .bool _) (by rfl) (by rfl) | exact y_pick_f (c := .bool _) (by rfl) (by rfl)) ?_
        refine WS_nil ?_
        refine Then_normal ?_
        refine W_cond (by rfl) (fun c7 => ?_) (fun c7 => ?_)
        ·
          try simp only [Bool.not_eq_true', Bool.not_eq_false', decide_eq_true_eq, decide_eq_false_iff_not, ne_eq, Classical.not_not, Int.not_lt, Int.not_le] at c7
          refine W_seq ?_
          refine W_region_lit (fun ds => ?_)
          refine WS_det hF (by rfl) (y_buildL bd24 (by rfl)) ?_
          refine WS_store hF (us := [.slice _ _ _, .slice _ _ _, .int .i64 _]) (i := 1) (by rfl) (by rfl) Tryd.sizeOf24 (by rfl) (by rfl) (by rfl) (by first | decide | exact Nat.le_of_ble_eq_true rfl | simp) ?_
          refine WS_det hF (by rfl) (y_assign (c := .int .i64 _) (by rfl)) ?_
          refine WS_nil ?_
          refine Then_normal ?_
          refine W_ret ?_
          refine Then_ret ?_
          refine Fin_ret [_, .int .i64 _] [] Tryd.results12 ⟨lvN (by rfl) Tryd.isAgg24 Tryd.sizeOf24 (Mem.own (us := [.slice _ _ _, .slice _ _ _, .int .i64 _]) 1 (by rfl) (by rfl)) (by rfl), by rfl, trivial⟩ HSub.nil ?_
          exact PourV.bad (Cn.poE_no c1 c3 fun h => hci.1 h (.inr (by omega))) (by decide)
        ·
          try simp only [Bool.not_eq_true', Bool.not_eq_false', decide_eq_true_eq, decide_eq_false_iff_not, ne_eq, Classical.not_not, Int.not_lt, Int.not_le] at c7
          refine W_skip ?_
          refine Then_normal ?_
          refine W_seq ?_
          refine W_region_lit (fun ds => ?_)
          refine WS_det hF (by rfl) (y_loadN (by rfl) Tryd.isAgg24 Tryd.sizeOf24 (Mem.own (us := [.slice _ _ _, .slice _ _ _, .int .i64 _]) 0 (by rfl) (by rfl)) (by rfl)) ?_
          refine WS_store hF (us := [.slice _ _ _, .slice _ _ _, .int .i64 _]) (i := 1) (by rfl) (by rfl) Tryd.sizeOf24 (by rfl) (by rfl) (by rfl) (by first | decide | exact Nat.le_of_ble_eq_true rfl | simp) ?_
          refine WS_det hF (by rfl) (y_assign (c := .int .i64 _) (by rfl)) ?_
          refine WS_nil ?_
          refine Then_normal ?_
          refine W_ret ?_
          refine Fin_ret [_, .int .i64 _] (H1 ++ H2) Tryd.results12 ⟨lvN (by rfl) Tryd.isAgg24 Tryd.sizeOf24 (Mem.own (us := [.slice _ _ _, .slice _ _ _, .int .i64 _]) 1 (by rfl) (by rfl)) (by rfl), by rfl, trivial⟩ (HSub.sub sbA) ?_
          have hcan := hci.2 (by omega)
          obtain ⟨h0, hC⟩ := Cn.poE_yes c1 c3 hcan
          have hE : c.pou f t (c.amtR f t) = c.of (c.to c.co f t) := by rw [hok.pou hf ht, hok.amt_of hft hcan]; rfl
          refine ⟨_, by rw [h0]; rfl, ?_⟩
          rw [hC, ← hE]
          exact ⟨_, _, _, _, H1, H2, rfl, hr1, hr2, rfl⟩
/-- Lists of pourings in memory. -/
abbrev Pos := Rws Po.cells 2 Po.z
theorem po_len (p : Po) : p.cells.length = 2 := rfl
theorem TwinC.parts {c : Cn} {v : Value} {Hn : List Blk} (h : TwinC c v Hn) : ∃ z1 q1 z2 q2 H1 H2, v = .agg #[.slice z1 c.n q1, .slice z2 c.inn.length q2, .int .i64 c.st] ∧ NewRow 3 1 c.n (iv c.sz) (.slice z1 c.n q1) H1 ∧ NewRow 3 1 c.inn.length (iv c.inn) (.slice z2 c.inn.length q2) H2 ∧ Hn = H1 ++ H2 := h
theorem Cn.of_pE {c : Cn} {x : Co} (h : (c.of x).co = x) (p : Po) : (c.of x).pE (c.of x).co p = c.pE x p := by rw [h]; rfl
theorem Cn.badK_none {c : Cn} {l : List Po} : ∀ {m k : Nat}, (∀ j, k ≤ j → j < k + m → c.pE (c.runK l j) (l.getD j Po.z) = 0) → c.badK l k m = none
  | 0, _, _ => rfl
  | m + 1, k, h => by
    unfold Cn.badK
    rw [if_pos (h k (Nat.le_refl _) (by omega))]
    exact Cn.badK_none fun j h1 h2 => h j (by omega) (by omega)
theorem Cn.badK_some {c : Cn} {l : List Po} {i : Nat} (hb : c.pE (c.runK l i) (l.getD i Po.z) ≠ 0) : ∀ {m k : Nat}, k ≤ i → i < k + m → (∀ j, k ≤ j → j < i → c.pE (c.runK l j) (l.getD j Po.z) = 0) → c.badK l k m = some i
  | 0, _, _, h2, _ => by omega
  | m + 1, k, h1, h2, h => by
    unfold Cn.badK
    by_cases hk : k = i
    · subst hk; rw [if_neg hb]
    · rw [if_pos (h k (Nat.le_refl _) (by omega))]
      exact Cn.badK_some hb (by omega) (by omega) fun j h3 h4 => h j (by omega) h4
def PlayV (c : Cn) (l : List Po) (v : Value) (Hn : List Blk) : Prop := ∃ v0, v = .tuple #[v0, .int .i64 (c.plB l), .int .i64 (c.plA l), .int .i64 (c.plE l)] ∧ TwinC (c.plC l) v0 Hn
theorem PlayV.bad {c : Cn} {l : List Po} (h : c.okB = false) : PlayV c l (.tuple #[.agg #[.slice none 0 0, .slice none 0 0, .int .i64 0], .int .i64 0, .int .i64 0, .int .i64 80]) [] := by
  refine ⟨.agg #[.slice none 0 0, .slice none 0 0, .int .i64 0], ?_, ?_⟩
  · unfold Cn.plB Cn.plA Cn.plE
    rw [h]; rfl
  · unfold Cn.plC
    rw [h]; exact twinC_zero
theorem PlayV.stop {c : Cn} {l : List Po} {k : Nat} {e : Int} (h : c.okB = true) (hk : k < l.length) (hj : ∀ j, j < k → c.pE (c.runK l j) (l.getD j Po.z) = 0) (he : c.pE (c.runK l k) (l.getD k Po.z) = e) (he0 : e ≠ 0) :
    PlayV c l (.tuple #[.agg #[.slice none 0 0, .slice none 0 0, .int .i64 0], .int .i64 0, .int .i64 (k : Int), .int .i64 e]) [] := by
  have hb : c.bad l = some k := Cn.badK_some (by rw [he]; exact he0) (Nat.zero_le _) (by omega) fun j _ h => hj j h
  refine ⟨.agg #[.slice none 0 0, .slice none 0 0, .int .i64 0], ?_, ?_⟩
  · unfold Cn.plB Cn.plA Cn.plE
    rw [h, hb]
    simp only [if_true, he]
  · unfold Cn.plC
    rw [h, hb]; exact twinC_zero
theorem PlayV.go {c : Cn} {l : List Po} {v0 : Value} {Hn : List Blk} (h : c.okB = true) (hj : ∀ j, j < l.length → c.pE (c.runK l j) (l.getD j Po.z) = 0) (hT : TwinC (c.of (c.runK l l.length)) v0 Hn) :
    PlayV c l (.tuple #[v0, .int .i64 (c.backK l l.length), .int .i64 0, .int .i64 0]) Hn := by
  have hb : c.bad l = none := Cn.badK_none fun j _ h => hj j (by omega)
  refine ⟨v0, ?_, ?_⟩
  · unfold Cn.plB Cn.plA Cn.plE
    rw [h, hb]; rfl
  · unfold Cn.plC
    rw [h, hb]; exact hT
theorem Cn.Ok.run_in {c : Cn} (h : c.Ok) {l : List Po} : ∀ {k : Nat}, (∀ j, j < k → c.pE (c.runK l j) (l.getD j Po.z) = 0) → c.In (c.runK l k)
  | 0, _ => h.co_in
  | k + 1, hj => (Cn.Ok.run_in h fun j hk => hj j (by omega)).stp h.n3 (hj k (by omega))
theorem Cn.Ok.back_bd {c : Cn} (h : c.Ok) {l : List Po} : ∀ {k : Nat}, (∀ j, j < k → c.pE (c.runK l j) (l.getD j Po.z) = 0) → 0 ≤ c.backK l k ∧ c.backK l k ≤ 600 * (k : Int)
  | 0, _ => ⟨Int.le_refl _, Int.le_refl _⟩
  | k + 1, hj => by
    have ih := Cn.Ok.back_bd h (l := l) (k := k) fun j hk => hj j (by omega)
    have h1 := h.run_in (l := l) (k := k) fun j hk => hj j (by omega)
    have h2 := h.run_in (l := l) (k := k + 1) hj
    have a1 := h1.lo 0 (by decide)
    have a2 : (c.runK l (k + 1)).a ≤ 600 := h2.hi 0 (Nat.zero_le _)
    change 0 ≤ (c.runK l k).a at a1
    have hb : c.backK l (k + 1) = c.backK l k + bk (c.runK l k) (c.runK l (k + 1)) := rfl
    rw [hb]
    unfold bk
    omega
theorem rplay_any (c : Cn) (a1 : Option Addr) (p1 : Nat) (a2 : Option Addr) (p2 : Nat) (l : List Po) (la : Option Addr) (lcap : Nat) (w : World) (hl : l.length ≤ 1000000) (hn : c.n ≤ 1000000) (hm : c.inn.length ≤ 1000000) (h1 : Ints w a1 c.n p1 c.sz) (h2 : Ints w a2 c.inn.length p2 c.inn) (hp : Pos w la l.length lcap l) : Ct Tryd.prog 14 #[.agg #[.slice a1 c.n p1, .slice a2 c.inn.length p2, .int .i64 c.st], .slice la l.length lcap] w (PlayV c l) := by
  have hF := wide_wide
  refine Ct_start (args := [_, _]) Tryd.func14 (by rfl) Tryd.ntmps14 (by rfl) ?_
  refine W_seq ?_
  refine W_region_lit (fun ds => ?_)
  refine WS_new hF (by rfl) (y_box (by rfl)) (fun b1 => ?_)
  refine WS_new hF (by rfl) (y_alloc Tryd.zeroValue24 (by rfl)) (fun b2 => ?_)
  refine WS_det hF (by rfl) (y_assign (c := .int .i64 _) (by rfl)) ?_
  refine WS_det hF (by rfl) (y_assign (c := .int .i64 _) (by rfl)) ?_
  refine WS_det hF (by rfl) (y_assign (c := .int .i64 _) (by rfl)) ?_
  refine WS_nil ?_
  refine Then_normal ?_
  refine W_seq ?_
  refine W_seq ?_
  refine W_region_lit (fun ds => ?_)
  refine WS_det hF (by rfl) (y_loadN (by rfl) Tryd.isAgg24 Tryd.sizeOf24 (Mem.own (us := [.slice _ _ _, .slice _ _ _, .int .i64 _]) 1 (by rfl) (by rfl)) (by rfl)) ?_
  refine WS_det hF (by rfl) (y_callL (by rfl) (by rfl) Tryd.call52 (fun w hw => rcans_any c a1 p1 a2 p2 w hn hm (h1.st w hw) (h2.st w hw))) ?_
  refine WS_det hF (by rfl) (y_not (by rfl)) ?_
  refine WS_nil ?_
  refine Then_normal ?_
  refine W_cond (by rfl) (fun c1 => ?_) (fun c1 => ?_)
  ·
    try simp only [Bool.not_eq_true', Bool.not_eq_false', decide_eq_true_eq, decide_eq_false_iff_not, ne_eq, Classical.not_not, Int.not_lt, Int.not_le] at c1
    refine W_seq ?_
    refine W_region_lit (fun ds => ?_)
    refine WS_det hF (by rfl) (y_buildL bd24 (by rfl)) ?_
    refine WS_store hF (us := [.slice _ _ _, .slice _ _ _, .int .i64 _]) (i := 0) (by rfl) (by rfl) Tryd.sizeOf24 (by rfl) (by rfl) (by rfl) (by first | decide | exact Nat.le_of_ble_eq_true rfl | simp) ?_
    refine WS_det hF (by rfl) (y_assign (c := .int .i64 _) (by rfl)) ?_
    refine WS_det hF (by rfl) (y_assign (c := .int .i64 _) (by rfl)) ?_
    refine WS_det hF (by rfl) (y_assign (c := .int .i64 _) (by rfl)) ?_
    refine WS_nil ?_
    refine Then_normal ?_
    refine W_ret ?_
    refine Then_ret ?_
    refine Fin_ret [_, .int .i64 _, .int .i64 _, .int .i64 _] [] Tryd.results14 ⟨lvN (by rfl) Tryd.isAgg24 Tryd.sizeOf24 (Mem.own (us := [.slice _ _ _, .slice _ _ _, .int .i64 _]) 0 (by rfl) (by rfl)) (by rfl), by rfl, by rfl, by rfl, trivial⟩ HSub.nil ?_
    exact PlayV.bad c1
  ·
    try simp only [Bool.not_eq_true', Bool.not_eq_false', decide_eq_true_eq, decide_eq_false_iff_not, ne_eq, Classical.not_not, Int.not_lt, Int.not_le] at c1
    have hok := Cn.ok_iff.1 c1
    have hn3 := hok.n3
    refine W_skip ?_
    refine Then_normal ?_
    refine W_seq ?_
    refine W_region_lit (fun ds => ?_)
    refine WS_det hF (by rfl) (y_loadN (by rfl) Tryd.isAgg24 Tryd.sizeOf24 (Mem.own (us := [.slice _ _ _, .slice _ _ _, .int .i64 _]) 1 (by rfl) (by rfl)) (by rfl)) ?_
    refine WS_gen hF (by rfl) (y_callL (by rfl) (by rfl) Tryd.call10 (fun w hw => rctwin_any c a1 p1 a2 p2 w hn hm (h1.st w hw) (h2.st w hw))) ?_
    rintro _ _ ⟨z1, q1, z2, q2, H1, H2, rfl, hr1, hr2, rfl⟩
    have hT0 : TwinC (c.of (c.runK l 0)) (.agg #[.slice z1 (c.of (c.runK l 0)).n q1, .slice z2 (c.of (c.runK l 0)).inn.length q2, .int .i64 (c.of (c.runK l 0)).st]) (H1 ++ H2) := by
      rw [show c.of (c.runK l 0) = c from hok.co_of]
      exact ⟨_, _, _, _, H1, H2, rfl, hr1, hr2, rfl⟩
    have hT1 : (c.of (c.runK l 0)).inn.length = c.inn.length := congrArg (fun c => c.inn.length) (show c.of (c.runK l 0) = c from hok.co_of)
    rw [← hT1]
    refine WS_back ?_
    refine WS_new hF (by rfl) (y_alloc Tryd.zeroValue24 (by rfl)) (fun bo => ?_)
    refine WS_store hF (us := [.slice _ _ _, .slice _ _ _, .int .i64 _]) (i := 0) (by rfl) (by rfl) Tryd.sizeOf24 (by rfl) (by rfl) (by rfl) (by first | decide | exact Nat.le_of_ble_eq_true rfl | simp) ?_
    refine WS_det hF (by rfl) (y_assign (c := .int .i64 _) (by rfl)) ?_
    refine WS_nil ?_
    refine Then_normal ?_
    refine W_seq ?_
    refine W_seq ?_
    refine W_region_lit (fun ds => ?_)
    refine WS_det hF (by rfl) (y_assign (c := .int .i64 _) (by rfl)) ?_
    refine WS_nil ?_
    refine Then_normal ?_
    refine W_block ?_
    refine W_loop (γ := Nat × Option Addr × Nat × Option Addr × Nat × List Blk) (fun p => p.1 ≤ l.length ∧ (∀ j, j < p.1 → c.pE (c.runK l j) (l.getD j Po.z) = 0) ∧ TwinC (c.of (c.runK l p.1)) (.agg #[.slice p.2.1 (c.of (c.runK l p.1)).n p.2.2.1, .slice p.2.2.2.1 (c.of (c.runK l p.1)).inn.length p.2.2.2.2.1, .int .i64 (c.of (c.runK l p.1)).st]) p.2.2.2.2.2) (fun p => [(1, .slice la l.length lcap), (4, .pointer (some ⟨b2, 0, none⟩)), (8, .pointer (some ⟨bo, 0, none⟩)), (9, .int .i64 (c.backK l p.1)), (10, .int .i64 (p.1 : Int))]) (fun p => (bo, CB [.slice p.2.1 (c.of (c.runK l p.1)).n p.2.2.1, .slice p.2.2.2.1 (c.of (c.runK l p.1)).inn.length p.2.2.2.2.1, .int .i64 (c.of (c.runK l p.1)).st] 24) :: (b2, CB [.slice none 0 0, .slice none 0 0, .int .i64 0] 24) :: p.2.2.2.2.2) (fun p => l.length - p.1) ((0, z1, q1, z2, q2, H1 ++ H2)) ⟨Nat.zero_le _, (fun j h => absurd h (Nat.not_lt_zero _)), hT0⟩ (by repeat (first | exact trivial | refine ⟨by rfl, ?_⟩)) (sbA) ?_
    rintro ⟨k, y1, r1, y2, r2, HT⟩ e ⟨hk, hj, hT⟩
    refine W_seq ?_
    refine W_seq ?_
    refine W_region_lit (fun ds => ?_)
    refine WS_det hF (by rfl) (y_move (c := .int .i64 _) (by rfl)) ?_
    refine WS_det hF (by rfl) (y_move (c := .slice _ _ _) (by rfl)) ?_
    refine WS_det hF (by rfl) (y_len (by rfl) Tryd.runUnderlying27) ?_
    refine WS_det hF (by rfl) (y_lss (by rfl) (by rfl)) ?_
    refine WS_nil ?_
    refine Then_normal ?_
    refine W_cond (by rfl) (fun c5 => ?_) (fun c5 => ?_)
    ·
      try simp only [Bool.not_eq_true', Bool.not_eq_false', decide_eq_true_eq, decide_eq_false_iff_not, ne_eq, Classical.not_not, Int.not_lt, Int.not_le] at c5
      have hin := hok.run_in hj
      have hokx := hok.of hin
      have hco := hok.of_co hin
      have hbb := hok.back_bd hj
      obtain ⟨_, _, _, _, G1, G2, he, hg1, hg2, rfl⟩ := hT
      cases he
      obtain ⟨b, o, rfl, hc⟩ := hp.cell k (by omega)
      change At w b _ (l.getD k Po.z).cells at hc
      refine W_skip ?_
      refine Then_normal ?_
      refine W_seq ?_
      refine W_block ?_
      refine W_seq ?_
      refine W_draw0 hF Trydmixed [11] (by decide +kernel) (fun ds => ?_)
      refine P_det (by rfl) (Over_nil (y_loadN (by rfl) Tryd.isAgg24 Tryd.sizeOf24 (Mem.own (us := [.slice _ _ _, .slice _ _ _, .int .i64 _]) 0 (by rfl) (by rfl)) (by rfl))) ?_
      refine P_det (by rfl) (Over_nil (y_move (c := .slice _ _ _) (by rfl))) ?_
      refine P_det (by rfl) (Over_nil (y_move (c := .int .i64 _) (by rfl))) ?_
      refine P_det (by rfl) (Over_nil (y_index (k := k) (by rfl) (by rfl) (by first | rfl | omega) (by first | decide | omega) Tryd.runUnderlying27 Tryd.sizeOf26)) ?_
      refine P_det (by rfl) (Over_nil (y_loadN (by rfl) Tryd.isAgg26 Tryd.sizeOf26 (by first | exact Mem.old (by assumption) | exact Mem.oldAt (us := [.int .i64 _, .int .i64 _]) (by assumption) (by rfl) | exact Mem.oldAtL (us := [.int .i64 _, .int .i64 _]) (by assumption) (by rfl) (by rfl)) (by rfl))) ?_
      refine P_new (by rfl) (by rfl) (Over_nil (y_callL (by rfl) (by rfl) Tryd.call12 (fun w hw => rpour_any (c.of (c.runK l k)) _ _ _ _ (l.getD k Po.z) w hn (by rw [hokx.len]; exact hn) (NewRow.ints hg1 rfl sbA w hw) (NewRow.ints hg2 rfl sbA w hw)))) ?_
      refine P_ali [31] (fun e => e 31) (by rfl) (by rfl) (by rfl) (fun _ _ h => h 31 (List.mem_singleton.2 rfl)) (Over_in (by rfl) (Over_nil (by intro vb4 l31 hb4; obtain ⟨_, rfl, x1, t1, x2, t2, J1, J2, rfl, hq1, hq2, rfl⟩ := hb4; exact (YD0_of (y_move (c := .tuple _) (by rfl)))))) ?_
      refine P_ali [25] (fun e => tupAt (e 25) 0) (by rfl) (by rfl) (by rfl) (fun _ _ h => congrArg (tupAt · 0) (h 25 (List.mem_singleton.2 rfl))) (Over_in (by rfl) (Over_in (by rfl) (Over_nil (by intro vb6 l31 hb6; obtain ⟨_, rfl, x1, t1, x2, t2, J1, J2, rfl, hq1, hq2, rfl⟩ := hb6; rintro vb7 _ ⟨hvb7, rfl⟩; replace hvb7 : vb7 = .tuple _ := hvb7; subst hvb7; exact (YD0_of (y_extract (c := .agg _) (by rfl) (by rfl))))))) ?_
      refine P_ali [25] (fun e => tupAt (e 25) 1) (by rfl) (by rfl) (by rfl) (fun _ _ h => congrArg (tupAt · 1) (h 25 (List.mem_singleton.2 rfl))) (Over_out (by rfl) (Over_in (by rfl) (Over_in (by rfl) (Over_nil (by intro vb9 l31 hb9; obtain ⟨_, rfl, x1, t1, x2, t2, J1, J2, rfl, hq1, hq2, rfl⟩ := hb9; rintro vb10 _ ⟨hvb10, rfl⟩; replace hvb10 : vb10 = .tuple _ := hvb10; subst hvb10; exact (YD0_of (y_extract (c := .int .i64 _) (by rfl) (by rfl)))))))) ?_
      refine P_newSD 32 (by rfl) (by rfl) (by rfl) (Over_out (by rfl) (Over_out (by rfl) (Over_out (by rfl) (Over_out (by rfl) (Over_nil (y_alloc Tryd.zeroValue24 (by rfl))))))) ?_
      refine P_st 11 0 (by rfl) (by rfl) (by rfl) (by rfl) (by rfl) (Over_out (by rfl) (Over_in (by rfl) (Over_in (by rfl) (Over_in (by rfl) (Over_nil (by intro vb13 l31 hb13; obtain ⟨_, rfl, x1, t1, x2, t2, J1, J2, rfl, hq1, hq2, rfl⟩ := hb13; rintro vb14 _ ⟨hvb14, rfl⟩; replace hvb14 : vb14 = .tuple _ := hvb14; subst hvb14; rintro vb15 _ ⟨hvb15, rfl⟩; replace hvb15 : vb15 = .agg _ := hvb15; subst hvb15; exact (st_newD (by rfl) (by rfl) Tryd.sizeOf24 (by rfl) (by rfl) (by first | decide | exact Nat.le_of_ble_eq_true rfl | simp)))))))) ?_
      refine P_ali [33] (fun e => e 33) (by rfl) (by rfl) (by rfl) (fun _ _ h => h 33 (List.mem_singleton.2 rfl)) (Over_out (by rfl) (Over_in (by rfl) (Over_out (by rfl) (Over_in (by rfl) (Over_in (by rfl) (Over_nil (by intro vb16 l31 hb16; obtain ⟨_, rfl, x1, t1, x2, t2, J1, J2, rfl, hq1, hq2, rfl⟩ := hb16; rintro vb17 _ ⟨hvb17, rfl⟩; replace hvb17 : vb17 = .tuple _ := hvb17; subst hvb17; rintro vb18 _ ⟨hvb18, rfl⟩; replace hvb18 : vb18 = .int .i64 _ := hvb18; subst hvb18; exact (YD0_of (y_assign (c := .int .i64 _) (by rfl)))))))))) ?_
      refine PW_end (by rfl) ?_
      refine OverAll_cons (fun w12 l12 => ?_)
      refine OverAll_cons (fun w11 l11 => ?_)
      refine OverAll_cons (fun w33 l33 => ?_)
      refine OverAll_cons (fun w32 l32 => ?_)
      refine OverAll_cons (fun w25 l25 => ?_)
      refine OverAll_cons (fun w31 l31 => ?_)
      refine OverAll_nil ?_
      rintro ⟨⟨⟨⟨⟨⟨-, h12⟩, h11⟩, h33⟩, h32⟩, h25⟩, h31⟩
      obtain ⟨_, rfl, x1, t1, x2, t2, J1, J2, rfl, hq1, hq2, rfl⟩ := h31
      obtain ⟨h25, rfl⟩ := h25
      replace h25 : w25 = .tuple _ := h25
      subst h25
      obtain ⟨h32, rfl⟩ := h32
      replace h32 : w32 = .agg _ := h32
      subst h32
      obtain ⟨h33, rfl⟩ := h33
      replace h33 : w33 = .int .i64 _ := h33
      subst h33
      obtain ⟨h12, rfl⟩ := h12
      replace h12 : w12 = .int .i64 _ := h12
      subst h12
      obtain ⟨b12, rfl, rfl⟩ := h11
      refine Then_normal ?_
      refine W_seq ?_
      refine W_seq ?_
      refine W_perm List.perm_append_comm ?_
      have hpo : (c.of (c.runK l k)).poE (l.getD k Po.z) = c.pE (c.runK l k) (l.getD k Po.z) := by
        unfold Cn.poE
        rw [if_pos (Cn.ok_iff.2 hokx), Cn.of_pE hco]
      refine W_region_lit (fun ds => ?_)
      refine WS_det hF (by rfl) (y_move (c := .int .i64 _) (by rfl)) ?_
      refine WS_det hF (by rfl) (y_neq (by rfl) (by rfl)) ?_
      refine WS_nil ?_
      refine Then_normal ?_
      refine W_cond (by rfl) (fun c8 => ?_) (fun c8 => ?_)
      ·
        try simp only [Bool.not_eq_true', Bool.not_eq_false', decide_eq_true_eq, decide_eq_false_iff_not, ne_eq, Classical.not_not, Int.not_lt, Int.not_le] at c8
        refine W_seq ?_
        refine W_region_lit (fun ds => ?_)
        refine WS_det hF (by rfl) (y_buildL bd24 (by rfl)) ?_
        refine WS_det hF (by rfl) (y_move (c := .int .i64 _) (by rfl)) ?_
        refine WS_det hF (by rfl) (y_move (c := .int .i64 _) (by rfl)) ?_
        refine WS_store hF (us := [.slice _ _ _, .slice _ _ _, .int .i64 _]) (i := 2) (by rfl) (by rfl) Tryd.sizeOf24 (by rfl) (by rfl) (by rfl) (by first | decide | exact Nat.le_of_ble_eq_true rfl | simp) ?_
        refine WS_det hF (by rfl) (y_assign (c := .int .i64 _) (by rfl)) ?_
        refine WS_det hF (by rfl) (y_assign (c := .int .i64 _) (by rfl)) ?_
        refine WS_det hF (by rfl) (y_assign (c := .int .i64 _) (by rfl)) ?_
        refine WS_nil ?_
        refine Then_normal ?_
        refine W_ret ?_
        refine Then_ret ?_
        refine InB_ret ?_
        refine Then_ret ?_
        refine Loop_ret ?_
        refine InB_ret ?_
        refine Then_ret ?_
        refine Fin_ret [_, .int .i64 _, .int .i64 _, .int .i64 _] [] Tryd.results14 ⟨lvN (by rfl) Tryd.isAgg24 Tryd.sizeOf24 (Mem.own (us := [.slice _ _ _, .slice _ _ _, .int .i64 _]) 2 (by rfl) (by rfl)) (by rfl), by rfl, by rfl, by rfl, trivial⟩ HSub.nil ?_
        exact PlayV.stop c1 (by omega) hj hpo.symm c8
      ·
        try simp only [Bool.not_eq_true', Bool.not_eq_false', decide_eq_true_eq, decide_eq_false_iff_not, ne_eq, Classical.not_not, Int.not_lt, Int.not_le] at c8
        rw [hpo] at c8
        have hC : (c.of (c.runK l k)).poC (l.getD k Po.z) = c.of (c.runK l (k + 1)) := by
          unfold Cn.poC
          rw [if_pos (Cn.ok_iff.2 hokx), if_pos (by rw [Cn.of_pE hco]; exact c8), hco]; rfl
        rw [hC] at hq1 hq2
        rw [hC]
        have hj2 : ∀ j, j < k + 1 → c.pE (c.runK l j) (l.getD j Po.z) = 0 := fun j h => by by_cases hjk : j = k; (subst hjk; exact c8); exact hj j (by omega)
        have hokx2 := hok.of (hok.run_in hj2)
        have b1 := hokx.st0
        have b2 := hokx.st1
        have b3 := hokx2.st0
        have b4 := hokx2.st1
        have hT2 : TwinC (c.of (c.runK l (k + 1))) (.agg #[.slice x1 (c.of (c.runK l (k + 1))).n t1, .slice x2 (c.of (c.runK l (k + 1))).inn.length t2, .int .i64 (c.of (c.runK l (k + 1))).st]) (J1 ++ J2) := ⟨_, _, _, _, J1, J2, rfl, hq1, hq2, rfl⟩
        refine W_skip ?_
        refine Then_normal ?_
        refine W_seq ?_
        refine W_region_lit (fun ds => ?_)
        refine WS_det hF (by rfl) (y_move (c := .int .i64 _) (by rfl)) ?_
        refine WS_det hF (by rfl) (y_fieldAddr (by rfl) fa24_2) ?_
        refine WS_det hF (by rfl) (y_load1 (by rfl) Tryd.isAgg3 (Mem.own1 0 (by rfl) (by rfl))) ?_
        refine WS_det hF (by rfl) (y_fieldAddr (by rfl) fa24_2) ?_
        refine WS_det hF (by rfl) (y_load1 (by rfl) Tryd.isAgg3 (Mem.own1 1 (by rfl) (by rfl))) ?_
        refine WS_det hF (by rfl) (y_sub (by rfl) (by rfl) (by unfold I64; omega)) ?_
        refine WS_det hF (by rfl) (y_max (by rfl) (by rfl)) ?_
        refine WS_det hF (by rfl) (y_add (by rfl) (by rfl) (by unfold I64; omega)) ?_
        refine WS_det hF (by rfl) (y_assign (c := .int .i64 _) (by rfl)) ?_
        refine WS_nil ?_
        refine Then_normal ?_
        refine W_region_lit (fun ds => ?_)
        refine WS_det hF (by rfl) (y_loadN (by rfl) Tryd.isAgg24 Tryd.sizeOf24 (Mem.own (us := [.slice _ _ _, .slice _ _ _, .int .i64 _]) 0 (by rfl) (by rfl)) (by rfl)) ?_
        refine WS_store hF (us := [.slice _ _ _, .slice _ _ _, .int .i64 _]) (i := 1) (by rfl) (by rfl) Tryd.sizeOf24 (by rfl) (by rfl) (by rfl) (by first | decide | exact Nat.le_of_ble_eq_true rfl | simp) ?_
        refine WS_nil ?_
        refine InB_normal ?_
        refine Then_normal ?_
        refine W_region_lit (fun ds => ?_)
        refine WS_det hF (by rfl) (y_move (c := .int .i64 _) (by rfl)) ?_
        refine WS_det hF (by rfl) (y_add (by rfl) (by rfl) (by unfold I64; omega)) ?_
        refine WS_det hF (by rfl) (y_assign (c := .int .i64 _) (by rfl)) ?_
        refine WS_nil ?_
        exact Loop_next (k + 1, x1, t1, x2, t2, J1 ++ J2) ⟨by simp only; omega, hj2, hT2⟩ (by repeat (first | exact trivial | refine ⟨by rfl, ?_⟩)) sbA (by simp only; omega)
    ·
      try simp only [Bool.not_eq_true', Bool.not_eq_false', decide_eq_true_eq, decide_eq_false_iff_not, ne_eq, Classical.not_not, Int.not_lt, Int.not_le] at c5
      refine W_exit ?_
      refine Then_exit ?_
      refine Loop_exit ?_
      refine InB_same ?_
      refine Then_normal ?_
      refine W_seq ?_
      refine W_region_lit (fun ds => ?_)
      refine WS_det hF (by rfl) (y_loadN (by rfl) Tryd.isAgg24 Tryd.sizeOf24 (Mem.own (us := [.slice _ _ _, .slice _ _ _, .int .i64 _]) 0 (by rfl) (by rfl)) (by rfl)) ?_
      refine WS_det hF (by rfl) (y_move (c := .int .i64 _) (by rfl)) ?_
      refine WS_store hF (us := [.slice _ _ _, .slice _ _ _, .int .i64 _]) (i := 1) (by rfl) (by rfl) Tryd.sizeOf24 (by rfl) (by rfl) (by rfl) (by first | decide | exact Nat.le_of_ble_eq_true rfl | simp) ?_
      refine WS_det hF (by rfl) (y_assign (c := .int .i64 _) (by rfl)) ?_
      refine WS_det hF (by rfl) (y_assign (c := .int .i64 _) (by rfl)) ?_
      refine WS_det hF (by rfl) (y_assign (c := .int .i64 _) (by rfl)) ?_
      refine WS_nil ?_
      refine Then_normal ?_
      refine W_ret ?_
      refine Fin_ret [_, .int .i64 _, .int .i64 _, .int .i64 _] HT Tryd.results14 ⟨lvN (by rfl) Tryd.isAgg24 Tryd.sizeOf24 (Mem.own (us := [.slice _ _ _, .slice _ _ _, .int .i64 _]) 1 (by rfl) (by rfl)) (by rfl), by rfl, by rfl, by rfl, trivial⟩ (HSub.sub sbA) ?_
      obtain rfl : k = l.length := by omega
      exact PlayV.go c1 hj hT
end Go.Proofs.YtjekjehgmljbgaaDoor.T

namespace Go.Proofs.YtjekjehgmljbgaaDoor.T
open Go.RowKit Go.Proofs Go.Eng
set_option maxRecDepth 100000
set_option maxHeartbeats 1000000
set_option linter.unusedVariables false
set_option linter.unusedSimpArgs false

theorem fa96_0 : ∀ b o w, (Instr.fieldAt 96 (.pointer (some ⟨b, o, none⟩)) 0).run Tryd.prog w = .ok (.pointer (some ⟨b, o + 0, none⟩)) w := fun b o w => by kernel_rfl

theorem broom_any (c : Cn) (a1 : Option Addr) (p1 : Nat) (a2 : Option Addr) (p2 : Nat) (t : Nat) (w : World) (hn : c.n ≤ 1000000) (hm : c.inn.length ≤ 1000000) (h1 : Ints w a1 c.n p1 c.sz) (h2 : Ints w a2 c.inn.length p2 c.inn) (ht : t ≤ c.n) : Ct Tryd.prog 86 #[.agg #[.slice a1 c.n p1, .slice a2 c.inn.length p2, .int .i64 c.st], .int .i64 (t : Int)] w fun v _ => v = .int .i64 (c.room t) := by
  have hsz : c.sz.length = c.n := rfl
  have hF := wide_wide
  refine Ct_start (args := [_, _]) Tryd.func86 (by rfl) Tryd.ntmps86 (by rfl) ?_
  refine W_seq ?_
  refine W_region_lit (fun ds => ?_)
  refine WS_new hF (by rfl) (y_box (by rfl)) (fun b1 => ?_)
  refine WS_det hF (by rfl) (y_assign (c := .int .i64 _) (by rfl)) ?_
  refine WS_nil ?_
  refine Then_normal ?_
  refine W_seq ?_
  refine W_seq ?_
  refine W_region_lit (fun ds => ?_)
  refine WS_det hF (by rfl) (y_move (c := .int .i64 _) (by rfl)) ?_
  refine WS_det hF (by rfl) (y_eql (by rfl) (by rfl)) ?_
  refine WS_nil ?_
  refine Then_normal ?_
  refine W_cond (by rfl) (fun c1 => ?_) (fun c1 => ?_)
  ·
    try simp only [Bool.not_eq_true', Bool.not_eq_false', decide_eq_true_eq, decide_eq_false_iff_not, ne_eq, Classical.not_not, Int.not_lt, Int.not_le] at c1
    refine W_seq ?_
    refine W_region_lit (fun ds => ?_)
    refine WS_det hF (by rfl) (y_assign (c := .int .i64 _) (by rfl)) ?_
    refine WS_nil ?_
    refine Then_normal ?_
    refine W_ret ?_
    refine Then_ret ?_
    refine Fin_ret [.int .i64 _] [] Tryd.results86 ⟨by rfl, trivial⟩ HSub.nil ?_
    obtain rfl : t = 0 := by omega
    rfl
  ·
    try simp only [Bool.not_eq_true', Bool.not_eq_false', decide_eq_true_eq, decide_eq_false_iff_not, ne_eq, Classical.not_not, Int.not_lt, Int.not_le] at c1
    obtain ⟨j, rfl⟩ : ∃ j, t = j + 1 := ⟨t - 1, by omega⟩
    obtain ⟨b, o, rfl, hc⟩ := h1.cell j (by omega)
    change At w b _ [.int .i64 (c.s j)] at hc
    refine W_skip ?_
    refine Then_normal ?_
    refine W_seq ?_
    refine W_region_lit (fun ds => ?_)
    refine WS_det hF (by rfl) (y_fieldAddr (by rfl) fa96_0) ?_
    refine WS_det hF (by rfl) (y_fieldAddr (by rfl) fa24_0) ?_
    refine WS_det hF (by rfl) (y_load1 (by rfl) Tryd.isAgg22 (Mem.own1 0 (by rfl) (by rfl))) ?_
    refine WS_det hF (by rfl) (y_move (c := .int .i64 _) (by rfl)) ?_
    refine WS_det hF (by rfl) (y_sub (by rfl) (by rfl) (by unfold I64; omega)) ?_
    refine WS_det hF (by rfl) (y_index (k := j) (by rfl) (by rfl) (by first | rfl | omega) (by first | decide | omega) Tryd.runUnderlying22 Tryd.sizeOf3) ?_
    refine WS_det hF (by rfl) (y_load1 (by rfl) Tryd.isAgg3 (by first | exact Mem.old1 (by assumption) | exact Mem.oldAt1 (by assumption) (by rfl) | exact Mem.old (by assumption) | exact Mem.oldAtL1 (by assumption) (by rfl) (by rfl))) ?_
    refine WS_det hF (by rfl) (y_assign (c := .int .i64 _) (by rfl)) ?_
    refine WS_nil ?_
    refine Then_normal ?_
    refine W_ret ?_
    refine Fin_ret [.int .i64 _] [] Tryd.results86 ⟨by rfl, trivial⟩ HSub.nil ?_
    rfl
theorem bvalid_any (c : Cn) (a1 : Option Addr) (p1 : Nat) (a2 : Option Addr) (p2 : Nat) (p : Po) (w : World) : Ct Tryd.prog 48 #[.agg #[.slice a1 c.n p1, .slice a2 c.inn.length p2, .int .i64 c.st], .agg p.cells.toArray] w fun v _ => v = .bool (c.vldB p) := by
  have hF := wide_wide
  refine Ct_start (args := [_, _]) Tryd.func48 (by rfl) Tryd.ntmps48 (by rfl) ?_
  refine W_seq ?_
  refine W_region_lit (fun ds => ?_)
  refine WS_new hF (by rfl) (y_box (by rfl)) (fun b1 => ?_)
  refine WS_new hF (by rfl) (y_box (by rfl)) (fun b2 => ?_)
  refine WS_det hF (by rfl) (y_assign (c := .bool _) (by rfl)) ?_
  refine WS_nil ?_
  refine Then_normal ?_
  refine W_seq ?_
  refine W_region_lit (fun ds => ?_)
  refine WS_det hF (by rfl) (y_fieldAddr (by rfl) fa96_0) ?_
  refine WS_det hF (by rfl) (y_fieldAddr (by rfl) fa24_0) ?_
  refine WS_det hF (by rfl) (y_load1 (by rfl) Tryd.isAgg22 (Mem.own1 1 (by rfl) (by rfl))) ?_
  refine WS_det hF (by rfl) (y_len (by rfl) Tryd.runUnderlying22) ?_
  refine WS_det hF (by rfl) (y_fieldAddr (by rfl) fa26_0) ?_
  refine WS_det hF (by rfl) (y_load1 (by rfl) Tryd.isAgg3 (Mem.own1 0 (by rfl) (by rfl))) ?_
  refine WS_det hF (by rfl) (y_fieldAddr (by rfl) fa26_1) ?_
  refine WS_det hF (by rfl) (y_load1 (by rfl) Tryd.isAgg3 (Mem.own1 0 (by rfl) (by rfl))) ?_
  refine WS_newS hF (by rfl) (y_buildSliceL bs22_2_0_1 (by rfl)) (fun b3 => ?_)
  refine WS_det hF (by rfl) (y_callL (by rfl) (by rfl) Tryd.call56 (fun w hw => cin_any _ _ _ _ _ _ w (by decide) (by first | exact Ints.one 0 rfl w hw | exact Ints.two 0 rfl w hw))) ?_
  refine WS_det hF (by rfl) (y_move (c := .bool _) (by rfl)) ?_
  refine WS_split 15 (by rfl) (fun g1_10 => ?_) (fun g1_10 => ?_)
  ·
    try simp only [Bool.not_eq_true', Bool.not_eq_false', decide_eq_true_eq, decide_eq_false_iff_not, ne_eq, Classical.not_not, Int.not_lt, Int.not_le] at g1_10
    refine WS_det hF (by rfl) (y_fieldAddr (by rfl) fa26_0) ?_
    refine WS_det hF (by rfl) (y_load1 (by rfl) Tryd.isAgg3 (Mem.own1 1 (by rfl) (by rfl))) ?_
    refine WS_det hF (by rfl) (y_fieldAddr (by rfl) fa26_1) ?_
    refine WS_det hF (by rfl) (y_load1 (by rfl) Tryd.isAgg3 (Mem.own1 1 (by rfl) (by rfl))) ?_
    refine WS_det hF (by rfl) (y_neq (by rfl) (by rfl)) ?_
    refine WS_det hF (by rfl) (by first | exact y_pick_t (c := .bool _) (by rfl) (by rfl) | exact y_pick_f (c := .bool _) (by rfl) (by rfl)) ?_
    refine WS_det hF (by rfl) (y_assign (c := .bool _) (by rfl)) ?_
    refine WS_nil ?_
    refine Then_normal ?_
    refine W_ret ?_
    refine Fin_ret [.bool _] [] Tryd.results48 ⟨by rfl, trivial⟩ HSub.nil ?_
    show Value.bool _ = .bool (c.vldB p)
    unfold Cn.vldB
    simp [*]
  ·
    try simp only [Bool.not_eq_true', Bool.not_eq_false', decide_eq_true_eq, decide_eq_false_iff_not, ne_eq, Classical.not_not, Int.not_lt, Int.not_le] at g1_10
    refine WS_no hF (by rfl) ?_
    refine WS_no hF (by rfl) ?_
    refine WS_no hF (by rfl) ?_
    refine WS_no hF (by rfl) ?_
    refine WS_no hF (by rfl) ?_
    refine WS_det hF (by rfl) (by first | exact y_pick_t (c := .bool _) (by rfl) (by rfl) | exact y_pick_f (c := .bool _) (by rfl) (by rfl)) ?_
    refine WS_det hF (by rfl) (y_assign (c := .bool _) (by rfl)) ?_
    refine WS_nil ?_
    refine Then_normal ?_
    refine W_ret ?_
    refine Fin_ret [.bool _] [] Tryd.results48 ⟨by rfl, trivial⟩ HSub.nil ?_
    show Value.bool _ = .bool (c.vldB p)
    unfold Cn.vldB
    simp [*]
def Cn.pourR (c : Cn) (x : Co) (f t : Nat) : Value := .tuple #[.agg (if c.noB x f t then x else c.to x f t).cells.toArray, .bool (c.canB x f t)]
theorem Cn.pourR_no {c : Cn} {x : Co} {f t : Nat} (h : (f = 0 ∧ x.g f < c.room t - x.g t) ∨ (t = 0 ∧ c.room t - x.g t < x.g f)) : Value.tuple #[.agg x.cells.toArray, .bool false] = c.pourR x f t := by
  have hno : c.noB x f t = true := by
    unfold Cn.noB Cn.lack
    rcases h with ⟨h1, h2⟩ | ⟨h1, h2⟩
    · rw [decide_eq_true h1, decide_eq_true h2]; rfl
    · rw [decide_eq_true h1, decide_eq_true h2, Bool.true_and, Bool.or_true]
  unfold Cn.pourR Cn.canB
  rw [hno]; rfl
theorem Cn.pourR_go {c : Cn} {x : Co} {f t : Nat} (h : ¬ ((f = 0 ∧ x.g f < c.room t - x.g t) ∨ (t = 0 ∧ c.room t - x.g t < x.g f))) : Value.tuple #[.agg (c.to x f t).cells.toArray, .bool (decide (c.amt x f t > 0))] = c.pourR x f t := by
  have hno : c.noB x f t = false := by
    unfold Cn.noB Cn.lack
    rw [Bool.or_eq_false_iff, Bool.and_eq_false_iff, Bool.and_eq_false_iff]
    simp only [decide_eq_false_iff_not]
    omega
  unfold Cn.pourR Cn.canB
  rw [hno]; rfl
theorem bpour_any (c : Cn) (a1 : Option Addr) (p1 : Nat) (a2 : Option Addr) (p2 : Nat) (x : Co) (f t : Nat) (w : World) (hok : c.Ok) (hn : c.n ≤ 1000000) (hm : c.inn.length ≤ 1000000) (h1 : Ints w a1 c.n p1 c.sz) (h2 : Ints w a2 c.inn.length p2 c.inn) (hin : c.In x) (hf : f ≤ c.n) (ht : t ≤ c.n) (hft : f ≠ t) :
    Ct Tryd.prog 49 #[.agg #[.slice a1 c.n p1, .slice a2 c.inn.length p2, .int .i64 c.st], .agg x.cells.toArray, .agg #[.int .i64 (f : Int), .int .i64 (t : Int)]] w fun v _ => v = c.pourR x f t := by
  have hn3 := hok.n3
  obtain ⟨e1, hd1⟩ := x.drop (k := f) (by omega)
  obtain ⟨e2, hd2⟩ := x.drop (k := t) (by omega)
  have hl1 := hin.lo f (by omega)
  have hl2 := hin.lo t (by omega)
  have hh1 := hin.hi f hf
  have hh2 := hin.hi t ht
  have hr : ∀ k, k ≤ c.n → 0 ≤ c.room k ∧ c.room k ≤ 600 := fun k hk => by
    cases k with
    | zero => exact ⟨by show (0 : Int) ≤ 600; omega, by show (600 : Int) ≤ 600; omega⟩
    | succ k => have := hok.s k (by omega); exact ⟨by show 0 ≤ c.s k; omega, by show c.s k ≤ 600; omega⟩
  have hr1 := hr f hf
  have hr2 := hr t ht
  have hF := wide_wide
  refine Ct_start (args := [_, _, _]) Tryd.func49 (by rfl) Tryd.ntmps49 (by rfl) ?_
  refine W_seq ?_
  refine W_region_lit (fun ds => ?_)
  refine WS_new hF (by rfl) (y_box (by rfl)) (fun b1 => ?_)
  refine WS_new hF (by rfl) (y_box (by rfl)) (fun b2 => ?_)
  refine WS_new hF (by rfl) (y_box (by rfl)) (fun b3 => ?_)
  refine WS_new hF (by rfl) (y_alloc Tryd.zeroValue99 (by rfl)) (fun b4 => ?_)
  refine WS_det hF (by rfl) (y_assign (c := .bool _) (by rfl)) ?_
  refine WS_nil ?_
  refine Then_normal ?_
  refine W_seq ?_
  refine W_draw0 hF Trydmixed [] (by decide +kernel) (fun ds => ?_)
  refine P_det (by rfl) (Over_nil (y_fieldAddr (by rfl) fa26_0)) ?_
  refine P_det (by rfl) (Over_nil (y_load1 (by rfl) Tryd.isAgg3 (Mem.own1 1 (by rfl) (by rfl)))) ?_
  refine P_det (by rfl) (Over_nil (y_indexA (k := f) (by rfl) (by rfl) (by first | rfl | omega) (by first | decide | omega) Tryd.runUnderlying99 Tryd.sizeOf3)) ?_
  refine P_det (by rfl) (Over_nil (y_load1 (by rfl) Tryd.isAgg3 (Mem.own (us := [.int .i64 (x.g f)]) 2 (by rfl) hd1))) ?_
  refine P_det (by rfl) (Over_nil (y_loadN (by rfl) Tryd.isAgg96 Tryd.sizeOf96 (Mem.own (us := [.slice _ _ _, .slice _ _ _, .int .i64 _]) 3 (by rfl) (by rfl)) (by rfl))) ?_
  refine P_det (by rfl) (Over_nil (y_fieldAddr (by rfl) fa26_1)) ?_
  refine P_det (by rfl) (Over_nil (y_load1 (by rfl) Tryd.isAgg3 (Mem.own1 1 (by rfl) (by rfl)))) ?_
  refine P_det (by rfl) (Over_nil (y_callL (by rfl) (by rfl) Tryd.call86 (fun w hw => broom_any c a1 p1 a2 p2 t w hn hm (h1.st w hw) (h2.st w hw) ht))) ?_
  refine P_det (by rfl) (Over_nil (y_fieldAddr (by rfl) fa26_1)) ?_
  refine P_det (by rfl) (Over_nil (y_load1 (by rfl) Tryd.isAgg3 (Mem.own1 1 (by rfl) (by rfl)))) ?_
  refine P_det (by rfl) (Over_nil (y_indexA (k := t) (by rfl) (by rfl) (by first | rfl | omega) (by first | decide | omega) Tryd.runUnderlying99 Tryd.sizeOf3)) ?_
  refine P_det (by rfl) (Over_nil (y_load1 (by rfl) Tryd.isAgg3 (Mem.own (us := [.int .i64 (x.g t)]) 2 (by rfl) hd2))) ?_
  refine P_det (by rfl) (Over_nil (y_sub (by rfl) (by rfl) (by unfold I64; omega))) ?_
  refine P_det (by rfl) (Over_nil (y_assign (c := .int .i64 _) (by rfl))) ?_
  refine P_det (by rfl) (Over_nil (y_assign (c := .int .i64 _) (by rfl))) ?_
  refine PW_end (by rfl) ?_
  refine OverAll_nil ?_
  rintro -
  refine Then_normal ?_
  refine W_seq ?_
  refine W_block ?_
  refine W_seq ?_
  refine W_seq ?_
  refine W_region_lit (fun ds => ?_)
  refine WS_det hF (by rfl) (y_fieldAddr (by rfl) fa26_0) ?_
  refine WS_det hF (by rfl) (y_load1 (by rfl) Tryd.isAgg3 (Mem.own1 1 (by rfl) (by rfl))) ?_
  refine WS_det hF (by rfl) (y_eql (by rfl) (by rfl)) ?_
  refine WS_det hF (by rfl) (y_move (c := .bool _) (by rfl)) ?_
  refine WS_split 27 (by rfl) (fun g2_3 => ?_) (fun g2_3 => ?_)
  ·
    try simp only [Bool.not_eq_true', Bool.not_eq_false', decide_eq_true_eq, decide_eq_false_iff_not, ne_eq, Classical.not_not, Int.not_lt, Int.not_le] at g2_3
    refine WS_det hF (by rfl) (y_move (c := .int .i64 _) (by rfl)) ?_
    refine WS_det hF (by rfl) (y_move (c := .int .i64 _) (by rfl)) ?_
    refine WS_det hF (by rfl) (y_lss (by rfl) (by rfl)) ?_
    refine WS_det hF (by rfl) (by first | exact y_pick_t (c := .bool _) (by rfl) (by rfl) | exact y_pick_f (c := .bool _) (by rfl) (by rfl)) ?_
    refine WS_det hF (by rfl) (y_assign (c := .bool _) (by rfl)) ?_
    refine WS_nil ?_
    refine Then_normal ?_
    refine W_cond (by rfl) (fun c2 => ?_) (fun c2 => ?_)
    ·
      try simp only [Bool.not_eq_true', Bool.not_eq_false', decide_eq_true_eq, decide_eq_false_iff_not, ne_eq, Classical.not_not, Int.not_lt, Int.not_le] at c2
      refine W_skip ?_
      refine Then_normal ?_
      refine W_cond (by rfl) (fun c2 => ?_) (fun c2 => ?_)
      ·
        try simp only [Bool.not_eq_true', Bool.not_eq_false', decide_eq_true_eq, decide_eq_false_iff_not, ne_eq, Classical.not_not, Int.not_lt, Int.not_le] at c2
        refine W_seq ?_
        refine W_region_lit (fun ds => ?_)
        refine WS_det hF (by rfl) (y_loadN (by rfl) Tryd.isAgg99 Tryd.sizeOf99 (Mem.own (us := [.int .i64 _, .int .i64 _, .int .i64 _, .int .i64 _]) 2 (by rfl) (by rfl)) (by rfl)) ?_
        refine WS_store hF (us := [.int .i64 _, .int .i64 _, .int .i64 _, .int .i64 _]) (i := 0) (by rfl) (by rfl) Tryd.sizeOf99 (by rfl) (by rfl) (by rfl) (by first | decide | exact Nat.le_of_ble_eq_true rfl | simp) ?_
        refine WS_det hF (by rfl) (y_assign (c := .bool _) (by rfl)) ?_
        refine WS_nil ?_
        refine Then_normal ?_
        refine W_ret ?_
        refine InB_ret ?_
        refine Then_ret ?_
        refine Fin_ret [_, .bool _] [] Tryd.results49 ⟨lvN (by rfl) Tryd.isAgg99 Tryd.sizeOf99 (Mem.own (us := [.int .i64 _, .int .i64 _, .int .i64 _, .int .i64 _]) 0 (by rfl) (by rfl)) (by rfl), by rfl, trivial⟩ HSub.nil ?_
        first
          | exact Cn.pourR_no (by omega)
          | exact Cn.pourR_go (by omega)
      ·
        try simp only [Bool.not_eq_true', Bool.not_eq_false', decide_eq_true_eq, decide_eq_false_iff_not, ne_eq, Classical.not_not, Int.not_lt, Int.not_le] at c2
        refine W_skip ?_
        refine InB_normal ?_
        refine Then_normal ?_
        refine W_seq ?_
        refine W_region_lit (fun ds => ?_)
        refine WS_det hF (by rfl) (y_move (c := .int .i64 _) (by rfl)) ?_
        refine WS_det hF (by rfl) (y_move (c := .int .i64 _) (by rfl)) ?_
        refine WS_det hF (by rfl) (y_min (by rfl) (by rfl)) ?_
        refine WS_det hF (by rfl) (y_assign (c := .int .i64 _) (by rfl)) ?_
        refine WS_nil ?_
        refine Then_normal ?_
        refine W_seq ?_
        refine W_region_lit (fun ds => ?_)
        refine WS_det hF (by rfl) (y_fieldAddr (by rfl) fa26_0) ?_
        refine WS_det hF (by rfl) (y_load1 (by rfl) Tryd.isAgg3 (Mem.own1 1 (by rfl) (by rfl))) ?_
        refine WS_det hF (by rfl) (y_indexA (k := f) (by rfl) (by rfl) (by first | rfl | omega) (by first | decide | omega) Tryd.runUnderlying99 Tryd.sizeOf3) ?_
        refine WS_det hF (by rfl) (y_load1 (by rfl) Tryd.isAgg3 (Mem.own (us := [.int .i64 (x.g f)]) 2 (by rfl) hd1)) ?_
        refine WS_det hF (by rfl) (y_move (c := .int .i64 _) (by rfl)) ?_
        refine WS_det hF (by rfl) (y_sub (by rfl) (by rfl) (by unfold I64; omega)) ?_
        refine WS_det hF (by rfl) (y_indexA (k := f) (by rfl) (by rfl) (by first | rfl | omega) (by first | decide | omega) Tryd.runUnderlying99 Tryd.sizeOf3) ?_
        refine WS_store hF (us := [.int .i64 _]) (i := 2) (by rfl) (by rfl) Tryd.sizeOf3 (by rfl) (by rfl) (by rfl) (by show 0 + f * 1 + 1 ≤ 4; omega) ?_
        refine WS_nil ?_
        refine Then_normal ?_
        refine W_seq ?_
        rw [Co.splice x _ (k := f) (by omega)]
        obtain ⟨e3, hd3⟩ := (x.w f (x.g f - c.amt x f t)).drop (k := t) (by omega)
        rw [Co.g_w _ _ (by omega) (by omega), if_neg (Ne.symm hft)] at hd3
        refine W_region_lit (fun ds => ?_)
        refine WS_det hF (by rfl) (y_fieldAddr (by rfl) fa26_1) ?_
        refine WS_det hF (by rfl) (y_load1 (by rfl) Tryd.isAgg3 (Mem.own1 1 (by rfl) (by rfl))) ?_
        refine WS_det hF (by rfl) (y_indexA (k := t) (by rfl) (by rfl) (by first | rfl | omega) (by first | decide | omega) Tryd.runUnderlying99 Tryd.sizeOf3) ?_
        refine WS_det hF (by rfl) (y_load1 (by rfl) Tryd.isAgg3 (Mem.own (us := [.int .i64 (x.g t)]) 2 (by rfl) hd3)) ?_
        refine WS_det hF (by rfl) (y_move (c := .int .i64 _) (by rfl)) ?_
        refine WS_det hF (by rfl) (y_add (by rfl) (by rfl) (by unfold I64; omega)) ?_
        refine WS_det hF (by rfl) (y_indexA (k := t) (by rfl) (by rfl) (by first | rfl | omega) (by first | decide | omega) Tryd.runUnderlying99 Tryd.sizeOf3) ?_
        refine WS_store hF (us := [.int .i64 _]) (i := 2) (by rfl) (by rfl) Tryd.sizeOf3 (by rfl) (by rfl) (by rfl) (by show 0 + t * 1 + 1 ≤ 4; omega) ?_
        refine WS_nil ?_
        refine Then_normal ?_
        refine W_seq ?_
        rw [Co.splice _ _ (k := t) (by omega)]
        refine W_region_lit (fun ds => ?_)
        refine WS_det hF (by rfl) (y_loadN (by rfl) Tryd.isAgg99 Tryd.sizeOf99 (Mem.own (us := [.int .i64 _, .int .i64 _, .int .i64 _, .int .i64 _]) 2 (by rfl) (by rfl)) (by rfl)) ?_
        refine WS_det hF (by rfl) (y_move (c := .int .i64 _) (by rfl)) ?_
        refine WS_det hF (by rfl) (y_gtr (by rfl) (by rfl)) ?_
        refine WS_store hF (us := [.int .i64 _, .int .i64 _, .int .i64 _, .int .i64 _]) (i := 0) (by rfl) (by rfl) Tryd.sizeOf99 (by rfl) (by rfl) (by rfl) (by first | decide | exact Nat.le_of_ble_eq_true rfl | simp) ?_
        refine WS_det hF (by rfl) (y_assign (c := .bool _) (by rfl)) ?_
        refine WS_nil ?_
        refine Then_normal ?_
        refine W_ret ?_
        refine Fin_ret [_, .bool _] [] Tryd.results49 ⟨lvN (by rfl) Tryd.isAgg99 Tryd.sizeOf99 (Mem.own (us := [.int .i64 _, .int .i64 _, .int .i64 _, .int .i64 _]) 0 (by rfl) (by rfl)) (by rfl), by rfl, trivial⟩ HSub.nil ?_
        first
          | exact Cn.pourR_no (by omega)
          | exact Cn.pourR_go (by omega)
    ·
      try simp only [Bool.not_eq_true', Bool.not_eq_false', decide_eq_true_eq, decide_eq_false_iff_not, ne_eq, Classical.not_not, Int.not_lt, Int.not_le] at c2
      refine W_region_lit (fun ds => ?_)
      refine WS_det hF (by rfl) (y_fieldAddr (by rfl) fa26_1) ?_
      refine WS_det hF (by rfl) (y_load1 (by rfl) Tryd.isAgg3 (Mem.own1 1 (by rfl) (by rfl))) ?_
      refine WS_det hF (by rfl) (y_eql (by rfl) (by rfl)) ?_
      refine WS_det hF (by rfl) (y_move (c := .bool _) (by rfl)) ?_
      refine WS_split 35 (by rfl) (fun g3_3 => ?_) (fun g3_3 => ?_)
      ·
        try simp only [Bool.not_eq_true', Bool.not_eq_false', decide_eq_true_eq, decide_eq_false_iff_not, ne_eq, Classical.not_not, Int.not_lt, Int.not_le] at g3_3
        refine WS_det hF (by rfl) (y_move (c := .int .i64 _) (by rfl)) ?_
        refine WS_det hF (by rfl) (y_move (c := .int .i64 _) (by rfl)) ?_
        refine WS_det hF (by rfl) (y_gtr (by rfl) (by rfl)) ?_
        refine WS_det hF (by rfl) (by first | exact y_pick_t (c := .bool _) (by rfl) (by rfl) | exact y_pick_f (c := .bool _) (by rfl) (by rfl)) ?_
        refine WS_det hF (by rfl) (y_assign (c := .bool _) (by rfl)) ?_
        refine WS_nil ?_
        refine Then_normal ?_
        refine W_cond (by rfl) (fun c3 => ?_) (fun c3 => ?_)
        ·
          try simp only [Bool.not_eq_true', Bool.not_eq_false', decide_eq_true_eq, decide_eq_false_iff_not, ne_eq, Classical.not_not, Int.not_lt, Int.not_le] at c3
          refine W_seq ?_
          refine W_region_lit (fun ds => ?_)
          refine WS_det hF (by rfl) (y_loadN (by rfl) Tryd.isAgg99 Tryd.sizeOf99 (Mem.own (us := [.int .i64 _, .int .i64 _, .int .i64 _, .int .i64 _]) 2 (by rfl) (by rfl)) (by rfl)) ?_
          refine WS_store hF (us := [.int .i64 _, .int .i64 _, .int .i64 _, .int .i64 _]) (i := 0) (by rfl) (by rfl) Tryd.sizeOf99 (by rfl) (by rfl) (by rfl) (by first | decide | exact Nat.le_of_ble_eq_true rfl | simp) ?_
          refine WS_det hF (by rfl) (y_assign (c := .bool _) (by rfl)) ?_
          refine WS_nil ?_
          refine Then_normal ?_
          refine W_ret ?_
          refine InB_ret ?_
          refine Then_ret ?_
          refine Fin_ret [_, .bool _] [] Tryd.results49 ⟨lvN (by rfl) Tryd.isAgg99 Tryd.sizeOf99 (Mem.own (us := [.int .i64 _, .int .i64 _, .int .i64 _, .int .i64 _]) 0 (by rfl) (by rfl)) (by rfl), by rfl, trivial⟩ HSub.nil ?_
          first
            | exact Cn.pourR_no (by omega)
            | exact Cn.pourR_go (by omega)
        ·
          try simp only [Bool.not_eq_true', Bool.not_eq_false', decide_eq_true_eq, decide_eq_false_iff_not, ne_eq, Classical.not_not, Int.not_lt, Int.not_le] at c3
          refine W_skip ?_
          refine InB_normal ?_
          refine Then_normal ?_
          refine W_seq ?_
          refine W_region_lit (fun ds => ?_)
          refine WS_det hF (by rfl) (y_move (c := .int .i64 _) (by rfl)) ?_
          refine WS_det hF (by rfl) (y_move (c := .int .i64 _) (by rfl)) ?_
          refine WS_det hF (by rfl) (y_min (by rfl) (by rfl)) ?_
          refine WS_det hF (by rfl) (y_assign (c := .int .i64 _) (by rfl)) ?_
          refine WS_nil ?_
          refine Then_normal ?_
          refine W_seq ?_
          refine W_region_lit (fun ds => ?_)
          refine WS_det hF (by rfl) (y_fieldAddr (by rfl) fa26_0) ?_
          refine WS_det hF (by rfl) (y_load1 (by rfl) Tryd.isAgg3 (Mem.own1 1 (by rfl) (by rfl))) ?_
          refine WS_det hF (by rfl) (y_indexA (k := f) (by rfl) (by rfl) (by first | rfl | omega) (by first | decide | omega) Tryd.runUnderlying99 Tryd.sizeOf3) ?_
          refine WS_det hF (by rfl) (y_load1 (by rfl) Tryd.isAgg3 (Mem.own (us := [.int .i64 (x.g f)]) 2 (by rfl) hd1)) ?_
          refine WS_det hF (by rfl) (y_move (c := .int .i64 _) (by rfl)) ?_
          refine WS_det hF (by rfl) (y_sub (by rfl) (by rfl) (by unfold I64; omega)) ?_
          refine WS_det hF (by rfl) (y_indexA (k := f) (by rfl) (by rfl) (by first | rfl | omega) (by first | decide | omega) Tryd.runUnderlying99 Tryd.sizeOf3) ?_
          refine WS_store hF (us := [.int .i64 _]) (i := 2) (by rfl) (by rfl) Tryd.sizeOf3 (by rfl) (by rfl) (by rfl) (by show 0 + f * 1 + 1 ≤ 4; omega) ?_
          refine WS_nil ?_
          refine Then_normal ?_
          refine W_seq ?_
          rw [Co.splice x _ (k := f) (by omega)]
          obtain ⟨e3, hd3⟩ := (x.w f (x.g f - c.amt x f t)).drop (k := t) (by omega)
          rw [Co.g_w _ _ (by omega) (by omega), if_neg (Ne.symm hft)] at hd3
          refine W_region_lit (fun ds => ?_)
          refine WS_det hF (by rfl) (y_fieldAddr (by rfl) fa26_1) ?_
          refine WS_det hF (by rfl) (y_load1 (by rfl) Tryd.isAgg3 (Mem.own1 1 (by rfl) (by rfl))) ?_
          refine WS_det hF (by rfl) (y_indexA (k := t) (by rfl) (by rfl) (by first | rfl | omega) (by first | decide | omega) Tryd.runUnderlying99 Tryd.sizeOf3) ?_
          refine WS_det hF (by rfl) (y_load1 (by rfl) Tryd.isAgg3 (Mem.own (us := [.int .i64 (x.g t)]) 2 (by rfl) hd3)) ?_
          refine WS_det hF (by rfl) (y_move (c := .int .i64 _) (by rfl)) ?_
          refine WS_det hF (by rfl) (y_add (by rfl) (by rfl) (by unfold I64; omega)) ?_
          refine WS_det hF (by rfl) (y_indexA (k := t) (by rfl) (by rfl) (by first | rfl | omega) (by first | decide | omega) Tryd.runUnderlying99 Tryd.sizeOf3) ?_
          refine WS_store hF (us := [.int .i64 _]) (i := 2) (by rfl) (by rfl) Tryd.sizeOf3 (by rfl) (by rfl) (by rfl) (by show 0 + t * 1 + 1 ≤ 4; omega) ?_
          refine WS_nil ?_
          refine Then_normal ?_
          refine W_seq ?_
          rw [Co.splice _ _ (k := t) (by omega)]
          refine W_region_lit (fun ds => ?_)
          refine WS_det hF (by rfl) (y_loadN (by rfl) Tryd.isAgg99 Tryd.sizeOf99 (Mem.own (us := [.int .i64 _, .int .i64 _, .int .i64 _, .int .i64 _]) 2 (by rfl) (by rfl)) (by rfl)) ?_
          refine WS_det hF (by rfl) (y_move (c := .int .i64 _) (by rfl)) ?_
          refine WS_det hF (by rfl) (y_gtr (by rfl) (by rfl)) ?_
          refine WS_store hF (us := [.int .i64 _, .int .i64 _, .int .i64 _, .int .i64 _]) (i := 0) (by rfl) (by rfl) Tryd.sizeOf99 (by rfl) (by rfl) (by rfl) (by first | decide | exact Nat.le_of_ble_eq_true rfl | simp) ?_
          refine WS_det hF (by rfl) (y_assign (c := .bool _) (by rfl)) ?_
          refine WS_nil ?_
          refine Then_normal ?_
          refine W_ret ?_
          refine Fin_ret [_, .bool _] [] Tryd.results49 ⟨lvN (by rfl) Tryd.isAgg99 Tryd.sizeOf99 (Mem.own (us := [.int .i64 _, .int .i64 _, .int .i64 _, .int .i64 _]) 0 (by rfl) (by rfl)) (by rfl), by rfl, trivial⟩ HSub.nil ?_
          first
            | exact Cn.pourR_no (by omega)
            | exact Cn.pourR_go (by omega)
      ·
        try simp only [Bool.not_eq_true', Bool.not_eq_false', decide_eq_true_eq, decide_eq_false_iff_not, ne_eq, Classical.not_not, Int.not_lt, Int.not_le] at g3_3
        refine WS_no hF (by rfl) ?_
        refine WS_no hF (by rfl) ?_
        refine WS_no hF (by rfl) ?_
        refine WS_det hF (by rfl) (by first | exact y_pick_t (c := .bool _) (by rfl) (by rfl) | exact y_pick_f (c := .bool _) (by rfl) (by rfl)) ?_
        refine WS_det hF (by rfl) (y_assign (c := .bool _) (by rfl)) ?_
        refine WS_nil ?_
        refine Then_normal ?_
        refine W_cond (by rfl) (fun c3 => ?_) (fun c3 => ?_)
        · cases c3
        ·
          try simp only [Bool.not_eq_true', Bool.not_eq_false', decide_eq_true_eq, decide_eq_false_iff_not, ne_eq, Classical.not_not, Int.not_lt, Int.not_le] at c3
          refine W_skip ?_
          refine InB_normal ?_
          refine Then_normal ?_
          refine W_seq ?_
          refine W_region_lit (fun ds => ?_)
          refine WS_det hF (by rfl) (y_move (c := .int .i64 _) (by rfl)) ?_
          refine WS_det hF (by rfl) (y_move (c := .int .i64 _) (by rfl)) ?_
          refine WS_det hF (by rfl) (y_min (by rfl) (by rfl)) ?_
          refine WS_det hF (by rfl) (y_assign (c := .int .i64 _) (by rfl)) ?_
          refine WS_nil ?_
          refine Then_normal ?_
          refine W_seq ?_
          refine W_region_lit (fun ds => ?_)
          refine WS_det hF (by rfl) (y_fieldAddr (by rfl) fa26_0) ?_
          refine WS_det hF (by rfl) (y_load1 (by rfl) Tryd.isAgg3 (Mem.own1 1 (by rfl) (by rfl))) ?_
          refine WS_det hF (by rfl) (y_indexA (k := f) (by rfl) (by rfl) (by first | rfl | omega) (by first | decide | omega) Tryd.runUnderlying99 Tryd.sizeOf3) ?_
          refine WS_det hF (by rfl) (y_load1 (by rfl) Tryd.isAgg3 (Mem.own (us := [.int .i64 (x.g f)]) 2 (by rfl) hd1)) ?_
          refine WS_det hF (by rfl) (y_move (c := .int .i64 _) (by rfl)) ?_
          refine WS_det hF (by rfl) (y_sub (by rfl) (by rfl) (by unfold I64; omega)) ?_
          refine WS_det hF (by rfl) (y_indexA (k := f) (by rfl) (by rfl) (by first | rfl | omega) (by first | decide | omega) Tryd.runUnderlying99 Tryd.sizeOf3) ?_
          refine WS_store hF (us := [.int .i64 _]) (i := 2) (by rfl) (by rfl) Tryd.sizeOf3 (by rfl) (by rfl) (by rfl) (by show 0 + f * 1 + 1 ≤ 4; omega) ?_
          refine WS_nil ?_
          refine Then_normal ?_
          refine W_seq ?_
          rw [Co.splice x _ (k := f) (by omega)]
          obtain ⟨e3, hd3⟩ := (x.w f (x.g f - c.amt x f t)).drop (k := t) (by omega)
          rw [Co.g_w _ _ (by omega) (by omega), if_neg (Ne.symm hft)] at hd3
          refine W_region_lit (fun ds => ?_)
          refine WS_det hF (by rfl) (y_fieldAddr (by rfl) fa26_1) ?_
          refine WS_det hF (by rfl) (y_load1 (by rfl) Tryd.isAgg3 (Mem.own1 1 (by rfl) (by rfl))) ?_
          refine WS_det hF (by rfl) (y_indexA (k := t) (by rfl) (by rfl) (by first | rfl | omega) (by first | decide | omega) Tryd.runUnderlying99 Tryd.sizeOf3) ?_
          refine WS_det hF (by rfl) (y_load1 (by rfl) Tryd.isAgg3 (Mem.own (us := [.int .i64 (x.g t)]) 2 (by rfl) hd3)) ?_
          refine WS_det hF (by rfl) (y_move (c := .int .i64 _) (by rfl)) ?_
          refine WS_det hF (by rfl) (y_add (by rfl) (by rfl) (by unfold I64; omega)) ?_
          refine WS_det hF (by rfl) (y_indexA (k := t) (by rfl) (by rfl) (by first | rfl | omega) (by first | decide | omega) Tryd.runUnderlying99 Tryd.sizeOf3) ?_
          refine WS_store hF (us := [.int .i64 _]) (i := 2) (by rfl) (by rfl) Tryd.sizeOf3 (by rfl) (by rfl) (by rfl) (by show 0 + t * 1 + 1 ≤ 4; omega) ?_
          refine WS_nil ?_
          refine Then_normal ?_
          refine W_seq ?_
          rw [Co.splice _ _ (k := t) (by omega)]
          refine W_region_lit (fun ds => ?_)
          refine WS_det hF (by rfl) (y_loadN (by rfl) Tryd.isAgg99 Tryd.sizeOf99 (Mem.own (us := [.int .i64 _, .int .i64 _, .int .i64 _, .int .i64 _]) 2 (by rfl) (by rfl)) (by rfl)) ?_
          refine WS_det hF (by rfl) (y_move (c := .int .i64 _) (by rfl)) ?_
          refine WS_det hF (by rfl) (y_gtr (by rfl) (by rfl)) ?_
          refine WS_store hF (us := [.int .i64 _, .int .i64 _, .int .i64 _, .int .i64 _]) (i := 0) (by rfl) (by rfl) Tryd.sizeOf99 (by rfl) (by rfl) (by rfl) (by first | decide | exact Nat.le_of_ble_eq_true rfl | simp) ?_
          refine WS_det hF (by rfl) (y_assign (c := .bool _) (by rfl)) ?_
          refine WS_nil ?_
          refine Then_normal ?_
          refine W_ret ?_
          refine Fin_ret [_, .bool _] [] Tryd.results49 ⟨lvN (by rfl) Tryd.isAgg99 Tryd.sizeOf99 (Mem.own (us := [.int .i64 _, .int .i64 _, .int .i64 _, .int .i64 _]) 0 (by rfl) (by rfl)) (by rfl), by rfl, trivial⟩ HSub.nil ?_
          first
            | exact Cn.pourR_no (by omega)
            | exact Cn.pourR_go (by omega)
  ·
    try simp only [Bool.not_eq_true', Bool.not_eq_false', decide_eq_true_eq, decide_eq_false_iff_not, ne_eq, Classical.not_not, Int.not_lt, Int.not_le] at g2_3
    refine WS_no hF (by rfl) ?_
    refine WS_no hF (by rfl) ?_
    refine WS_no hF (by rfl) ?_
    refine WS_det hF (by rfl) (by first | exact y_pick_t (c := .bool _) (by rfl) (by rfl) | exact y_pick_f (c := .bool _) (by rfl) (by rfl)) ?_
    refine WS_det hF (by rfl) (y_assign (c := .bool _) (by rfl)) ?_
    refine WS_nil ?_
    refine Then_normal ?_
    refine W_cond (by rfl) (fun c2 => ?_) (fun c2 => ?_)
    · cases c2
    ·
      try simp only [Bool.not_eq_true', Bool.not_eq_false', decide_eq_true_eq, decide_eq_false_iff_not, ne_eq, Classical.not_not, Int.not_lt, Int.not_le] at c2
      refine W_region_lit (fun ds => ?_)
      refine WS_det hF (by rfl) (y_fieldAddr (by rfl) fa26_1) ?_
      refine WS_det hF (by rfl) (y_load1 (by rfl) Tryd.isAgg3 (Mem.own1 1 (by rfl) (by rfl))) ?_
      refine WS_det hF (by rfl) (y_eql (by rfl) (by rfl)) ?_
      refine WS_det hF (by rfl) (y_move (c := .bool _) (by rfl)) ?_
      refine WS_split 35 (by rfl) (fun g3_3 => ?_) (fun g3_3 => ?_)
      ·
        try simp only [Bool.not_eq_true', Bool.not_eq_false', decide_eq_true_eq, decide_eq_false_iff_not, ne_eq, Classical.not_not, Int.not_lt, Int.not_le] at g3_3
        refine WS_det hF (by rfl) (y_move (c := .int .i64 _) (by rfl)) ?_
        refine WS_det hF (by rfl) (y_move (c := .int .i64 _) (by rfl)) ?_
        refine WS_det hF (by rfl) (y_gtr (by rfl) (by rfl)) ?_
        refine WS_det hF (by rfl) (by first | exact y_pick_t (c := .bool _) (by rfl) (by rfl) | exact y_pick_f (c := .bool _) (by rfl) (by rfl)) ?_
        refine WS_det hF (by rfl) (y_assign (c := .bool _) (by rfl)) ?_
        refine WS_nil ?_
        refine Then_normal ?_
        refine W_cond (by rfl) (fun c3 => ?_) (fun c3 => ?_)
        ·
          try simp only [Bool.not_eq_true', Bool.not_eq_false', decide_eq_true_eq, decide_eq_false_iff_not, ne_eq, Classical.not_not, Int.not_lt, Int.not_le] at c3
          refine W_seq ?_
          refine W_region_lit (fun ds => ?_)
          refine WS_det hF (by rfl) (y_loadN (by rfl) Tryd.isAgg99 Tryd.sizeOf99 (Mem.own (us := [.int .i64 _, .int .i64 _, .int .i64 _, .int .i64 _]) 2 (by rfl) (by rfl)) (by rfl)) ?_
          refine WS_store hF (us := [.int .i64 _, .int .i64 _, .int .i64 _, .int .i64 _]) (i := 0) (by rfl) (by rfl) Tryd.sizeOf99 (by rfl) (by rfl) (by rfl) (by first | decide | exact Nat.le_of_ble_eq_true rfl | simp) ?_
          refine WS_det hF (by rfl) (y_assign (c := .bool _) (by rfl)) ?_
          refine WS_nil ?_
          refine Then_normal ?_
          refine W_ret ?_
          refine InB_ret ?_
          refine Then_ret ?_
          refine Fin_ret [_, .bool _] [] Tryd.results49 ⟨lvN (by rfl) Tryd.isAgg99 Tryd.sizeOf99 (Mem.own (us := [.int .i64 _, .int .i64 _, .int .i64 _, .int .i64 _]) 0 (by rfl) (by rfl)) (by rfl), by rfl, trivial⟩ HSub.nil ?_
          first
            | exact Cn.pourR_no (by omega)
            | exact Cn.pourR_go (by omega)
        ·
          try simp only [Bool.not_eq_true', Bool.not_eq_false', decide_eq_true_eq, decide_eq_false_iff_not, ne_eq, Classical.not_not, Int.not_lt, Int.not_le] at c3
          refine W_skip ?_
          refine InB_normal ?_
          refine Then_normal ?_
          refine W_seq ?_
          refine W_region_lit (fun ds => ?_)
          refine WS_det hF (by rfl) (y_move (c := .int .i64 _) (by rfl)) ?_
          refine WS_det hF (by rfl) (y_move (c := .int .i64 _) (by rfl)) ?_
          refine WS_det hF (by rfl) (y_min (by rfl) (by rfl)) ?_
          refine WS_det hF (by rfl) (y_assign (c := .int .i64 _) (by rfl)) ?_
          refine WS_nil ?_
          refine Then_normal ?_
          refine W_seq ?_
          refine W_region_lit (fun ds => ?_)
          refine WS_det hF (by rfl) (y_fieldAddr (by rfl) fa26_0) ?_
          refine WS_det hF (by rfl) (y_load1 (by rfl) Tryd.isAgg3 (Mem.own1 1 (by rfl) (by rfl))) ?_
          refine WS_det hF (by rfl) (y_indexA (k := f) (by rfl) (by rfl) (by first | rfl | omega) (by first | decide | omega) Tryd.runUnderlying99 Tryd.sizeOf3) ?_
          refine WS_det hF (by rfl) (y_load1 (by rfl) Tryd.isAgg3 (Mem.own (us := [.int .i64 (x.g f)]) 2 (by rfl) hd1)) ?_
          refine WS_det hF (by rfl) (y_move (c := .int .i64 _) (by rfl)) ?_
          refine WS_det hF (by rfl) (y_sub (by rfl) (by rfl) (by unfold I64; omega)) ?_
          refine WS_det hF (by rfl) (y_indexA (k := f) (by rfl) (by rfl) (by first | rfl | omega) (by first | decide | omega) Tryd.runUnderlying99 Tryd.sizeOf3) ?_
          refine WS_store hF (us := [.int .i64 _]) (i := 2) (by rfl) (by rfl) Tryd.sizeOf3 (by rfl) (by rfl) (by rfl) (by show 0 + f * 1 + 1 ≤ 4; omega) ?_
          refine WS_nil ?_
          refine Then_normal ?_
          refine W_seq ?_
          rw [Co.splice x _ (k := f) (by omega)]
          obtain ⟨e3, hd3⟩ := (x.w f (x.g f - c.amt x f t)).drop (k := t) (by omega)
          rw [Co.g_w _ _ (by omega) (by omega), if_neg (Ne.symm hft)] at hd3
          refine W_region_lit (fun ds => ?_)
          refine WS_det hF (by rfl) (y_fieldAddr (by rfl) fa26_1) ?_
          refine WS_det hF (by rfl) (y_load1 (by rfl) Tryd.isAgg3 (Mem.own1 1 (by rfl) (by rfl))) ?_
          refine WS_det hF (by rfl) (y_indexA (k := t) (by rfl) (by rfl) (by first | rfl | omega) (by first | decide | omega) Tryd.runUnderlying99 Tryd.sizeOf3) ?_
          refine WS_det hF (by rfl) (y_load1 (by rfl) Tryd.isAgg3 (Mem.own (us := [.int .i64 (x.g t)]) 2 (by rfl) hd3)) ?_
          refine WS_det hF (by rfl) (y_move (c := .int .i64 _) (by rfl)) ?_
          refine WS_det hF (by rfl) (y_add (by rfl) (by rfl) (by unfold I64; omega)) ?_
          refine WS_det hF (by rfl) (y_indexA (k := t) (by rfl) (by rfl) (by first | rfl | omega) (by first | decide | omega) Tryd.runUnderlying99 Tryd.sizeOf3) ?_
          refine WS_store hF (us := [.int .i64 _]) (i := 2) (by rfl) (by rfl) Tryd.sizeOf3 (by rfl) (by rfl) (by rfl) (by show 0 + t * 1 + 1 ≤ 4; omega) ?_
          refine WS_nil ?_
          refine Then_normal ?_
          refine W_seq ?_
          rw [Co.splice _ _ (k := t) (by omega)]
          refine W_region_lit (fun ds => ?_)
          refine WS_det hF (by rfl) (y_loadN (by rfl) Tryd.isAgg99 Tryd.sizeOf99 (Mem.own (us := [.int .i64 _, .int .i64 _, .int .i64 _, .int .i64 _]) 2 (by rfl) (by rfl)) (by rfl)) ?_
          refine WS_det hF (by rfl) (y_move (c := .int .i64 _) (by rfl)) ?_
          refine WS_det hF (by rfl) (y_gtr (by rfl) (by rfl)) ?_
          refine WS_store hF (us := [.int .i64 _, .int .i64 _, .int .i64 _, .int .i64 _]) (i := 0) (by rfl) (by rfl) Tryd.sizeOf99 (by rfl) (by rfl) (by rfl) (by first | decide | exact Nat.le_of_ble_eq_true rfl | simp) ?_
          refine WS_det hF (by rfl) (y_assign (c := .bool _) (by rfl)) ?_
          refine WS_nil ?_
          refine Then_normal ?_
          refine W_ret ?_
          refine Fin_ret [_, .bool _] [] Tryd.results49 ⟨lvN (by rfl) Tryd.isAgg99 Tryd.sizeOf99 (Mem.own (us := [.int .i64 _, .int .i64 _, .int .i64 _, .int .i64 _]) 0 (by rfl) (by rfl)) (by rfl), by rfl, trivial⟩ HSub.nil ?_
          first
            | exact Cn.pourR_no (by omega)
            | exact Cn.pourR_go (by omega)
      ·
        try simp only [Bool.not_eq_true', Bool.not_eq_false', decide_eq_true_eq, decide_eq_false_iff_not, ne_eq, Classical.not_not, Int.not_lt, Int.not_le] at g3_3
        refine WS_no hF (by rfl) ?_
        refine WS_no hF (by rfl) ?_
        refine WS_no hF (by rfl) ?_
        refine WS_det hF (by rfl) (by first | exact y_pick_t (c := .bool _) (by rfl) (by rfl) | exact y_pick_f (c := .bool _) (by rfl) (by rfl)) ?_
        refine WS_det hF (by rfl) (y_assign (c := .bool _) (by rfl)) ?_
        refine WS_nil ?_
        refine Then_normal ?_
        refine W_cond (by rfl) (fun c3 => ?_) (fun c3 => ?_)
        · cases c3
        ·
          try simp only [Bool.not_eq_true', Bool.not_eq_false', decide_eq_true_eq, decide_eq_false_iff_not, ne_eq, Classical.not_not, Int.not_lt, Int.not_le] at c3
          refine W_skip ?_
          refine InB_normal ?_
          refine Then_normal ?_
          refine W_seq ?_
          refine W_region_lit (fun ds => ?_)
          refine WS_det hF (by rfl) (y_move (c := .int .i64 _) (by rfl)) ?_
          refine WS_det hF (by rfl) (y_move (c := .int .i64 _) (by rfl)) ?_
          refine WS_det hF (by rfl) (y_min (by rfl) (by rfl)) ?_
          refine WS_det hF (by rfl) (y_assign (c := .int .i64 _) (by rfl)) ?_
          refine WS_nil ?_
          refine Then_normal ?_
          refine W_seq ?_
          refine W_region_lit (fun ds => ?_)
          refine WS_det hF (by rfl) (y_fieldAddr (by rfl) fa26_0) ?_
          refine WS_det hF (by rfl) (y_load1 (by rfl) Tryd.isAgg3 (Mem.own1 1 (by rfl) (by rfl))) ?_
          refine WS_det hF (by rfl) (y_indexA (k := f) (by rfl) (by rfl) (by first | rfl | omega) (by first | decide | omega) Tryd.runUnderlying99 Tryd.sizeOf3) ?_
          refine WS_det hF (by rfl) (y_load1 (by rfl) Tryd.isAgg3 (Mem.own (us := [.int .i64 (x.g f)]) 2 (by rfl) hd1)) ?_
          refine WS_det hF (by rfl) (y_move (c := .int .i64 _) (by rfl)) ?_
          refine WS_det hF (by rfl) (y_sub (by rfl) (by rfl) (by unfold I64; omega)) ?_
          refine WS_det hF (by rfl) (y_indexA (k := f) (by rfl) (by rfl) (by first | rfl | omega) (by first | decide | omega) Tryd.runUnderlying99 Tryd.sizeOf3) ?_
          refine WS_store hF (us := [.int .i64 _]) (i := 2) (by rfl) (by rfl) Tryd.sizeOf3 (by rfl) (by rfl) (by rfl) (by show 0 + f * 1 + 1 ≤ 4; omega) ?_
          refine WS_nil ?_
          refine Then_normal ?_
          refine W_seq ?_
          rw [Co.splice x _ (k := f) (by omega)]
          obtain ⟨e3, hd3⟩ := (x.w f (x.g f - c.amt x f t)).drop (k := t) (by omega)
          rw [Co.g_w _ _ (by omega) (by omega), if_neg (Ne.symm hft)] at hd3
          refine W_region_lit (fun ds => ?_)
          refine WS_det hF (by rfl) (y_fieldAddr (by rfl) fa26_1) ?_
          refine WS_det hF (by rfl) (y_load1 (by rfl) Tryd.isAgg3 (Mem.own1 1 (by rfl) (by rfl))) ?_
          refine WS_det hF (by rfl) (y_indexA (k := t) (by rfl) (by rfl) (by first | rfl | omega) (by first | decide | omega) Tryd.runUnderlying99 Tryd.sizeOf3) ?_
          refine WS_det hF (by rfl) (y_load1 (by rfl) Tryd.isAgg3 (Mem.own (us := [.int .i64 (x.g t)]) 2 (by rfl) hd3)) ?_
          refine WS_det hF (by rfl) (y_move (c := .int .i64 _) (by rfl)) ?_
          refine WS_det hF (by rfl) (y_add (by rfl) (by rfl) (by unfold I64; omega)) ?_
          refine WS_det hF (by rfl) (y_indexA (k := t) (by rfl) (by rfl) (by first | rfl | omega) (by first | decide | omega) Tryd.runUnderlying99 Tryd.sizeOf3) ?_
          refine WS_store hF (us := [.int .i64 _]) (i := 2) (by rfl) (by rfl) Tryd.sizeOf3 (by rfl) (by rfl) (by rfl) (by show 0 + t * 1 + 1 ≤ 4; omega) ?_
          refine WS_nil ?_
          refine Then_normal ?_
          refine W_seq ?_
          rw [Co.splice _ _ (k := t) (by omega)]
          refine W_region_lit (fun ds => ?_)
          refine WS_det hF (by rfl) (y_loadN (by rfl) Tryd.isAgg99 Tryd.sizeOf99 (Mem.own (us := [.int .i64 _, .int .i64 _, .int .i64 _, .int .i64 _]) 2 (by rfl) (by rfl)) (by rfl)) ?_
          refine WS_det hF (by rfl) (y_move (c := .int .i64 _) (by rfl)) ?_
          refine WS_det hF (by rfl) (y_gtr (by rfl) (by rfl)) ?_
          refine WS_store hF (us := [.int .i64 _, .int .i64 _, .int .i64 _, .int .i64 _]) (i := 0) (by rfl) (by rfl) Tryd.sizeOf99 (by rfl) (by rfl) (by rfl) (by first | decide | exact Nat.le_of_ble_eq_true rfl | simp) ?_
          refine WS_det hF (by rfl) (y_assign (c := .bool _) (by rfl)) ?_
          refine WS_nil ?_
          refine Then_normal ?_
          refine W_ret ?_
          refine Fin_ret [_, .bool _] [] Tryd.results49 ⟨lvN (by rfl) Tryd.isAgg99 Tryd.sizeOf99 (Mem.own (us := [.int .i64 _, .int .i64 _, .int .i64 _, .int .i64 _]) 0 (by rfl) (by rfl)) (by rfl), by rfl, trivial⟩ HSub.nil ?_
          first
            | exact Cn.pourR_no (by omega)
            | exact Cn.pourR_go (by omega)
end Go.Proofs.YtjekjehgmljbgaaDoor.T
