/- Great, Twin, Same of logs: the walks; the law of asks. -/
import Derived.Test.YthkimgfgpphgnaaRfD
namespace Go.Proofs.Ythkimgfgpphgnaa.T
open Go.RowKit Go.Proofs Go.Eng
set_option maxRecDepth 100000
set_option linter.unusedVariables false
set_option linter.unusedSimpArgs false

theorem a_ep48_0 {x_0 : Int} {x_1 : Int} {x_2 : Int} {x_3 : Int} : ∀ w, (part 3 #[.int .i64 x_0, .int .i64 x_1, .int .i64 x_2, .int .i64 x_3] 0).run Try.prog w = .ok (.int .i64 x_0) w := fun w => by kernel_rfl
theorem a_ep48_1 {x_0 : Int} {x_1 : Int} {x_2 : Int} {x_3 : Int} : ∀ w, (part 3 #[.int .i64 x_0, .int .i64 x_1, .int .i64 x_2, .int .i64 x_3] 1).run Try.prog w = .ok (.int .i64 x_1) w := fun w => by kernel_rfl
theorem a_ep48_2 {x_0 : Int} {x_1 : Int} {x_2 : Int} {x_3 : Int} : ∀ w, (part 26 #[.int .i64 x_0, .int .i64 x_1, .int .i64 x_2, .int .i64 x_3] 2).run Try.prog w = .ok (.agg #[.int .i64 x_2, .int .i64 x_3]) w := fun w => by kernel_rfl
theorem a_gneqA26 {x y : Operand} {x_0 : Int} {x_1 : Int} {y_0 : Int} {y_1 : Int} : ∀ w, (eqGuard .neq 26 x y (.agg #[.int .i64 x_0, .int .i64 x_1]) (.agg #[.int .i64 y_0, .int .i64 y_1])).run Try.prog w = .ok () w := fun w => by kernel_rfl
theorem a_gneqA48 {x y : Operand} {x_0 : Int} {x_1 : Int} {x_2 : Int} {x_3 : Int} {y_0 : Int} {y_1 : Int} {y_2 : Int} {y_3 : Int} : ∀ w, (eqGuard .neq 48 x y (.agg #[.int .i64 x_0, .int .i64 x_1, .int .i64 x_2, .int .i64 x_3]) (.agg #[.int .i64 y_0, .int .i64 y_1, .int .i64 y_2, .int .i64 y_3])).run Try.prog w = .ok () w := fun w => by kernel_rfl
theorem a_st48 : Try.prog.stoodInHeld 48 = false := by kernel_rfl
theorem eq26_9999 {x_0 : Int} {x_1 : Int} {y_0 : Int} {y_1 : Int} : ∀ w, (Op.equalIn 9999 26 (.agg #[.int .i64 x_0, .int .i64 x_1]) (.agg #[.int .i64 y_0, .int .i64 y_1])).run Try.prog w = .ok (ieq x_0 y_0 && ieq x_1 y_1) w := fun w => by
  unfold Op.equalIn
  rw [Sem.run_bind, Try.runUnderlying26]
  simp [a_st26, a_ep26_0, eq_int (d := 9997) Try.runUnderlying3, a_ep26_1, eq_int (d := 9997) Try.runUnderlying3]
  generalize ieq x_0 y_0 = b0
  generalize ieq x_1 y_1 = b1
  cases b0 <;> cases b1 <;> simp
theorem bd46_0_1_2 {x0_0a : Option Addr} {x0_0l x0_0c : Nat} {x0_1 : Int} {x0_2 : Int} {x1_0 : Int} {x1_1 : Int} {x2a : Option Addr} {x2l x2c : Nat} : ∀ w, (Instr.build 46 #[(0, .agg #[.slice x0_0a x0_0l x0_0c, .int .i64 x0_1, .int .i64 x0_2]), (1, .agg #[.int .i64 x1_0, .int .i64 x1_1]), (2, .slice x2a x2l x2c)]).run Try.prog w = .ok (.agg #[.slice x0_0a x0_0l x0_0c, .int .i64 x0_1, .int .i64 x0_2, .int .i64 x1_0, .int .i64 x1_1, .slice x2a x2l x2c]) w := fun w => by kernel_rfl
theorem eq48 {x_0 : Int} {x_1 : Int} {x_2 : Int} {x_3 : Int} {y_0 : Int} {y_1 : Int} {y_2 : Int} {y_3 : Int} : ∀ w, (Op.equalIn Op.maxDepth 48 (.agg #[.int .i64 x_0, .int .i64 x_1, .int .i64 x_2, .int .i64 x_3]) (.agg #[.int .i64 y_0, .int .i64 y_1, .int .i64 y_2, .int .i64 y_3])).run Try.prog w = .ok (ieq x_0 y_0 && ieq x_1 y_1 && ieq x_2 y_2 && ieq x_3 y_3) w := fun w => by
  unfold Op.maxDepth Op.equalIn
  rw [Sem.run_bind, Try.runUnderlying48]
  simp [a_st48, a_ep48_0, eq_int (d := 9998) Try.runUnderlying3, a_ep48_1, eq_int (d := 9998) Try.runUnderlying3, a_ep48_2, eq26_9999]
  generalize ieq x_0 y_0 = b0
  generalize ieq x_1 y_1 = b1
  generalize ieq x_2 y_2 = b2
  generalize ieq x_3 y_3 = b3
  cases b0 <;> cases b1 <;> cases b2 <;> cases b3 <;> simp
theorem bs44_0  : ∀ w, (Instr.buildSlice 44 0 #[]).run Try.prog w = .ok (.slice (some ⟨w.heap.size, 0, none⟩) 0 0) (w.alloc (CB [] 48)) := fun w => by kernel_rfl
theorem neqA26 {x y : Operand} {x_0 : Int} {x_1 : Int} {y_0 : Int} {y_1 : Int} : ∀ w, ((do eqGuard .neq 26 x y (.agg #[.int .i64 x_0, .int .i64 x_1]) (.agg #[.int .i64 y_0, .int .i64 y_1]); binOp .neq 26 (.agg #[.int .i64 x_0, .int .i64 x_1]) (.agg #[.int .i64 y_0, .int .i64 y_1])) : Sem Value).run Try.prog w = .ok (.bool (!(ieq x_0 y_0 && ieq x_1 y_1))) w := eq_topN a_gneqA26 eq26
theorem neqA48 {x y : Operand} {x_0 : Int} {x_1 : Int} {x_2 : Int} {x_3 : Int} {y_0 : Int} {y_1 : Int} {y_2 : Int} {y_3 : Int} : ∀ w, ((do eqGuard .neq 48 x y (.agg #[.int .i64 x_0, .int .i64 x_1, .int .i64 x_2, .int .i64 x_3]) (.agg #[.int .i64 y_0, .int .i64 y_1, .int .i64 y_2, .int .i64 y_3]); binOp .neq 48 (.agg #[.int .i64 x_0, .int .i64 x_1, .int .i64 x_2, .int .i64 x_3]) (.agg #[.int .i64 y_0, .int .i64 y_1, .int .i64 y_2, .int .i64 y_3])) : Sem Value).run Try.prog w = .ok (.bool (!(ieq x_0 y_0 && ieq x_1 y_1 && ieq x_2 y_2 && ieq x_3 y_3))) w := eq_topN a_gneqA48 eq48

theorem At.app {w : World} {b : Nat} : ∀ {us vs : List Value} {o : Nat}, At w b o us → At w b (o + us.length) vs → At w b o (us ++ vs)
  | [], vs, o, _, h => by simpa using h
  | u :: us, vs, o, h, h' => ⟨h.1, At.app (us := us) h.2 (by rw [show o + 1 + us.length = o + (u :: us).length by simp; omega]; exact h')⟩
section
variable {α : Type} {enc : α → List Value} {sz : Nat} {d : α} {w : World} {a : Option Addr} {n cap : Nat} {xs : List α}
theorem Rws.row (hz : ∀ x, (enc x).length = sz) {b o : Nat} (h : Rws enc sz d w (some ⟨b, o, none⟩) n cap xs) : ∀ m, m ≤ n → At w b o (rowOf enc (fun k => xs.getD k d) m)
  | 0, _ => trivial
  | m + 1, hm => by
    rw [rowOf_succ]
    refine At.app (Rws.row hz h m (by omega)) ?_
    rw [rowOf_len hz]
    exact h.at (k := m) (by omega)
theorem Rws.src (hz : ∀ x, (enc x).length = sz) {C : Ctx} {H : List Blk} (h : Rws enc sz d C.w0 a n cap xs) : Src C H a n (rowOf enc (fun k => xs.getD k d) n) := by
  by_cases hn : n = 0
  · subst hn; exact .inl ⟨rfl, rfl⟩
  · obtain ⟨b, o, rfl⟩ := h.adr (by omega)
    exact .inr ⟨b, o, rfl, Mem.old (Rws.row hz h n (Nat.le_refl _))⟩
theorem NewRow.rws (hz : ∀ x, (enc x).length = sz) {C : Ctx} {H Hn : List Blk} {T : TypeId} (h : NewRow T sz n (rowOf enc (fun k => xs.getD k d) n) (.slice a n cap) Hn) (hl : xs.length = n) (hs : Hn.Sublist H) (w : World) (hw : St C H w) : Rws enc sz d w a n cap xs := by
  obtain ⟨a', cap', he, hle, hc⟩ := h
  cases he
  refine ⟨hl, hle, fun k hk => ?_⟩
  rcases hc with ⟨hn, b, junk, rfl, rfl, hlen⟩ | ⟨hn, rfl, rfl⟩
  · refine ⟨b, 0, rfl, ?_⟩
    exact Mem.rowJ (junk := junk) (k := k) (o := 0 + k * sz) hz 0 rfl hk rfl (Nat.zero_add _) w (hw.sub hs)
  · omega
end
theorem en_len (x : En) : x.cells.length = 4 := rfl
theorem infEntry : (Try.prog.info? 48).map (fun i => (i.zero, i.size, i.bytes)) = some (some (.agg #[.int .i64 0, .int .i64 0, .int .i64 0, .int .i64 0]), 4, 32) := by kernel_rfl

theorem great_any (l : Lg) (a : Option Addr) (cap : Nat) (ae : Option Addr) (cape : Nat) (w : World) :
    Ct Try.prog 22 #[.agg #[.slice a l.tk.n cap, .int .i64 l.tk.leak, .int .i64 l.tk.foot, .int .i64 l.start.lo, .int .i64 l.start.hi, .slice ae l.es.length cape]] w fun v _ => v = .bool (decide ((l.tk.n : Int) > 40) || decide ((l.es.length : Int) > 24)) := by
  have hF := wide_wide
  refine Ct_start (args := [_]) Try.func22 (by rfl) Try.ntmps22 (by rfl) ?_
  refine W_seq ?_
  refine W_region_lit (fun ds => ?_)
  refine WS_new hF (by rfl) (y_box (by rfl)) (fun b1 => ?_)
  refine WS_det hF (by rfl) (y_assign (c := .bool _) (by rfl)) ?_
  refine WS_nil ?_
  refine Then_normal ?_
  refine W_seq ?_
  refine W_region_lit (fun ds => ?_)
  refine WS_det hF (by rfl) (y_fieldAddr (by rfl) fa46_0) ?_
  refine WS_det hF (by rfl) (y_loadN (by rfl) Try.isAgg24 Try.sizeOf24 (Mem.own (us := [.slice _ _ _, .int .i64 _, .int .i64 _]) 0 (by rfl) (by rfl)) (by rfl)) ?_
  refine WS_det hF (by rfl) (y_callL (by rfl) (by rfl) Try.call11 (fun w hw => greatTank_any l.tk a cap w)) ?_
  refine WS_det hF (by rfl) (y_move (c := .bool _) (by rfl)) ?_
  refine WS_split 6 (by rfl) (fun g1_3 => ?_) (fun g1_3 => ?_)
  ·
    try simp only [Bool.not_eq_true', Bool.not_eq_false', decide_eq_true_eq, decide_eq_false_iff_not, ne_eq, Classical.not_not, Int.not_lt, Int.not_le] at g1_3
    refine WS_no hF (by rfl) ?_
    refine WS_no hF (by rfl) ?_
    refine WS_no hF (by rfl) ?_
    refine WS_no hF (by rfl) ?_
    refine WS_det hF (by rfl) (by first | exact y_pick_t (c := .bool _) (by rfl) (by rfl) | exact y_pick_f (c := .bool _) (by rfl) (by rfl)) ?_
    refine WS_det hF (by rfl) (y_assign (c := .bool _) (by rfl)) ?_
    refine WS_nil ?_
    refine Then_normal ?_
    refine W_ret ?_
    refine Fin_ret [.bool _] [] Try.results22 ⟨by rfl, trivial⟩ HSub.nil ?_
    show Value.bool _ = _
    simp [*] <;> omega
  ·
    try simp only [Bool.not_eq_true', Bool.not_eq_false', decide_eq_true_eq, decide_eq_false_iff_not, ne_eq, Classical.not_not, Int.not_lt, Int.not_le] at g1_3
    refine WS_det hF (by rfl) (y_fieldAddr (by rfl) fa46_2) ?_
    refine WS_det hF (by rfl) (y_load1 (by rfl) Try.isAgg44 (Mem.own1 0 (by rfl) (by rfl))) ?_
    refine WS_det hF (by rfl) (y_len (by rfl) Try.runUnderlying44) ?_
    refine WS_det hF (by rfl) (y_gtr (by rfl) (by rfl)) ?_
    refine WS_det hF (by rfl) (by first | exact y_pick_t (c := .bool _) (by rfl) (by rfl) | exact y_pick_f (c := .bool _) (by rfl) (by rfl)) ?_
    refine WS_det hF (by rfl) (y_assign (c := .bool _) (by rfl)) ?_
    refine WS_nil ?_
    refine Then_normal ?_
    refine W_ret ?_
    refine Fin_ret [.bool _] [] Try.results22 ⟨by rfl, trivial⟩ HSub.nil ?_
    show Value.bool _ = _
    simp [*] <;> omega
/-- A log in new memory. -/
def TwinL (l : Lg) (v : Value) (Hn : List Blk) : Prop :=
  ∃ a cap ae cape H1 H2, v = .agg #[.slice a l.tk.n cap, .int .i64 l.tk.leak, .int .i64 l.tk.foot, .int .i64 l.start.lo, .int .i64 l.start.hi, .slice ae l.es.length cape] ∧ NewRow 3 1 l.tk.n (iv l.tk.pints) (.slice a l.tk.n cap) H1 ∧ NewRow 48 4 l.es.length (rowOf En.cells l.e l.es.length) (.slice ae l.es.length cape) H2 ∧ Hn = H1 ++ H2
theorem twin_any (l : Lg) (a : Option Addr) (cap : Nat) (ae : Option Addr) (cape : Nat) (w : World) (hnes : l.es.length ≤ 1000000) (hn : l.tk.n ≤ 1000000) (hx : Ints w a l.tk.n cap l.tk.pints) (he : Ens w ae l.es.length cape l.es) : Ct Try.prog 23 #[.agg #[.slice a l.tk.n cap, .int .i64 l.tk.leak, .int .i64 l.tk.foot, .int .i64 l.start.lo, .int .i64 l.start.hi, .slice ae l.es.length cape]] w (TwinL l) := by
  have hlen : (rowOf En.cells l.e l.es.length).length = l.es.length * 4 := rowOf_len en_len _ _
  have hF := wide_wide
  refine Ct_start (args := [_]) Try.func23 (by rfl) Try.ntmps23 (by rfl) ?_
  refine W_seq ?_
  refine W_region_lit (fun ds => ?_)
  refine WS_new hF (by rfl) (y_box (by rfl)) (fun b1 => ?_)
  refine WS_new hF (by rfl) (y_alloc Try.zeroValue46 (by rfl)) (fun b2 => ?_)
  refine WS_nil ?_
  refine Then_normal ?_
  refine W_seq ?_
  apply W_draw1D hF Trymixed [1000000] 12 _ (i := 0) (by rfl) (by decide +kernel)
  intro ds
  refine P_det (by rfl) (Over_out (by rfl) (Over_nil (y_fieldAddr (by rfl) fa46_0))) ?_
  refine P_det (by rfl) (Over_out (by rfl) (Over_nil (y_loadN (by rfl) Try.isAgg24 Try.sizeOf24 (Mem.own (us := [.slice _ _ _, .int .i64 _, .int .i64 _]) 0 (by rfl) (by rfl)) (by rfl)))) ?_
  refine P_new (by rfl) (by rfl) (Over_out (by rfl) (Over_nil (y_callL (by rfl) (by rfl) Try.call12 (fun w hw => twinTank_any l.tk a cap w hn (hx.st w hw))))) ?_
  refine P_det (by rfl) (Over_out (by rfl) (Over_out (by rfl) (Over_nil (y_fieldAddr (by rfl) fa46_1)))) ?_
  refine P_det (by rfl) (Over_out (by rfl) (Over_out (by rfl) (Over_nil (y_loadN (by rfl) Try.isAgg26 Try.sizeOf26 (Mem.own (us := [.int .i64 _, .int .i64 _]) 0 (by rfl) (by rfl)) (by rfl))))) ?_
  refine P_new (by rfl) (by rfl) (Over_out (by rfl) (Over_out (by rfl) (Over_nil (y_buildSliceL bs44_0 (by rfl))))) ?_
  refine P_det (by rfl) (Over_out (by rfl) (Over_out (by rfl) (Over_out (by rfl) (Over_nil (y_fieldAddr (by rfl) fa46_2))))) ?_
  refine P_det (by rfl) (Over_out (by rfl) (Over_out (by rfl) (Over_out (by rfl) (Over_nil (y_load1 (by rfl) Try.isAgg44 (Mem.own1 0 (by rfl) (by rfl))))))) ?_
  refine P_new (by rfl) (by rfl) (Over_in (by rfl) (Over_out (by rfl) (Over_out (by rfl) (Over_nil (by rintro _ _ ⟨b5, rfl, rfl⟩; exact (y_append0 (by rfl) (by rfl) Try.underlying44 infEntry (by rfl) (Rws.src en_len he) hlen (by omega) (by omega))))))) ?_
  refine P_ali [11, 5] (aggC [.inr 5, .inl _, .inl _, .inr 11]) (by rfl) (by rfl) (by rfl) (aggC_congr (by rfl)) (Over_in (by rfl) (Over_out (by rfl) (Over_in (by rfl) (Over_out (by rfl) (Over_nil (by intro vb7 l5 hb7; obtain ⟨at1, capt1, rfl, hrt1⟩ := hb7; rintro _ l11 ⟨ab8, cb8, rfl, hleb8, hrowb8⟩; exact (YD0_of (y_buildL bd46_0_1_2 (by rfl))))))))) ?_
  refine P_st 1000000 4 (by rfl) (by rfl) (by rfl) (by rfl) (by rfl) (Over_in (by rfl) (Over_in (by rfl) (Over_out (by rfl) (Over_in (by rfl) (Over_nil (by intro vb10 l5 hb10; obtain ⟨at1, capt1, rfl, hrt1⟩ := hb10; rintro _ l11 ⟨ab11, cb11, rfl, hleb11, hrowb11⟩; rintro vb12 _ ⟨hvb12, rfl⟩; replace hvb12 : vb12 = .agg #[.slice _ _ _, .int .i64 _, .int .i64 _, .int .i64 _, .int .i64 _, .slice _ _ _] := hvb12; subst hvb12; exact (st_preD (fun _ => by rfl) (by rfl) (by rfl) Try.sizeOf46 (by rfl) (by rfl) (by first | decide | exact Nat.le_of_ble_eq_true rfl | simp)))))))) ?_
  refine PW_end (by rfl) ?_
  refine OverAll_cons (fun w12 l12 => ?_)
  refine OverAll_cons (fun w11 l11 => ?_)
  refine OverAll_cons (fun w8 l8 => ?_)
  refine OverAll_cons (fun w5 l5 => ?_)
  refine OverAll_cons (fun w1000000 l1000000 => ?_)
  refine OverAll_nil ?_
  rintro ⟨⟨⟨⟨⟨-, h12⟩, h11⟩, h8⟩, h5⟩, h1000000⟩
  obtain ⟨at1, capt1, rfl, hrt1⟩ := h5
  obtain ⟨b4, rfl, rfl⟩ := h8
  obtain ⟨ab6, cb6, rfl, hleb6, hrowb6⟩ := h11
  obtain ⟨h12, rfl⟩ := h12
  replace h12 : w12 = .agg #[.slice _ _ _, .int .i64 _, .int .i64 _, .int .i64 _, .int .i64 _, .slice _ _ _] := h12
  subst h12
  obtain rfl := h1000000
  refine Then_normal ?_
  refine W_ret ?_
  refine Fin_ret [_] (l5 ++ l11) Try.results23 ⟨lvN (by rfl) Try.isAgg46 Try.sizeOf46 (Mem.own (us := [.slice _ _ _, .int .i64 _, .int .i64 _, .int .i64 _, .int .i64 _, .slice _ _ _]) 0 (by rfl) (by rfl)) (by rfl), trivial⟩ (HSub.sub (by refine List.Sublist.cons _ ?_; show List.Sublist (l5 ++ l11) (l5 ++ (_ :: (l11 ++ _))); exact List.Sublist.append_left (List.Sublist.cons _ (List.sublist_append_left _ _)) _)) ?_
  exact ⟨at1, capt1, _, _, l5, l11, rfl, hrt1, ⟨_, _, rfl, by assumption, by assumption⟩, rfl⟩
theorem same_any (l : Lg) (a : Option Addr) (cap : Nat) (ae : Option Addr) (cape : Nat) (a' : Option Addr) (cap' : Nat) (ae' : Option Addr) (cape' : Nat) (w : World) (hnes : l.es.length ≤ 1000000) (hn : l.tk.n ≤ 1000000) (hx : Ints w a l.tk.n cap l.tk.pints) (he : Ens w ae l.es.length cape l.es) (hx' : Ints w a' l.tk.n cap' l.tk.pints) (he' : Ens w ae' l.es.length cape' l.es) :
    Ct Try.prog 30 #[.agg #[.slice a' l.tk.n cap', .int .i64 l.tk.leak, .int .i64 l.tk.foot, .int .i64 l.start.lo, .int .i64 l.start.hi, .slice ae' l.es.length cape'], .agg #[.slice a l.tk.n cap, .int .i64 l.tk.leak, .int .i64 l.tk.foot, .int .i64 l.start.lo, .int .i64 l.start.hi, .slice ae l.es.length cape]] w fun v _ => v = .bool true := by
  have hF := wide_wide
  refine Ct_start (args := [_, _]) Try.func30 (by rfl) Try.ntmps30 (by rfl) ?_
  refine W_seq ?_
  refine W_region_lit (fun ds => ?_)
  refine WS_new hF (by rfl) (y_box (by rfl)) (fun b1 => ?_)
  refine WS_new hF (by rfl) (y_box (by rfl)) (fun b2 => ?_)
  refine WS_det hF (by rfl) (y_assign (c := .bool _) (by rfl)) ?_
  refine WS_nil ?_
  refine Then_normal ?_
  refine W_seq ?_
  refine W_seq ?_
  refine W_region_lit (fun ds => ?_)
  refine WS_det hF (by rfl) (y_fieldAddr (by rfl) fa46_0) ?_
  refine WS_det hF (by rfl) (y_fieldAddr (by rfl) fa24_0) ?_
  refine WS_det hF (by rfl) (y_load1 (by rfl) Try.isAgg22 (Mem.own1 1 (by rfl) (by rfl))) ?_
  refine WS_det hF (by rfl) (y_fieldAddr (by rfl) fa46_0) ?_
  refine WS_det hF (by rfl) (y_fieldAddr (by rfl) fa24_0) ?_
  refine WS_det hF (by rfl) (y_load1 (by rfl) Try.isAgg22 (Mem.own1 0 (by rfl) (by rfl))) ?_
  refine WS_det hF (by rfl) (y_callL (by rfl) (by rfl) Try.call21 (fun w hw => Ct_eq (c' := .bool true) (sameInts_any a' a l.tk.n l.tk.n cap' cap l.tk.pints l.tk.pints w hn (hx'.st w hw) (hx.st w hw)) (by simp))) ?_
  refine WS_det hF (by rfl) (y_not (by rfl)) ?_
  refine WS_det hF (by rfl) (y_move (c := .bool _) (by rfl)) ?_
  refine WS_det hF (by rfl) (y_fieldAddr (by rfl) fa46_0) ?_
  refine WS_det hF (by rfl) (y_fieldAddr (by rfl) fa24_1) ?_
  refine WS_det hF (by rfl) (y_load1 (by rfl) Try.isAgg3 (Mem.own1 1 (by rfl) (by rfl))) ?_
  refine WS_det hF (by rfl) (y_fieldAddr (by rfl) fa46_0) ?_
  refine WS_det hF (by rfl) (y_fieldAddr (by rfl) fa24_1) ?_
  refine WS_det hF (by rfl) (y_load1 (by rfl) Try.isAgg3 (Mem.own1 0 (by rfl) (by rfl))) ?_
  refine WS_det hF (by rfl) (y_neqF (by rfl) (by rfl)) ?_
  refine WS_det hF (by rfl) (by first | exact y_pick_t (c := .bool _) (by rfl) (by rfl) | exact y_pick_f (c := .bool _) (by rfl) (by rfl)) ?_
  refine WS_det hF (by rfl) (y_move (c := .bool _) (by rfl)) ?_
  refine WS_det hF (by rfl) (y_fieldAddr (by rfl) fa46_0) ?_
  refine WS_det hF (by rfl) (y_fieldAddr (by rfl) fa24_2) ?_
  refine WS_det hF (by rfl) (y_load1 (by rfl) Try.isAgg3 (Mem.own1 1 (by rfl) (by rfl))) ?_
  refine WS_det hF (by rfl) (y_fieldAddr (by rfl) fa46_0) ?_
  refine WS_det hF (by rfl) (y_fieldAddr (by rfl) fa24_2) ?_
  refine WS_det hF (by rfl) (y_load1 (by rfl) Try.isAgg3 (Mem.own1 0 (by rfl) (by rfl))) ?_
  refine WS_det hF (by rfl) (y_neqF (by rfl) (by rfl)) ?_
  refine WS_det hF (by rfl) (by first | exact y_pick_t (c := .bool _) (by rfl) (by rfl) | exact y_pick_f (c := .bool _) (by rfl) (by rfl)) ?_
  refine WS_det hF (by rfl) (y_move (c := .bool _) (by rfl)) ?_
  refine WS_det hF (by rfl) (y_fieldAddr (by rfl) fa46_1) ?_
  refine WS_det hF (by rfl) (y_loadN (by rfl) Try.isAgg26 Try.sizeOf26 (Mem.own (us := [.int .i64 _, .int .i64 _]) 1 (by rfl) (by rfl)) (by rfl)) ?_
  refine WS_det hF (by rfl) (y_fieldAddr (by rfl) fa46_1) ?_
  refine WS_det hF (by rfl) (y_loadN (by rfl) Try.isAgg26 Try.sizeOf26 (Mem.own (us := [.int .i64 _, .int .i64 _]) 0 (by rfl) (by rfl)) (by rfl)) ?_
  refine WS_det hF (by rfl) (y_neqlAF (by rfl) (by rfl) neqA26 (by simp only [ieq_self, Bool.and_self, Bool.not_true])) ?_
  refine WS_det hF (by rfl) (by first | exact y_pick_t (c := .bool _) (by rfl) (by rfl) | exact y_pick_f (c := .bool _) (by rfl) (by rfl)) ?_
  refine WS_det hF (by rfl) (y_move (c := .bool _) (by rfl)) ?_
  refine WS_det hF (by rfl) (y_fieldAddr (by rfl) fa46_2) ?_
  refine WS_det hF (by rfl) (y_load1 (by rfl) Try.isAgg44 (Mem.own1 1 (by rfl) (by rfl))) ?_
  refine WS_det hF (by rfl) (y_len (by rfl) Try.runUnderlying44) ?_
  refine WS_det hF (by rfl) (y_fieldAddr (by rfl) fa46_2) ?_
  refine WS_det hF (by rfl) (y_load1 (by rfl) Try.isAgg44 (Mem.own1 0 (by rfl) (by rfl))) ?_
  refine WS_det hF (by rfl) (y_len (by rfl) Try.runUnderlying44) ?_
  refine WS_det hF (by rfl) (y_neqF (by rfl) (by rfl)) ?_
  refine WS_det hF (by rfl) (by first | exact y_pick_t (c := .bool _) (by rfl) (by rfl) | exact y_pick_f (c := .bool _) (by rfl) (by rfl)) ?_
  refine WS_nil ?_
  refine Then_normal ?_
  refine W_cond (by rfl) (fun c1 => ?_) (fun c1 => ?_)
  · cases c1
  ·
    try simp only [Bool.not_eq_true', Bool.not_eq_false', decide_eq_true_eq, decide_eq_false_iff_not, ne_eq, Classical.not_not, Int.not_lt, Int.not_le] at c1
    refine W_skip ?_
    refine Then_normal ?_
    refine W_seq ?_
    refine W_seq ?_
    refine W_region_lit (fun ds => ?_)
    refine WS_det hF (by rfl) (y_assign (c := .int .i64 _) (by rfl)) ?_
    refine WS_nil ?_
    refine Then_normal ?_
    refine W_block ?_
    refine W_loop (γ := Nat) (fun k => k ≤ l.es.length) (fun k => [(2, .pointer (some ⟨b1, 0, none⟩)), (3, .pointer (some ⟨b2, 0, none⟩)), (5, .int .i64 (k : Int))]) (fun _ => _) (fun k => l.es.length - k) (0) (Nat.zero_le _) (by repeat (first | exact trivial | refine ⟨by rfl, ?_⟩)) (List.Sublist.refl _) ?_
    intro k e hk
    refine W_seq ?_
    refine W_seq ?_
    refine W_region_lit (fun ds => ?_)
    refine WS_det hF (by rfl) (y_move (c := .int .i64 _) (by rfl)) ?_
    refine WS_det hF (by rfl) (y_fieldAddr (by rfl) fa46_2) ?_
    refine WS_det hF (by rfl) (y_load1 (by rfl) Try.isAgg44 (Mem.own1 1 (by rfl) (by rfl))) ?_
    refine WS_det hF (by rfl) (y_len (by rfl) Try.runUnderlying44) ?_
    refine WS_det hF (by rfl) (y_lss (by rfl) (by rfl)) ?_
    refine WS_nil ?_
    refine Then_normal ?_
    refine W_cond (by rfl) (fun c4 => ?_) (fun c4 => ?_)
    ·
      try simp only [Bool.not_eq_true', Bool.not_eq_false', decide_eq_true_eq, decide_eq_false_iff_not, ne_eq, Classical.not_not, Int.not_lt, Int.not_le] at c4
      obtain ⟨b, o, rfl, hc⟩ := he.cell k (by omega)
      change At w b _ (l.e k).cells at hc
      obtain ⟨bz, oz, rfl, hcz⟩ := he'.cell k (by omega)
      change At w bz _ (l.e k).cells at hcz
      refine W_skip ?_
      refine Then_normal ?_
      refine W_seq ?_
      refine W_block ?_
      refine W_seq ?_
      refine W_draw0 hF Trymixed [] (by decide +kernel) (fun ds => ?_)
      refine P_det (by rfl) (Over_nil (y_fieldAddr (by rfl) fa46_2)) ?_
      refine P_det (by rfl) (Over_nil (y_load1 (by rfl) Try.isAgg44 (Mem.own1 1 (by rfl) (by rfl)))) ?_
      refine P_det (by rfl) (Over_nil (y_move (c := .int .i64 _) (by rfl))) ?_
      refine P_det (by rfl) (Over_nil (y_index (k := k) (by rfl) (by rfl) (by first | rfl | omega) (by first | decide | omega) Try.runUnderlying44 Try.sizeOf48)) ?_
      refine P_det (by rfl) (Over_nil (y_loadN (by rfl) Try.isAgg48 Try.sizeOf48 (by first | exact Mem.old (by assumption) | exact Mem.oldAt (us := [.int .i64 _, .int .i64 _, .int .i64 _, .int .i64 _]) (by assumption) (by rfl) | exact Mem.oldAtL (us := [.int .i64 _, .int .i64 _, .int .i64 _, .int .i64 _]) (by assumption) (by rfl) (by rfl)) (by rfl))) ?_
      refine P_det (by rfl) (Over_nil (y_fieldAddr (by rfl) fa46_2)) ?_
      refine P_det (by rfl) (Over_nil (y_load1 (by rfl) Try.isAgg44 (Mem.own1 0 (by rfl) (by rfl)))) ?_
      refine P_det (by rfl) (Over_nil (y_move (c := .int .i64 _) (by rfl))) ?_
      refine P_det (by rfl) (Over_nil (y_index (k := k) (by rfl) (by rfl) (by first | rfl | omega) (by first | decide | omega) Try.runUnderlying44 Try.sizeOf48)) ?_
      refine P_det (by rfl) (Over_nil (y_loadN (by rfl) Try.isAgg48 Try.sizeOf48 (by first | exact Mem.old (by assumption) | exact Mem.oldAt (us := [.int .i64 _, .int .i64 _, .int .i64 _, .int .i64 _]) (by assumption) (by rfl) | exact Mem.oldAtL (us := [.int .i64 _, .int .i64 _, .int .i64 _, .int .i64 _]) (by assumption) (by rfl) (by rfl)) (by rfl))) ?_
      refine P_det (by rfl) (Over_nil (y_neqlAF (by rfl) (by rfl) neqA48 (by simp only [ieq_self, Bool.and_self, Bool.not_true]))) ?_
      refine PW_end (by rfl) ?_
      refine OverAll_nil ?_
      rintro -
      refine Then_normal ?_
      refine W_cond (by rfl) (fun c6 => ?_) (fun c6 => ?_)
      · cases c6
      ·
        try simp only [Bool.not_eq_true', Bool.not_eq_false', decide_eq_true_eq, decide_eq_false_iff_not, ne_eq, Classical.not_not, Int.not_lt, Int.not_le] at c6
        refine W_skip ?_
        refine InB_normal ?_
        refine Then_normal ?_
        refine W_region_lit (fun ds => ?_)
        refine WS_det hF (by rfl) (y_move (c := .int .i64 _) (by rfl)) ?_
        refine WS_det hF (by rfl) (y_add (by rfl) (by rfl) (by unfold I64; omega)) ?_
        refine WS_det hF (by rfl) (y_assign (c := .int .i64 _) (by rfl)) ?_
        refine WS_nil ?_
        exact Loop_next (k + 1) (by omega) (by repeat (first | exact trivial | refine ⟨by rfl, ?_⟩)) (by repeat (first | exact List.Sublist.refl _ | exact List.nil_sublist _ | apply List.Sublist.cons_cons | apply List.Sublist.cons)) (by omega)
    ·
      try simp only [Bool.not_eq_true', Bool.not_eq_false', decide_eq_true_eq, decide_eq_false_iff_not, ne_eq, Classical.not_not, Int.not_lt, Int.not_le] at c4
      refine W_exit ?_
      refine Then_exit ?_
      refine Loop_exit ?_
      refine InB_same ?_
      refine Then_normal ?_
      refine W_seq ?_
      refine W_region_lit (fun ds => ?_)
      refine WS_det hF (by rfl) (y_assign (c := .bool _) (by rfl)) ?_
      refine WS_nil ?_
      refine Then_normal ?_
      refine W_ret ?_
      refine Fin_ret [.bool _] [] Try.results30 ⟨by rfl, trivial⟩ HSub.nil ?_
      rfl
end Go.Proofs.Ythkimgfgpphgnaa.T
