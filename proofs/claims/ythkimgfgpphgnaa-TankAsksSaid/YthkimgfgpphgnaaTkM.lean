/- Logs that are valid; a book in memory; drip, before, after. -/
import Derived.Test.YthkimgfgpphgnaaTkL
namespace Go.Proofs.Ythkimgfgpphgnaa.T
open Go.RowKit Go.Proofs Go.Eng
set_option maxRecDepth 100000
set_option linter.unusedVariables false
set_option linter.unusedSimpArgs false

theorem fa116_1 : ∀ b o w, (Instr.fieldAt 116 (.pointer (some ⟨b, o, none⟩)) 1).run Try.prog w = .ok (.pointer (some ⟨b, o + 1, none⟩)) w := fun b o w => by kernel_rfl
theorem fa119_0 : ∀ b o w, (Instr.fieldAt 119 (.pointer (some ⟨b, o, none⟩)) 0).run Try.prog w = .ok (.pointer (some ⟨b, o + 0, none⟩)) w := fun b o w => by kernel_rfl
theorem fa119_1 : ∀ b o w, (Instr.fieldAt 119 (.pointer (some ⟨b, o, none⟩)) 1).run Try.prog w = .ok (.pointer (some ⟨b, o + 1, none⟩)) w := fun b o w => by kernel_rfl
theorem fa119_2 : ∀ b o w, (Instr.fieldAt 119 (.pointer (some ⟨b, o, none⟩)) 2).run Try.prog w = .ok (.pointer (some ⟨b, o + 7, none⟩)) w := fun b o w => by kernel_rfl
theorem fa46_2 : ∀ b o w, (Instr.fieldAt 46 (.pointer (some ⟨b, o, none⟩)) 2).run Try.prog w = .ok (.pointer (some ⟨b, o + 5, none⟩)) w := fun b o w => by kernel_rfl
theorem fa48_0 : ∀ b o w, (Instr.fieldAt 48 (.pointer (some ⟨b, o, none⟩)) 0).run Try.prog w = .ok (.pointer (some ⟨b, o + 0, none⟩)) w := fun b o w => by kernel_rfl
theorem fa48_1 : ∀ b o w, (Instr.fieldAt 48 (.pointer (some ⟨b, o, none⟩)) 1).run Try.prog w = .ok (.pointer (some ⟨b, o + 1, none⟩)) w := fun b o w => by kernel_rfl
theorem fa48_2 : ∀ b o w, (Instr.fieldAt 48 (.pointer (some ⟨b, o, none⟩)) 2).run Try.prog w = .ok (.pointer (some ⟨b, o + 2, none⟩)) w := fun b o w => by kernel_rfl

def Lg.e (l : Lg) (k : Nat) : En := l.es.getD k En.z
def Tk.most (t : Tk) (kind : Int) : Int := if kind = 3 then t.height else t.full
def Tk.entB (t : Tk) (day : Int) (x : En) : Bool := inB day 3652 [x.day] && inB 1 3 [x.kind] && x.size.inB (t.most x.kind)
def Tk.entsB (t : Tk) : Int → List En → Bool
  | _, [] => true
  | day, x :: l => t.entB day x && t.entsB x.day l
def Lg.okB (l : Lg) : Bool := l.start.inB l.tk.full && decide (l.es.length ≤ 12) && l.tk.entsB 0 l.es
structure Lg.Ok (l : Lg) : Prop where
  tk : l.tk.Ok
  start : l.start.inB l.tk.full = true
  n12 : l.es.length ≤ 12
  day : ∀ k, k < l.es.length → 0 ≤ (l.e k).day ∧ (l.e k).day ≤ 3652
  mono : ∀ k, k + 1 < l.es.length → (l.e k).day ≤ (l.e (k + 1)).day
  kind : ∀ k, k < l.es.length → 1 ≤ (l.e k).kind ∧ (l.e k).kind ≤ 3
  size : ∀ k, k < l.es.length → (l.e k).size.inB (l.tk.most (l.e k).kind) = true
theorem Sn.inB_iff {s : Sn} {m : Int} : s.inB m = true ↔ 0 ≤ s.lo ∧ s.lo ≤ s.hi ∧ s.hi ≤ m := by
  unfold Sn.inB
  rw [Bool.and_eq_true, inB2, decide_eq_true_eq]; omega
theorem Lg.Ok.sm {l : Lg} (h : l.Ok) {k : Nat} (hk : k < l.es.length) : (l.e k).size.Sm := by
  have h1 := Sn.inB_iff.1 (h.size k hk)
  have h2 := h.tk.full_bd
  have h3 := h.tk.n21
  have h4 := h.tk.n2
  unfold Tk.most Tk.height at h1
  unfold Sn.Sm
  split at h1 <;> omega
def Lg.drip (l : Lg) (i : Nat) : Int := if i = 0 then 0 else l.tk.leak * ((l.e i).day - (l.e (i - 1)).day)
def Lg.before (l : Lg) (i : Nat) (s : Sn) : Sn := ⟨max 0 (s.lo - l.drip i), s.hi⟩
/-- Forth, by a kind. -/
def Tk.forth (t : Tk) (x : En) (s : Sn) : Sn := if x.kind = 1 then (s.add x.size).met t.all else if x.kind = 2 then (s.sub x.size).met t.all else s.met (t.dip x.size)
def Tk.back (t : Tk) (x : En) (s : Sn) : Sn := if x.kind = 1 then (s.sub x.size).met t.all else if x.kind = 2 then (s.add x.size).met t.all else s.met (t.dip x.size)
def Lg.after (l : Lg) (i : Nat) (s : Sn) : Sn := l.tk.forth (l.e i) (l.before i s)
theorem Lg.Ok.drip_bd {l : Lg} (h : l.Ok) {i : Nat} (hi : i < l.es.length) : 0 ≤ l.drip i ∧ l.drip i ≤ 182600 := by
  unfold Lg.drip
  split
  · omega
  · have h1 := h.mono (i - 1) (by omega)
    rw [show i - 1 + 1 = i by omega] at h1
    have h2 := h.day i hi
    have h3 := h.day (i - 1) (by omega)
    have := mul_bd h.tk.leak0 h.tk.leak1 (show 0 ≤ (l.e i).day - (l.e (i - 1)).day by omega) (show (l.e i).day - (l.e (i - 1)).day ≤ 3652 by omega)
    omega

def bookCells (g : Nat) (l : Lg) (a : Option Addr) (cap : Nat) (ae : Option Addr) (cape : Nat) : List Value :=
  [.pointer (some ⟨g, 0, none⟩), .slice a l.tk.n cap, .int .i64 l.tk.leak, .int .i64 l.tk.foot, .int .i64 l.start.lo, .int .i64 l.start.hi, .slice ae l.es.length cape] ++ formsV
/-- A book in memory. -/
structure Bk (w : World) (bk : Nat) (l : Lg) : Prop where
  ok : l.Ok
  ex : ∃ g a cap ae cape, At w bk 0 (bookCells g l a cap ae cape) ∧ Gg w g 0 l.tk ∧ Ens w ae l.es.length cape l.es
theorem Bk.below {w w' : World} {bk : Nat} {l : Lg} (h : Bk w bk l) (hb : Below w.heap.size w w') : Bk w' bk l := by
  obtain ⟨hok, g, a, cap, ae, cape, h1, h2, h3⟩ := h
  exact ⟨hok, g, a, cap, ae, cape, At.old hb h1, h2.below hb, h3.below hb⟩
theorem Bk.st {C : Ctx} {H : List Blk} {bk : Nat} {l : Lg} (h : Bk C.w0 bk l) (w : World) (hw : St C H w) : Bk w bk l := h.below hw.1

theorem drip_any (bk : Nat) (l : Lg) (i : Nat) (w : World) (hB : Bk w bk l) (hi : i < l.es.length) :
    Ct Try.prog 111 #[.pointer (some ⟨bk, 0, none⟩), .int .i64 (i : Int)] w fun v _ => v = .int .i64 (l.drip i) := by
  obtain ⟨hok, g, a, cap, ae, cape, h1, ⟨_, a2, cap2, hg, _⟩, h3⟩ := hB
  obtain ⟨b, o, rfl⟩ := h3.adr (by omega)
  have hd := hok.drip_bd hi
  have h12 := hok.n12
  have hF := wide_wide
  refine Ct_start (args := [_, _]) Try.func111 (by rfl) Try.ntmps111 (by rfl) ?_
  refine W_seq ?_
  refine W_region_lit (fun ds => ?_)
  refine WS_det hF (by rfl) (y_assign (c := .int .i64 _) (by rfl)) ?_
  refine WS_nil ?_
  refine Then_normal ?_
  refine W_seq ?_
  refine W_seq ?_
  refine W_region_lit (fun ds => ?_)
  refine WS_det hF (by rfl) (y_move (c := .int .i64 _) (by rfl)) ?_
  refine WS_det hF (by rfl) (y_eql (by rfl) (by rfl)) ?_
  refine WS_nil ?_
  refine Then_normal ?_
  refine W_cond (by rfl) (fun c1 => ?_) (fun c1 => ?_)
  ·
    try simp only [Bool.not_eq_true', Bool.not_eq_false', decide_eq_true_eq, decide_eq_false_iff_not, ne_eq, Classical.not_not, Int.not_lt, Int.not_le] at c1
    refine W_seq ?_
    refine W_region_lit (fun ds => ?_)
    refine WS_det hF (by rfl) (y_assign (c := .int .i64 _) (by rfl)) ?_
    refine WS_nil ?_
    refine Then_normal ?_
    refine W_ret ?_
    refine Then_ret ?_
    refine Fin_ret [.int .i64 _] [] Try.results111 ⟨by rfl, trivial⟩ HSub.nil ?_
    have hi0 : i = 0 := by omega
    subst hi0
    show Value.int _ _ = _
    rfl
  ·
    try simp only [Bool.not_eq_true', Bool.not_eq_false', decide_eq_true_eq, decide_eq_false_iff_not, ne_eq, Classical.not_not, Int.not_lt, Int.not_le] at c1
    have hi0 : ¬ i = 0 := by omega
    have e1 : At w b (o + i * 4) (l.e i).cells := h3.at hi
    have e0 : At w b (o + (i - 1) * 4) (l.e (i - 1)).cells := h3.at (k := i - 1) (by omega)
    have d1 := hok.day i hi
    have d0 := hok.day (i - 1) (by omega)
    rw [Lg.drip, if_neg hi0] at hd ⊢
    refine W_skip ?_
    refine Then_normal ?_
    refine W_seq ?_
    refine W_draw0 hF Trymixed [] (by decide +kernel) (fun ds => ?_)
    refine P_det (by rfl) (Over_nil (y_move (c := .pointer _) (by rfl))) ?_
    refine P_det (by rfl) (Over_nil (by first | exact y_nilCheck (by rfl) | exact y_nilCheckF (by rfl))) ?_
    refine P_det (by rfl) (Over_nil (y_fieldAddr (by rfl) fa119_0)) ?_
    refine P_det (by rfl) (Over_nil (y_load1 (by rfl) Try.isAgg93 (by first | exact Mem.old1 (by assumption) | exact Mem.oldAt1 (by assumption) (by rfl) | exact Mem.old (by assumption) | exact Mem.oldAtL1 (by assumption) (by rfl) (by rfl)))) ?_
    refine P_det (by rfl) (Over_nil (by first | exact y_nilCheck (by rfl) | exact y_nilCheckF (by rfl))) ?_
    refine P_det (by rfl) (Over_nil (y_fieldAddr (by rfl) fa98_0)) ?_
    refine P_det (by rfl) (Over_nil (y_fieldAddr (by rfl) fa24_1)) ?_
    refine P_det (by rfl) (Over_nil (y_load1 (by rfl) Try.isAgg3 (by first | exact Mem.old1 (by assumption) | exact Mem.oldAt1 (by assumption) (by rfl) | exact Mem.old (by assumption) | exact Mem.oldAtL1 (by assumption) (by rfl) (by rfl)))) ?_
    refine P_det (by rfl) (Over_nil (y_move (c := .pointer _) (by rfl))) ?_
    refine P_det (by rfl) (Over_nil (by first | exact y_nilCheck (by rfl) | exact y_nilCheckF (by rfl))) ?_
    refine P_det (by rfl) (Over_nil (y_fieldAddr (by rfl) fa119_1)) ?_
    refine P_det (by rfl) (Over_nil (y_fieldAddr (by rfl) fa46_2)) ?_
    refine P_det (by rfl) (Over_nil (y_load1 (by rfl) Try.isAgg44 (by first | exact Mem.old1 (by assumption) | exact Mem.oldAt1 (by assumption) (by rfl) | exact Mem.old (by assumption) | exact Mem.oldAtL1 (by assumption) (by rfl) (by rfl)))) ?_
    refine P_det (by rfl) (Over_nil (y_move (c := .int .i64 _) (by rfl))) ?_
    refine P_det (by rfl) (Over_nil (y_index (k := i) (by rfl) (by rfl) (by first | rfl | omega) (by first | decide | omega) Try.runUnderlying44 Try.sizeOf48)) ?_
    refine P_det (by rfl) (Over_nil (y_fieldAddr (by rfl) fa48_0)) ?_
    refine P_det (by rfl) (Over_nil (y_load1 (by rfl) Try.isAgg3 (by first | exact Mem.old1 (by assumption) | exact Mem.oldAt1 (by assumption) (by rfl) | exact Mem.old (by assumption) | exact Mem.oldAtL1 (by assumption) (by rfl) (by rfl)))) ?_
    refine P_det (by rfl) (Over_nil (y_move (c := .pointer _) (by rfl))) ?_
    refine P_det (by rfl) (Over_nil (by first | exact y_nilCheck (by rfl) | exact y_nilCheckF (by rfl))) ?_
    refine P_det (by rfl) (Over_nil (y_fieldAddr (by rfl) fa119_1)) ?_
    refine P_det (by rfl) (Over_nil (y_fieldAddr (by rfl) fa46_2)) ?_
    refine P_det (by rfl) (Over_nil (y_load1 (by rfl) Try.isAgg44 (by first | exact Mem.old1 (by assumption) | exact Mem.oldAt1 (by assumption) (by rfl) | exact Mem.old (by assumption) | exact Mem.oldAtL1 (by assumption) (by rfl) (by rfl)))) ?_
    refine P_det (by rfl) (Over_nil (y_move (c := .int .i64 _) (by rfl))) ?_
    refine P_det (by rfl) (Over_nil (y_sub (by rfl) (by rfl) (by unfold I64; omega))) ?_
    refine P_det (by rfl) (Over_nil (y_index (k := i - 1) (by rfl) (by rfl) (by first | rfl | omega) (by first | decide | omega) Try.runUnderlying44 Try.sizeOf48)) ?_
    refine P_det (by rfl) (Over_nil (y_fieldAddr (by rfl) fa48_0)) ?_
    refine P_det (by rfl) (Over_nil (y_load1 (by rfl) Try.isAgg3 (by first | exact Mem.old1 (by assumption) | exact Mem.oldAt1 (by assumption) (by rfl) | exact Mem.old (by assumption) | exact Mem.oldAtL1 (by assumption) (by rfl) (by rfl)))) ?_
    refine P_det (by rfl) (Over_nil (y_sub (by rfl) (by rfl) (by unfold I64; omega))) ?_
    refine P_det (by rfl) (Over_nil (y_mul (by rfl) (by rfl) (by unfold I64; omega))) ?_
    refine P_det (by rfl) (Over_nil (y_assign (c := .int .i64 _) (by rfl))) ?_
    refine PW_end (by rfl) ?_
    refine OverAll_nil ?_
    rintro -
    refine Then_normal ?_
    refine W_ret ?_
    refine Fin_ret [.int .i64 _] [] Try.results111 ⟨by rfl, trivial⟩ HSub.nil ?_
    rfl
theorem before_any (bk : Nat) (l : Lg) (i : Nat) (s : Sn) (w : World) (hB : Bk w bk l) (hi : i < l.es.length) (hs : s.Sm) :
    Ct Try.prog 108 #[.pointer (some ⟨bk, 0, none⟩), .int .i64 (i : Int), .agg s.cells.toArray] w fun v _ => v = .agg (l.before i s).cells.toArray := by
  have hd := hB.ok.drip_bd hi
  unfold Sn.Sm at hs
  have hF := wide_wide
  refine Ct_start (args := [_, _, _]) Try.func108 (by rfl) Try.ntmps108 (by rfl) ?_
  refine W_seq ?_
  refine W_region_lit (fun ds => ?_)
  refine WS_new hF (by rfl) (y_box (by rfl)) (fun b1 => ?_)
  refine WS_new hF (by rfl) (y_alloc Try.zeroValue26 (by rfl)) (fun b2 => ?_)
  refine WS_nil ?_
  refine Then_normal ?_
  refine W_seq ?_
  apply W_draw1 hF Trymixed [1000000] (i := 0) (by rfl) (by decide +kernel)
  intro ds
  refine P_det (by rfl) (Over_out (by rfl) (Over_nil (y_fieldAddr (by rfl) fa26_0))) ?_
  refine P_det (by rfl) (Over_out (by rfl) (Over_nil (y_load1 (by rfl) Try.isAgg3 (Mem.own1 0 (by rfl) (by rfl))))) ?_
  refine P_det (by rfl) (Over_out (by rfl) (Over_nil (y_move (c := .pointer _) (by rfl)))) ?_
  refine P_det (by rfl) (Over_out (by rfl) (Over_nil (y_move (c := .int .i64 _) (by rfl)))) ?_
  refine P_det (by rfl) (Over_out (by rfl) (Over_nil (y_callL (by rfl) (by rfl) Try.call111 (fun w hw => drip_any bk l i w (hB.st w hw) hi)))) ?_
  refine P_det (by rfl) (Over_out (by rfl) (Over_nil (y_sub (by rfl) (by rfl) (by unfold I64; omega)))) ?_
  refine P_det (by rfl) (Over_out (by rfl) (Over_nil (y_max (by rfl) (by rfl)))) ?_
  refine P_det (by rfl) (Over_out (by rfl) (Over_nil (y_fieldAddr (by rfl) fa26_1))) ?_
  refine P_det (by rfl) (Over_out (by rfl) (Over_nil (y_load1 (by rfl) Try.isAgg3 (Mem.own1 0 (by rfl) (by rfl))))) ?_
  refine P_det (by rfl) (Over_out (by rfl) (Over_nil (y_buildL bd26_0_1 (by rfl)))) ?_
  refine P_st 1000000 0 (by rfl) (by rfl) (by rfl) (by rfl) (by rfl) (Over_nil (st_pre (fun _ => by rfl) (fun _ => by rfl) Try.sizeOf26 (by rfl) (by rfl) (by first | decide | exact Nat.le_of_ble_eq_true rfl | simp))) ?_
  refine PW_end (by rfl) ?_
  refine OverAll_cons (fun w1000000 l1000000 => ?_)
  refine OverAll_nil ?_
  rintro ⟨-, h1000000⟩
  obtain rfl := h1000000
  refine Then_normal ?_
  refine W_ret ?_
  refine Fin_ret [_] [] Try.results108 ⟨lvN (by rfl) Try.isAgg26 Try.sizeOf26 (Mem.own (us := [.int .i64 _, .int .i64 _]) 0 (by rfl) (by rfl)) (by rfl), trivial⟩ HSub.nil ?_
  rfl
theorem after_any (bk : Nat) (l : Lg) (i : Nat) (s : Sn) (w : World) (hB : Bk w bk l) (hi : i < l.es.length) (hs : s.Sm) :
    Ct Try.prog 103 #[.pointer (some ⟨bk, 0, none⟩), .int .i64 (i : Int), .agg s.cells.toArray] w fun v _ => v = .agg (l.after i s).cells.toArray := by
  have hb : (l.before i s).Sm := by
    have hd := hB.ok.drip_bd hi
    unfold Sn.Sm at hs ⊢
    unfold Lg.before
    simp only
    omega
  have hk := hB.ok.kind i hi
  have hz := hB.ok.sm hi
  have hq := hB.ok.size i hi
  have hL0 : l.after i s = l.tk.forth (l.e i) (l.before i s) := rfl
  obtain ⟨g, a, cap, ae, cape, h1, hG, h3⟩ := hB.ex
  obtain ⟨b, o, rfl⟩ := h3.adr (by omega)
  have e1 : At w b (o + i * 4) (l.e i).cells := h3.at hi
  generalize l.e i = x at *
  obtain ⟨d0, k0, z⟩ := x
  simp only at hk hz hq
  obtain rfl | rfl | rfl : k0 = 1 ∨ k0 = 2 ∨ k0 = 3 := by omega
  ·
    have hF := wide_wide
    refine Ct_start (args := [_, _, _]) Try.func103 (by rfl) Try.ntmps103 (by rfl) ?_
    refine W_seq ?_
    refine W_region_lit (fun ds => ?_)
    refine WS_new hF (by rfl) (y_box (by rfl)) (fun b1 => ?_)
    refine WS_new hF (by rfl) (y_alloc Try.zeroValue26 (by rfl)) (fun b2 => ?_)
    refine WS_nil ?_
    refine Then_normal ?_
    refine W_seq ?_
    refine W_region_lit (fun ds => ?_)
    refine WS_det hF (by rfl) (y_move (c := .pointer _) (by rfl)) ?_
    refine WS_det hF (by rfl) (by first | exact y_nilCheck (by rfl) | exact y_nilCheckF (by rfl)) ?_
    refine WS_det hF (by rfl) (y_fieldAddr (by rfl) fa119_1) ?_
    refine WS_det hF (by rfl) (y_fieldAddr (by rfl) fa46_2) ?_
    refine WS_det hF (by rfl) (y_load1 (by rfl) Try.isAgg44 (by first | exact Mem.old1 (by assumption) | exact Mem.oldAt1 (by assumption) (by rfl) | exact Mem.old (by assumption) | exact Mem.oldAtL1 (by assumption) (by rfl) (by rfl))) ?_
    refine WS_det hF (by rfl) (y_move (c := .int .i64 _) (by rfl)) ?_
    refine WS_det hF (by rfl) (y_index (k := i) (by rfl) (by rfl) (by first | rfl | omega) (by first | decide | omega) Try.runUnderlying44 Try.sizeOf48) ?_
    refine WS_det hF (by rfl) (y_loadN (by rfl) Try.isAgg48 Try.sizeOf48 (by first | exact Mem.old (by assumption) | exact Mem.oldAt (us := [.int .i64 _, .int .i64 _, .int .i64 _, .int .i64 _]) (by assumption) (by rfl) | exact Mem.oldAtL (us := [.int .i64 _, .int .i64 _, .int .i64 _, .int .i64 _]) (by assumption) (by rfl) (by rfl)) (by rfl)) ?_
    refine WS_new hF (by rfl) (y_alloc Try.zeroValue48 (by rfl)) (fun b3 => ?_)
    refine WS_store hF (i := 0) (by rfl) (by rfl) Try.sizeOf48 (by rfl) (by rfl) (by rfl) (by first | decide | exact Nat.le_of_ble_eq_true rfl | simp) ?_
    refine WS_nil ?_
    refine Then_normal ?_
    refine W_seq ?_
    apply W_draw1 hF Trymixed [1000000] (i := 1) (by rfl) (by decide +kernel)
    intro ds
    refine P_det (by rfl) (Over_out (by rfl) (Over_nil (y_move (c := .pointer _) (by rfl)))) ?_
    refine P_det (by rfl) (Over_out (by rfl) (Over_nil (y_fieldAddr (by rfl) fa48_1))) ?_
    refine P_det (by rfl) (Over_out (by rfl) (Over_nil (y_load1 (by rfl) Try.isAgg3 (Mem.own1 0 (by rfl) (by rfl))))) ?_
    refine P_det (by rfl) (Over_out (by rfl) (Over_nil (by first | exact y_nilCheck (by rfl) | exact y_nilCheckF (by rfl)))) ?_
    refine P_det (by rfl) (Over_out (by rfl) (Over_nil (y_fieldAddr (by rfl) fa119_2))) ?_
    refine P_det (by rfl) (Over_out (by rfl) (Over_nil (y_indexA (k := 1) (by rfl) (by rfl) (by first | rfl | omega) (by first | decide | omega) Try.runUnderlying117 Try.sizeOf116))) ?_
    refine P_det (by rfl) (Over_out (by rfl) (Over_nil (y_fieldAddr (by rfl) fa116_1))) ?_
    refine P_det (by rfl) (Over_out (by rfl) (Over_nil (y_load1 (by rfl) Try.isAgg114 (by first | exact Mem.old1 (by assumption) | exact Mem.oldAt1 (by assumption) (by rfl) | exact Mem.old (by assumption) | exact Mem.oldAtL1 (by assumption) (by rfl) (by rfl))))) ?_
    refine P_det (by rfl) (Over_out (by rfl) (Over_nil (y_move (c := .pointer _) (by rfl)))) ?_
    refine P_det (by rfl) (Over_out (by rfl) (Over_nil (by first | exact y_nilCheck (by rfl) | exact y_nilCheckF (by rfl)))) ?_
    refine P_det (by rfl) (Over_out (by rfl) (Over_nil (y_fieldAddr (by rfl) fa119_0))) ?_
    refine P_det (by rfl) (Over_out (by rfl) (Over_nil (y_load1 (by rfl) Try.isAgg93 (by first | exact Mem.old1 (by assumption) | exact Mem.oldAt1 (by assumption) (by rfl) | exact Mem.old (by assumption) | exact Mem.oldAtL1 (by assumption) (by rfl) (by rfl))))) ?_
    refine P_det (by rfl) (Over_out (by rfl) (Over_nil (y_fieldAddr (by rfl) fa48_2))) ?_
    refine P_det (by rfl) (Over_out (by rfl) (Over_nil (y_loadN (by rfl) Try.isAgg26 Try.sizeOf26 (Mem.own (us := [.int .i64 _, .int .i64 _]) 0 (by rfl) (by rfl)) (by rfl)))) ?_
    refine P_det (by rfl) (Over_out (by rfl) (Over_nil (y_move (c := .pointer _) (by rfl)))) ?_
    refine P_det (by rfl) (Over_out (by rfl) (Over_nil (y_move (c := .int .i64 _) (by rfl)))) ?_
    refine P_det (by rfl) (Over_out (by rfl) (Over_nil (y_loadN (by rfl) Try.isAgg26 Try.sizeOf26 (Mem.own (us := [.int .i64 _, .int .i64 _]) 1 (by rfl) (by rfl)) (by rfl)))) ?_
    refine P_det (by rfl) (Over_out (by rfl) (Over_nil (y_callL (by rfl) (by rfl) Try.call108 (fun w hw => before_any bk l i s w (hB.st w hw) hi hs)))) ?_
    refine P_det (by rfl) (Over_out (by rfl) (Over_nil (y_callL (by rfl) (by rfl) Try.call136 (fun w hw => more_any g 0 l.tk z (l.before i s) w (hG.st w hw) hz hb)))) ?_
    refine P_st 1000000 0 (by rfl) (by rfl) (by rfl) (by rfl) (by rfl) (Over_nil (st_pre (fun _ => by rfl) (fun _ => by rfl) Try.sizeOf26 (by rfl) (by rfl) (by first | decide | exact Nat.le_of_ble_eq_true rfl | simp))) ?_
    refine PW_end (by rfl) ?_
    refine OverAll_cons (fun w1000000 l1000000 => ?_)
    refine OverAll_nil ?_
    rintro ⟨-, h1000000⟩
    obtain rfl := h1000000
    refine Then_normal ?_
    refine W_ret ?_
    refine Fin_ret [_] [] Try.results103 ⟨lvN (by rfl) Try.isAgg26 Try.sizeOf26 (Mem.own (us := [.int .i64 _, .int .i64 _]) 0 (by rfl) (by rfl)) (by rfl), trivial⟩ HSub.nil ?_
    show Value.agg _ = _
    rw [hL0]; rfl
  ·
    have hF := wide_wide
    refine Ct_start (args := [_, _, _]) Try.func103 (by rfl) Try.ntmps103 (by rfl) ?_
    refine W_seq ?_
    refine W_region_lit (fun ds => ?_)
    refine WS_new hF (by rfl) (y_box (by rfl)) (fun b1 => ?_)
    refine WS_new hF (by rfl) (y_alloc Try.zeroValue26 (by rfl)) (fun b2 => ?_)
    refine WS_nil ?_
    refine Then_normal ?_
    refine W_seq ?_
    refine W_region_lit (fun ds => ?_)
    refine WS_det hF (by rfl) (y_move (c := .pointer _) (by rfl)) ?_
    refine WS_det hF (by rfl) (by first | exact y_nilCheck (by rfl) | exact y_nilCheckF (by rfl)) ?_
    refine WS_det hF (by rfl) (y_fieldAddr (by rfl) fa119_1) ?_
    refine WS_det hF (by rfl) (y_fieldAddr (by rfl) fa46_2) ?_
    refine WS_det hF (by rfl) (y_load1 (by rfl) Try.isAgg44 (by first | exact Mem.old1 (by assumption) | exact Mem.oldAt1 (by assumption) (by rfl) | exact Mem.old (by assumption) | exact Mem.oldAtL1 (by assumption) (by rfl) (by rfl))) ?_
    refine WS_det hF (by rfl) (y_move (c := .int .i64 _) (by rfl)) ?_
    refine WS_det hF (by rfl) (y_index (k := i) (by rfl) (by rfl) (by first | rfl | omega) (by first | decide | omega) Try.runUnderlying44 Try.sizeOf48) ?_
    refine WS_det hF (by rfl) (y_loadN (by rfl) Try.isAgg48 Try.sizeOf48 (by first | exact Mem.old (by assumption) | exact Mem.oldAt (us := [.int .i64 _, .int .i64 _, .int .i64 _, .int .i64 _]) (by assumption) (by rfl) | exact Mem.oldAtL (us := [.int .i64 _, .int .i64 _, .int .i64 _, .int .i64 _]) (by assumption) (by rfl) (by rfl)) (by rfl)) ?_
    refine WS_new hF (by rfl) (y_alloc Try.zeroValue48 (by rfl)) (fun b3 => ?_)
    refine WS_store hF (i := 0) (by rfl) (by rfl) Try.sizeOf48 (by rfl) (by rfl) (by rfl) (by first | decide | exact Nat.le_of_ble_eq_true rfl | simp) ?_
    refine WS_nil ?_
    refine Then_normal ?_
    refine W_seq ?_
    apply W_draw1 hF Trymixed [1000000] (i := 1) (by rfl) (by decide +kernel)
    intro ds
    refine P_det (by rfl) (Over_out (by rfl) (Over_nil (y_move (c := .pointer _) (by rfl)))) ?_
    refine P_det (by rfl) (Over_out (by rfl) (Over_nil (y_fieldAddr (by rfl) fa48_1))) ?_
    refine P_det (by rfl) (Over_out (by rfl) (Over_nil (y_load1 (by rfl) Try.isAgg3 (Mem.own1 0 (by rfl) (by rfl))))) ?_
    refine P_det (by rfl) (Over_out (by rfl) (Over_nil (by first | exact y_nilCheck (by rfl) | exact y_nilCheckF (by rfl)))) ?_
    refine P_det (by rfl) (Over_out (by rfl) (Over_nil (y_fieldAddr (by rfl) fa119_2))) ?_
    refine P_det (by rfl) (Over_out (by rfl) (Over_nil (y_indexA (k := 2) (by rfl) (by rfl) (by first | rfl | omega) (by first | decide | omega) Try.runUnderlying117 Try.sizeOf116))) ?_
    refine P_det (by rfl) (Over_out (by rfl) (Over_nil (y_fieldAddr (by rfl) fa116_1))) ?_
    refine P_det (by rfl) (Over_out (by rfl) (Over_nil (y_load1 (by rfl) Try.isAgg114 (by first | exact Mem.old1 (by assumption) | exact Mem.oldAt1 (by assumption) (by rfl) | exact Mem.old (by assumption) | exact Mem.oldAtL1 (by assumption) (by rfl) (by rfl))))) ?_
    refine P_det (by rfl) (Over_out (by rfl) (Over_nil (y_move (c := .pointer _) (by rfl)))) ?_
    refine P_det (by rfl) (Over_out (by rfl) (Over_nil (by first | exact y_nilCheck (by rfl) | exact y_nilCheckF (by rfl)))) ?_
    refine P_det (by rfl) (Over_out (by rfl) (Over_nil (y_fieldAddr (by rfl) fa119_0))) ?_
    refine P_det (by rfl) (Over_out (by rfl) (Over_nil (y_load1 (by rfl) Try.isAgg93 (by first | exact Mem.old1 (by assumption) | exact Mem.oldAt1 (by assumption) (by rfl) | exact Mem.old (by assumption) | exact Mem.oldAtL1 (by assumption) (by rfl) (by rfl))))) ?_
    refine P_det (by rfl) (Over_out (by rfl) (Over_nil (y_fieldAddr (by rfl) fa48_2))) ?_
    refine P_det (by rfl) (Over_out (by rfl) (Over_nil (y_loadN (by rfl) Try.isAgg26 Try.sizeOf26 (Mem.own (us := [.int .i64 _, .int .i64 _]) 0 (by rfl) (by rfl)) (by rfl)))) ?_
    refine P_det (by rfl) (Over_out (by rfl) (Over_nil (y_move (c := .pointer _) (by rfl)))) ?_
    refine P_det (by rfl) (Over_out (by rfl) (Over_nil (y_move (c := .int .i64 _) (by rfl)))) ?_
    refine P_det (by rfl) (Over_out (by rfl) (Over_nil (y_loadN (by rfl) Try.isAgg26 Try.sizeOf26 (Mem.own (us := [.int .i64 _, .int .i64 _]) 1 (by rfl) (by rfl)) (by rfl)))) ?_
    refine P_det (by rfl) (Over_out (by rfl) (Over_nil (y_callL (by rfl) (by rfl) Try.call108 (fun w hw => before_any bk l i s w (hB.st w hw) hi hs)))) ?_
    refine P_det (by rfl) (Over_out (by rfl) (Over_nil (y_callL (by rfl) (by rfl) Try.call137 (fun w hw => tless_any g 0 l.tk z (l.before i s) w (hG.st w hw) hz hb)))) ?_
    refine P_st 1000000 0 (by rfl) (by rfl) (by rfl) (by rfl) (by rfl) (Over_nil (st_pre (fun _ => by rfl) (fun _ => by rfl) Try.sizeOf26 (by rfl) (by rfl) (by first | decide | exact Nat.le_of_ble_eq_true rfl | simp))) ?_
    refine PW_end (by rfl) ?_
    refine OverAll_cons (fun w1000000 l1000000 => ?_)
    refine OverAll_nil ?_
    rintro ⟨-, h1000000⟩
    obtain rfl := h1000000
    refine Then_normal ?_
    refine W_ret ?_
    refine Fin_ret [_] [] Try.results103 ⟨lvN (by rfl) Try.isAgg26 Try.sizeOf26 (Mem.own (us := [.int .i64 _, .int .i64 _]) 0 (by rfl) (by rfl)) (by rfl), trivial⟩ HSub.nil ?_
    show Value.agg _ = _
    rw [hL0]; rfl
  ·
    have hF := wide_wide
    refine Ct_start (args := [_, _, _]) Try.func103 (by rfl) Try.ntmps103 (by rfl) ?_
    refine W_seq ?_
    refine W_region_lit (fun ds => ?_)
    refine WS_new hF (by rfl) (y_box (by rfl)) (fun b1 => ?_)
    refine WS_new hF (by rfl) (y_alloc Try.zeroValue26 (by rfl)) (fun b2 => ?_)
    refine WS_nil ?_
    refine Then_normal ?_
    refine W_seq ?_
    refine W_region_lit (fun ds => ?_)
    refine WS_det hF (by rfl) (y_move (c := .pointer _) (by rfl)) ?_
    refine WS_det hF (by rfl) (by first | exact y_nilCheck (by rfl) | exact y_nilCheckF (by rfl)) ?_
    refine WS_det hF (by rfl) (y_fieldAddr (by rfl) fa119_1) ?_
    refine WS_det hF (by rfl) (y_fieldAddr (by rfl) fa46_2) ?_
    refine WS_det hF (by rfl) (y_load1 (by rfl) Try.isAgg44 (by first | exact Mem.old1 (by assumption) | exact Mem.oldAt1 (by assumption) (by rfl) | exact Mem.old (by assumption) | exact Mem.oldAtL1 (by assumption) (by rfl) (by rfl))) ?_
    refine WS_det hF (by rfl) (y_move (c := .int .i64 _) (by rfl)) ?_
    refine WS_det hF (by rfl) (y_index (k := i) (by rfl) (by rfl) (by first | rfl | omega) (by first | decide | omega) Try.runUnderlying44 Try.sizeOf48) ?_
    refine WS_det hF (by rfl) (y_loadN (by rfl) Try.isAgg48 Try.sizeOf48 (by first | exact Mem.old (by assumption) | exact Mem.oldAt (us := [.int .i64 _, .int .i64 _, .int .i64 _, .int .i64 _]) (by assumption) (by rfl) | exact Mem.oldAtL (us := [.int .i64 _, .int .i64 _, .int .i64 _, .int .i64 _]) (by assumption) (by rfl) (by rfl)) (by rfl)) ?_
    refine WS_new hF (by rfl) (y_alloc Try.zeroValue48 (by rfl)) (fun b3 => ?_)
    refine WS_store hF (i := 0) (by rfl) (by rfl) Try.sizeOf48 (by rfl) (by rfl) (by rfl) (by first | decide | exact Nat.le_of_ble_eq_true rfl | simp) ?_
    refine WS_nil ?_
    refine Then_normal ?_
    refine W_seq ?_
    apply W_draw1 hF Trymixed [1000000] (i := 1) (by rfl) (by decide +kernel)
    intro ds
    refine P_det (by rfl) (Over_out (by rfl) (Over_nil (y_move (c := .pointer _) (by rfl)))) ?_
    refine P_det (by rfl) (Over_out (by rfl) (Over_nil (y_fieldAddr (by rfl) fa48_1))) ?_
    refine P_det (by rfl) (Over_out (by rfl) (Over_nil (y_load1 (by rfl) Try.isAgg3 (Mem.own1 0 (by rfl) (by rfl))))) ?_
    refine P_det (by rfl) (Over_out (by rfl) (Over_nil (by first | exact y_nilCheck (by rfl) | exact y_nilCheckF (by rfl)))) ?_
    refine P_det (by rfl) (Over_out (by rfl) (Over_nil (y_fieldAddr (by rfl) fa119_2))) ?_
    refine P_det (by rfl) (Over_out (by rfl) (Over_nil (y_indexA (k := 3) (by rfl) (by rfl) (by first | rfl | omega) (by first | decide | omega) Try.runUnderlying117 Try.sizeOf116))) ?_
    refine P_det (by rfl) (Over_out (by rfl) (Over_nil (y_fieldAddr (by rfl) fa116_1))) ?_
    refine P_det (by rfl) (Over_out (by rfl) (Over_nil (y_load1 (by rfl) Try.isAgg114 (by first | exact Mem.old1 (by assumption) | exact Mem.oldAt1 (by assumption) (by rfl) | exact Mem.old (by assumption) | exact Mem.oldAtL1 (by assumption) (by rfl) (by rfl))))) ?_
    refine P_det (by rfl) (Over_out (by rfl) (Over_nil (y_move (c := .pointer _) (by rfl)))) ?_
    refine P_det (by rfl) (Over_out (by rfl) (Over_nil (by first | exact y_nilCheck (by rfl) | exact y_nilCheckF (by rfl)))) ?_
    refine P_det (by rfl) (Over_out (by rfl) (Over_nil (y_fieldAddr (by rfl) fa119_0))) ?_
    refine P_det (by rfl) (Over_out (by rfl) (Over_nil (y_load1 (by rfl) Try.isAgg93 (by first | exact Mem.old1 (by assumption) | exact Mem.oldAt1 (by assumption) (by rfl) | exact Mem.old (by assumption) | exact Mem.oldAtL1 (by assumption) (by rfl) (by rfl))))) ?_
    refine P_det (by rfl) (Over_out (by rfl) (Over_nil (y_fieldAddr (by rfl) fa48_2))) ?_
    refine P_det (by rfl) (Over_out (by rfl) (Over_nil (y_loadN (by rfl) Try.isAgg26 Try.sizeOf26 (Mem.own (us := [.int .i64 _, .int .i64 _]) 0 (by rfl) (by rfl)) (by rfl)))) ?_
    refine P_det (by rfl) (Over_out (by rfl) (Over_nil (y_move (c := .pointer _) (by rfl)))) ?_
    refine P_det (by rfl) (Over_out (by rfl) (Over_nil (y_move (c := .int .i64 _) (by rfl)))) ?_
    refine P_det (by rfl) (Over_out (by rfl) (Over_nil (y_loadN (by rfl) Try.isAgg26 Try.sizeOf26 (Mem.own (us := [.int .i64 _, .int .i64 _]) 1 (by rfl) (by rfl)) (by rfl)))) ?_
    refine P_det (by rfl) (Over_out (by rfl) (Over_nil (y_callL (by rfl) (by rfl) Try.call108 (fun w hw => before_any bk l i s w (hB.st w hw) hi hs)))) ?_
    refine P_det (by rfl) (Over_out (by rfl) (Over_nil (y_callL (by rfl) (by rfl) Try.call139 (fun w hw => seen_any g 0 l.tk z (l.before i s) w (hG.st w hw) hq)))) ?_
    refine P_st 1000000 0 (by rfl) (by rfl) (by rfl) (by rfl) (by rfl) (Over_nil (st_pre (fun _ => by rfl) (fun _ => by rfl) Try.sizeOf26 (by rfl) (by rfl) (by first | decide | exact Nat.le_of_ble_eq_true rfl | simp))) ?_
    refine PW_end (by rfl) ?_
    refine OverAll_cons (fun w1000000 l1000000 => ?_)
    refine OverAll_nil ?_
    rintro ⟨-, h1000000⟩
    obtain rfl := h1000000
    refine Then_normal ?_
    refine W_ret ?_
    refine Fin_ret [_] [] Try.results103 ⟨lvN (by rfl) Try.isAgg26 Try.sizeOf26 (Mem.own (us := [.int .i64 _, .int .i64 _]) 0 (by rfl) (by rfl)) (by rfl), trivial⟩ HSub.nil ?_
    show Value.agg _ = _
    rw [hL0]; rfl
end Go.Proofs.Ythkimgfgpphgnaa.T
