/- Spans, entries, logs in memory; the forms of entries. -/
import Derived.Test.YthkimgfgpphgnaaTkG
namespace Go.Proofs.Ythkimgfgpphgnaa.T
open Go.RowKit Go.Proofs Go.Eng
set_option maxRecDepth 100000
set_option linter.unusedVariables false
set_option linter.unusedSimpArgs false

theorem bd116_0_1_2 {x0f : Go.Fn} {x0x x0y : Array Value} {x1f : Go.Fn} {x1x x1y : Array Value} {x2f : Go.Fn} {x2x x2y : Array Value} : ∀ w, (Instr.build 116 #[(0, .func x0f x0x x0y), (1, .func x1f x1x x1y), (2, .func x2f x2x x2y)]).run Try.prog w = .ok (.agg #[.func x0f x0x x0y, .func x1f x1x x1y, .func x2f x2x x2y]) w := fun w => by kernel_rfl
theorem bd117_1_2_3 {x1_0 : Value} {x1_1 : Value} {x1_2 : Value} {x2_0 : Value} {x2_1 : Value} {x2_2 : Value} {x3_0 : Value} {x3_1 : Value} {x3_2 : Value} : ∀ w, (Instr.build 117 #[(1, .agg #[x1_0, x1_1, x1_2]), (2, .agg #[x2_0, x2_1, x2_2]), (3, .agg #[x3_0, x3_1, x3_2])]).run Try.prog w = .ok (.agg #[.nilFunc, .nilFunc, .nilFunc, x1_0, x1_1, x1_2, x2_0, x2_1, x2_2, x3_0, x3_1, x3_2]) w := fun w => by kernel_rfl
theorem bd26_1 {x1 : Int} : ∀ w, (Instr.build 26 #[(1, .int .i64 x1)]).run Try.prog w = .ok (.agg #[.int .i64 0, .int .i64 x1]) w := fun w => by kernel_rfl

/-- A slice whose elements read as a list. -/
structure Rws {α : Type} (enc : α → List Value) (sz : Nat) (d : α) (w : World) (a : Option Addr) (n cap : Nat) (xs : List α) : Prop where
  len : xs.length = n
  le : n ≤ cap
  cell : ∀ k, k < n → ∃ b o, a = some ⟨b, o, none⟩ ∧ At w b (o + k * sz) (enc (xs.getD k d))
section
variable {α : Type} {enc : α → List Value} {sz : Nat} {d : α} {w w' : World} {a : Option Addr} {n cap : Nat} {xs : List α}
theorem Rws.below (h : Rws enc sz d w a n cap xs) (hb : Below w.heap.size w w') : Rws enc sz d w' a n cap xs :=
  ⟨h.len, h.le, fun k hk => by obtain ⟨b, o, h1, h2⟩ := h.cell k hk; exact ⟨b, o, h1, At.old hb h2⟩⟩
theorem Rws.st {C : Ctx} {H : List Blk} (h : Rws enc sz d C.w0 a n cap xs) (w : World) (hw : St C H w) : Rws enc sz d w a n cap xs := h.below hw.1
theorem Rws.at {b o : Nat} (h : Rws enc sz d w (some ⟨b, o, none⟩) n cap xs) {k : Nat} (hk : k < n) : At w b (o + k * sz) (enc (xs.getD k d)) := by
  obtain ⟨b', o', h1, h2⟩ := h.cell k hk
  simp only [Option.some.injEq, Addr.mk.injEq] at h1
  obtain ⟨rfl, rfl, _⟩ := h1
  exact h2
theorem Rws.adr (h : Rws enc sz d w a n cap xs) (hn : 0 < n) : ∃ b o, a = some ⟨b, o, none⟩ := by
  obtain ⟨b, o, h1, _⟩ := h.cell 0 hn
  exact ⟨b, o, h1⟩
theorem Rws.nil (w : World) (a : Option Addr) (cap : Nat) : Rws enc sz d w a 0 cap [] := ⟨rfl, Nat.zero_le _, fun k hk => by omega⟩
end

structure Sn where
  lo : Int
  hi : Int
deriving DecidableEq
def Sn.cells (s : Sn) : List Value := [.int .i64 s.lo, .int .i64 s.hi]
def Sn.z : Sn := ⟨0, 0⟩
structure En where
  day : Int
  kind : Int
  size : Sn
deriving DecidableEq
def En.cells (x : En) : List Value := [.int .i64 x.day, .int .i64 x.kind, .int .i64 x.size.lo, .int .i64 x.size.hi]
def En.z : En := ⟨0, 0, Sn.z⟩
abbrev Ens := Rws En.cells 4 En.z
abbrev Sns := Rws Sn.cells 2 Sn.z
structure Lg where
  tk : Tk
  start : Sn
  es : List En
def Sn.met (a b : Sn) : Sn := ⟨max a.lo b.lo, min a.hi b.hi⟩
def Sn.inB (s : Sn) (m : Int) : Bool := T.inB 0 m [s.lo, s.hi] && decide (s.lo ≤ s.hi)
def Tk.dip (t : Tk) (s : Sn) : Sn := ⟨t.up s.lo, t.down s.hi⟩
def Tk.all (t : Tk) : Sn := ⟨0, t.full⟩
def Sn.add (a b : Sn) : Sn := ⟨a.lo + b.lo, a.hi + b.hi⟩
def Sn.sub (a b : Sn) : Sn := ⟨a.lo - b.hi, a.hi - b.lo⟩
/-- Small enough for sums. -/
def Sn.Sm (s : Sn) : Prop := -1000000000 ≤ s.lo ∧ s.lo ≤ 1000000000 ∧ -1000000000 ≤ s.hi ∧ s.hi ≤ 1000000000

def formsV : List Value := [.nilFunc, .nilFunc, .nilFunc, .func (.func 135) #[] #[], .func (.func 136) #[] #[], .func (.func 137) #[] #[],
  .func (.func 135) #[] #[], .func (.func 137) #[] #[], .func (.func 136) #[] #[], .func (.func 138) #[] #[], .func (.func 139) #[] #[], .func (.func 139) #[] #[]]

theorem forms_any (w : World) : Ct Try.prog 124 #[] w fun v _ => v = .agg formsV.toArray := by
  have hF := wide_wide
  refine Ct_start (args := []) Try.func124 (by rfl) Try.ntmps124 (by rfl) ?_
  refine W_seq ?_
  refine W_region_lit (fun ds => ?_)
  refine WS_new hF (by rfl) (y_alloc Try.zeroValue117 (by rfl)) (fun b1 => ?_)
  refine WS_nil ?_
  refine Then_normal ?_
  refine W_seq ?_
  refine W_region_lit (fun ds => ?_)
  refine WS_det hF (by rfl) (y_assign (c := _) (by rfl)) ?_
  refine WS_nil ?_
  refine Then_normal ?_
  refine W_seq ?_
  refine W_region_lit (fun ds => ?_)
  refine WS_det hF (by rfl) (y_move (c := _) (by rfl)) ?_
  refine WS_det hF (by rfl) (y_buildL bd116_0_1_2 (by rfl)) ?_
  refine WS_det hF (by rfl) (y_move (c := _) (by rfl)) ?_
  refine WS_det hF (by rfl) (y_buildL bd116_0_1_2 (by rfl)) ?_
  refine WS_det hF (by rfl) (y_buildL bd116_0_1_2 (by rfl)) ?_
  refine WS_det hF (by rfl) (y_buildL bd117_1_2_3 (by rfl)) ?_
  refine WS_store hF (i := 0) (by rfl) (by rfl) Try.sizeOf117 (by rfl) (by rfl) (by rfl) (by first | decide | exact Nat.le_of_ble_eq_true rfl | simp) ?_
  refine WS_nil ?_
  refine Then_normal ?_
  refine W_ret ?_
  refine Fin_ret [_] [] Try.results124 ⟨lvN (by rfl) Try.isAgg117 Try.sizeOf117 (Mem.own (us := [_, _, _, _, _, _, _, _, _, _, _, _]) 0 (by rfl) (by rfl)) (by rfl), trivial⟩ HSub.nil ?_
  rfl
theorem forms1_any (g og : Nat) (t : Tk) (x y : Int) (w : World) (hG : Gg w g og t) :
    Ct Try.prog 135 #[.pointer (some ⟨g, og, none⟩), .agg #[.int .i64 x, .int .i64 y]] w fun v _ => v = .bool (Sn.inB ⟨x, y⟩ t.full) := by
  obtain ⟨hok, a, cap, hg, hx⟩ := hG
  have hF := wide_wide
  refine Ct_start (args := [_, _]) Try.func135 (by rfl) Try.ntmps135 (by rfl) ?_
  refine W_seq ?_
  refine W_region_lit (fun ds => ?_)
  refine WS_new hF (by rfl) (y_box (by rfl)) (fun b1 => ?_)
  refine WS_det hF (by rfl) (y_assign (c := .bool _) (by rfl)) ?_
  refine WS_nil ?_
  refine Then_normal ?_
  refine W_seq ?_
  refine W_draw0 hF Trymixed [] (by decide +kernel) (fun ds => ?_)
  refine P_det (by rfl) (Over_nil (y_loadN (by rfl) Try.isAgg26 Try.sizeOf26 (Mem.own (us := [.int .i64 _, .int .i64 _]) 0 (by rfl) (by rfl)) (by rfl))) ?_
  refine P_det (by rfl) (Over_nil (y_move (c := .pointer _) (by rfl))) ?_
  refine P_det (by rfl) (Over_nil (by first | exact y_nilCheck (by rfl) | exact y_nilCheckF (by rfl))) ?_
  refine P_det (by rfl) (Over_nil (y_fieldAddr (by rfl) fa98_1)) ?_
  refine P_det (by rfl) (Over_nil (y_load1 (by rfl) Try.isAgg3 (by first | exact Mem.old1 (by assumption) | exact Mem.oldAt1 (by assumption) (by rfl) | exact Mem.old (by assumption) | exact Mem.oldAtL1 (by assumption) (by rfl) (by rfl)))) ?_
  refine P_det (by rfl) (Over_nil (y_callL (by rfl) (by rfl) Try.call72 (fun w hw => span_any _ _ _ w))) ?_
  refine P_det (by rfl) (Over_nil (y_assign (c := .bool _) (by rfl))) ?_
  refine PW_end (by rfl) ?_
  refine OverAll_nil ?_
  rintro -
  refine Then_normal ?_
  refine W_ret ?_
  refine Fin_ret [.bool _] [] Try.results135 ⟨by rfl, trivial⟩ HSub.nil ?_
  rfl
theorem forms2_any (g og : Nat) (t : Tk) (x y : Int) (w : World) (hG : Gg w g og t) :
    Ct Try.prog 138 #[.pointer (some ⟨g, og, none⟩), .agg #[.int .i64 x, .int .i64 y]] w fun v _ => v = .bool (Sn.inB ⟨x, y⟩ t.height) := by
  obtain ⟨hok, a, cap, hg, hx⟩ := hG
  have hF := wide_wide
  refine Ct_start (args := [_, _]) Try.func138 (by rfl) Try.ntmps138 (by rfl) ?_
  refine W_seq ?_
  refine W_region_lit (fun ds => ?_)
  refine WS_new hF (by rfl) (y_box (by rfl)) (fun b1 => ?_)
  refine WS_det hF (by rfl) (y_assign (c := .bool _) (by rfl)) ?_
  refine WS_nil ?_
  refine Then_normal ?_
  refine W_seq ?_
  refine W_draw0 hF Trymixed [] (by decide +kernel) (fun ds => ?_)
  refine P_det (by rfl) (Over_nil (y_loadN (by rfl) Try.isAgg26 Try.sizeOf26 (Mem.own (us := [.int .i64 _, .int .i64 _]) 0 (by rfl) (by rfl)) (by rfl))) ?_
  refine P_det (by rfl) (Over_nil (y_move (c := .pointer _) (by rfl))) ?_
  refine P_det (by rfl) (Over_nil (by first | exact y_nilCheck (by rfl) | exact y_nilCheckF (by rfl))) ?_
  refine P_det (by rfl) (Over_nil (y_fieldAddr (by rfl) fa98_2)) ?_
  refine P_det (by rfl) (Over_nil (y_load1 (by rfl) Try.isAgg3 (by first | exact Mem.old1 (by assumption) | exact Mem.oldAt1 (by assumption) (by rfl) | exact Mem.old (by assumption) | exact Mem.oldAtL1 (by assumption) (by rfl) (by rfl)))) ?_
  refine P_det (by rfl) (Over_nil (y_callL (by rfl) (by rfl) Try.call72 (fun w hw => span_any _ _ _ w))) ?_
  refine P_det (by rfl) (Over_nil (y_assign (c := .bool _) (by rfl))) ?_
  refine PW_end (by rfl) ?_
  refine OverAll_nil ?_
  rintro -
  refine Then_normal ?_
  refine W_ret ?_
  refine Fin_ret [.bool _] [] Try.results138 ⟨by rfl, trivial⟩ HSub.nil ?_
  rfl
theorem more_any (g og : Nat) (t : Tk) (s h : Sn) (w : World) (hG : Gg w g og t) (hs : s.Sm) (hh : h.Sm) :
    Ct Try.prog 136 #[.pointer (some ⟨g, og, none⟩), .agg s.cells.toArray, .agg h.cells.toArray] w fun v _ => v = .agg ((h.add s).met t.all).cells.toArray := by
  obtain ⟨hok, a, cap, hg, hx⟩ := hG
  unfold Sn.Sm at hs hh
  have hF := wide_wide
  refine Ct_start (args := [_, _, _]) Try.func136 (by rfl) Try.ntmps136 (by rfl) ?_
  refine W_seq ?_
  refine W_region_lit (fun ds => ?_)
  refine WS_new hF (by rfl) (y_box (by rfl)) (fun b1 => ?_)
  refine WS_new hF (by rfl) (y_box (by rfl)) (fun b2 => ?_)
  refine WS_new hF (by rfl) (y_alloc Try.zeroValue26 (by rfl)) (fun b3 => ?_)
  refine WS_nil ?_
  refine Then_normal ?_
  refine W_seq ?_
  apply W_draw1 hF Trymixed [1000000] (i := 0) (by rfl) (by decide +kernel)
  intro ds
  refine P_det (by rfl) (Over_out (by rfl) (Over_nil (y_fieldAddr (by rfl) fa26_0))) ?_
  refine P_det (by rfl) (Over_out (by rfl) (Over_nil (y_load1 (by rfl) Try.isAgg3 (Mem.own1 0 (by rfl) (by rfl))))) ?_
  refine P_det (by rfl) (Over_out (by rfl) (Over_nil (y_fieldAddr (by rfl) fa26_0))) ?_
  refine P_det (by rfl) (Over_out (by rfl) (Over_nil (y_load1 (by rfl) Try.isAgg3 (Mem.own1 1 (by rfl) (by rfl))))) ?_
  refine P_det (by rfl) (Over_out (by rfl) (Over_nil (y_add (by rfl) (by rfl) (by unfold I64; omega)))) ?_
  refine P_det (by rfl) (Over_out (by rfl) (Over_nil (y_fieldAddr (by rfl) fa26_1))) ?_
  refine P_det (by rfl) (Over_out (by rfl) (Over_nil (y_load1 (by rfl) Try.isAgg3 (Mem.own1 0 (by rfl) (by rfl))))) ?_
  refine P_det (by rfl) (Over_out (by rfl) (Over_nil (y_fieldAddr (by rfl) fa26_1))) ?_
  refine P_det (by rfl) (Over_out (by rfl) (Over_nil (y_load1 (by rfl) Try.isAgg3 (Mem.own1 1 (by rfl) (by rfl))))) ?_
  refine P_det (by rfl) (Over_out (by rfl) (Over_nil (y_add (by rfl) (by rfl) (by unfold I64; omega)))) ?_
  refine P_det (by rfl) (Over_out (by rfl) (Over_nil (y_buildL bd26_0_1 (by rfl)))) ?_
  refine P_det (by rfl) (Over_out (by rfl) (Over_nil (y_move (c := .pointer _) (by rfl)))) ?_
  refine P_det (by rfl) (Over_out (by rfl) (Over_nil (by first | exact y_nilCheck (by rfl) | exact y_nilCheckF (by rfl)))) ?_
  refine P_det (by rfl) (Over_out (by rfl) (Over_nil (y_fieldAddr (by rfl) fa98_1))) ?_
  refine P_det (by rfl) (Over_out (by rfl) (Over_nil (y_load1 (by rfl) Try.isAgg3 (by first | exact Mem.old1 (by assumption) | exact Mem.oldAt1 (by assumption) (by rfl) | exact Mem.old (by assumption) | exact Mem.oldAtL1 (by assumption) (by rfl) (by rfl))))) ?_
  refine P_det (by rfl) (Over_out (by rfl) (Over_nil (y_buildL bd26_1 (by rfl)))) ?_
  refine P_det (by rfl) (Over_out (by rfl) (Over_nil (y_callL (by rfl) (by rfl) Try.call109 (fun w hw => met_any _ _ _ _ w)))) ?_
  refine P_st 1000000 0 (by rfl) (by rfl) (by rfl) (by rfl) (by rfl) (Over_nil (st_pre (fun _ => by rfl) (fun _ => by rfl) Try.sizeOf26 (by rfl) (by rfl) (by first | decide | exact Nat.le_of_ble_eq_true rfl | simp))) ?_
  refine PW_end (by rfl) ?_
  refine OverAll_cons (fun w1000000 l1000000 => ?_)
  refine OverAll_nil ?_
  rintro ⟨-, h1000000⟩
  obtain rfl := h1000000
  refine Then_normal ?_
  refine W_ret ?_
  refine Fin_ret [_] [] Try.results136 ⟨lvN (by rfl) Try.isAgg26 Try.sizeOf26 (Mem.own (us := [.int .i64 _, .int .i64 _]) 0 (by rfl) (by rfl)) (by rfl), trivial⟩ HSub.nil ?_
  rfl
theorem tless_any (g og : Nat) (t : Tk) (s h : Sn) (w : World) (hG : Gg w g og t) (hs : s.Sm) (hh : h.Sm) :
    Ct Try.prog 137 #[.pointer (some ⟨g, og, none⟩), .agg s.cells.toArray, .agg h.cells.toArray] w fun v _ => v = .agg ((h.sub s).met t.all).cells.toArray := by
  obtain ⟨hok, a, cap, hg, hx⟩ := hG
  unfold Sn.Sm at hs hh
  have hF := wide_wide
  refine Ct_start (args := [_, _, _]) Try.func137 (by rfl) Try.ntmps137 (by rfl) ?_
  refine W_seq ?_
  refine W_region_lit (fun ds => ?_)
  refine WS_new hF (by rfl) (y_box (by rfl)) (fun b1 => ?_)
  refine WS_new hF (by rfl) (y_box (by rfl)) (fun b2 => ?_)
  refine WS_new hF (by rfl) (y_alloc Try.zeroValue26 (by rfl)) (fun b3 => ?_)
  refine WS_nil ?_
  refine Then_normal ?_
  refine W_seq ?_
  apply W_draw1 hF Trymixed [1000000] (i := 0) (by rfl) (by decide +kernel)
  intro ds
  refine P_det (by rfl) (Over_out (by rfl) (Over_nil (y_fieldAddr (by rfl) fa26_0))) ?_
  refine P_det (by rfl) (Over_out (by rfl) (Over_nil (y_load1 (by rfl) Try.isAgg3 (Mem.own1 0 (by rfl) (by rfl))))) ?_
  refine P_det (by rfl) (Over_out (by rfl) (Over_nil (y_fieldAddr (by rfl) fa26_1))) ?_
  refine P_det (by rfl) (Over_out (by rfl) (Over_nil (y_load1 (by rfl) Try.isAgg3 (Mem.own1 1 (by rfl) (by rfl))))) ?_
  refine P_det (by rfl) (Over_out (by rfl) (Over_nil (y_sub (by rfl) (by rfl) (by unfold I64; omega)))) ?_
  refine P_det (by rfl) (Over_out (by rfl) (Over_nil (y_fieldAddr (by rfl) fa26_1))) ?_
  refine P_det (by rfl) (Over_out (by rfl) (Over_nil (y_load1 (by rfl) Try.isAgg3 (Mem.own1 0 (by rfl) (by rfl))))) ?_
  refine P_det (by rfl) (Over_out (by rfl) (Over_nil (y_fieldAddr (by rfl) fa26_0))) ?_
  refine P_det (by rfl) (Over_out (by rfl) (Over_nil (y_load1 (by rfl) Try.isAgg3 (Mem.own1 1 (by rfl) (by rfl))))) ?_
  refine P_det (by rfl) (Over_out (by rfl) (Over_nil (y_sub (by rfl) (by rfl) (by unfold I64; omega)))) ?_
  refine P_det (by rfl) (Over_out (by rfl) (Over_nil (y_buildL bd26_0_1 (by rfl)))) ?_
  refine P_det (by rfl) (Over_out (by rfl) (Over_nil (y_move (c := .pointer _) (by rfl)))) ?_
  refine P_det (by rfl) (Over_out (by rfl) (Over_nil (by first | exact y_nilCheck (by rfl) | exact y_nilCheckF (by rfl)))) ?_
  refine P_det (by rfl) (Over_out (by rfl) (Over_nil (y_fieldAddr (by rfl) fa98_1))) ?_
  refine P_det (by rfl) (Over_out (by rfl) (Over_nil (y_load1 (by rfl) Try.isAgg3 (by first | exact Mem.old1 (by assumption) | exact Mem.oldAt1 (by assumption) (by rfl) | exact Mem.old (by assumption) | exact Mem.oldAtL1 (by assumption) (by rfl) (by rfl))))) ?_
  refine P_det (by rfl) (Over_out (by rfl) (Over_nil (y_buildL bd26_1 (by rfl)))) ?_
  refine P_det (by rfl) (Over_out (by rfl) (Over_nil (y_callL (by rfl) (by rfl) Try.call109 (fun w hw => met_any _ _ _ _ w)))) ?_
  refine P_st 1000000 0 (by rfl) (by rfl) (by rfl) (by rfl) (by rfl) (Over_nil (st_pre (fun _ => by rfl) (fun _ => by rfl) Try.sizeOf26 (by rfl) (by rfl) (by first | decide | exact Nat.le_of_ble_eq_true rfl | simp))) ?_
  refine PW_end (by rfl) ?_
  refine OverAll_cons (fun w1000000 l1000000 => ?_)
  refine OverAll_nil ?_
  rintro ⟨-, h1000000⟩
  obtain rfl := h1000000
  refine Then_normal ?_
  refine W_ret ?_
  refine Fin_ret [_] [] Try.results137 ⟨lvN (by rfl) Try.isAgg26 Try.sizeOf26 (Mem.own (us := [.int .i64 _, .int .i64 _]) 0 (by rfl) (by rfl)) (by rfl), trivial⟩ HSub.nil ?_
  rfl
theorem seen_any (g og : Nat) (t : Tk) (s h : Sn) (w : World) (hG : Gg w g og t) (hs : s.inB t.height = true) :
    Ct Try.prog 139 #[.pointer (some ⟨g, og, none⟩), .agg s.cells.toArray, .agg h.cells.toArray] w fun v _ => v = .agg (h.met (t.dip s)).cells.toArray := by
  obtain ⟨s0, s1⟩ := s
  obtain ⟨h0, h1⟩ := h
  unfold Sn.inB at hs
  rw [Bool.and_eq_true, inB2] at hs
  have hF := wide_wide
  refine Ct_start (args := [_, _, _]) Try.func139 (by rfl) Try.ntmps139 (by rfl) ?_
  refine W_seq ?_
  refine W_region_lit (fun ds => ?_)
  refine WS_new hF (by rfl) (y_box (by rfl)) (fun b1 => ?_)
  refine WS_new hF (by rfl) (y_box (by rfl)) (fun b2 => ?_)
  refine WS_new hF (by rfl) (y_alloc Try.zeroValue26 (by rfl)) (fun b3 => ?_)
  refine WS_nil ?_
  refine Then_normal ?_
  refine W_seq ?_
  apply W_draw1 hF Trymixed [1000000] (i := 0) (by rfl) (by decide +kernel)
  intro ds
  refine P_det (by rfl) (Over_out (by rfl) (Over_nil (y_loadN (by rfl) Try.isAgg26 Try.sizeOf26 (Mem.own (us := [.int .i64 _, .int .i64 _]) 0 (by rfl) (by rfl)) (by rfl)))) ?_
  refine P_det (by rfl) (Over_out (by rfl) (Over_nil (y_move (c := .pointer _) (by rfl)))) ?_
  refine P_det (by rfl) (Over_out (by rfl) (Over_nil (y_loadN (by rfl) Try.isAgg26 Try.sizeOf26 (Mem.own (us := [.int .i64 _, .int .i64 _]) 1 (by rfl) (by rfl)) (by rfl)))) ?_
  refine P_det (by rfl) (Over_out (by rfl) (Over_nil (y_callL (by rfl) (by rfl) Try.call73 (fun w hw => dip_any _ _ t s0 s1 w (hG.st w hw) hs.1.1.1 hs.1.1.2 hs.1.2.1 hs.1.2.2)))) ?_
  refine P_det (by rfl) (Over_out (by rfl) (Over_nil (y_callL (by rfl) (by rfl) Try.call109 (fun w hw => met_any _ _ _ _ w)))) ?_
  refine P_st 1000000 0 (by rfl) (by rfl) (by rfl) (by rfl) (by rfl) (Over_nil (st_pre (fun _ => by rfl) (fun _ => by rfl) Try.sizeOf26 (by rfl) (by rfl) (by first | decide | exact Nat.le_of_ble_eq_true rfl | simp))) ?_
  refine PW_end (by rfl) ?_
  refine OverAll_cons (fun w1000000 l1000000 => ?_)
  refine OverAll_nil ?_
  rintro ⟨-, h1000000⟩
  obtain rfl := h1000000
  refine Then_normal ?_
  refine W_ret ?_
  refine Fin_ret [_] [] Try.results139 ⟨lvN (by rfl) Try.isAgg26 Try.sizeOf26 (Mem.own (us := [.int .i64 _, .int .i64 _]) 0 (by rfl) (by rfl)) (by rfl), trivial⟩ HSub.nil ?_
  rfl
end Go.Proofs.Ythkimgfgpphgnaa.T
