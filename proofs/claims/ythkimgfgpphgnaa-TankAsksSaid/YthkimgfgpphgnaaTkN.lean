/- opened: a log at work. -/
import Derived.Test.YthkimgfgpphgnaaTkM
namespace Go.Proofs.Ythkimgfgpphgnaa.T
open Go.RowKit Go.Proofs Go.Eng
set_option maxRecDepth 100000
set_option linter.unusedVariables false
set_option linter.unusedSimpArgs false

theorem bd119_0_1_2 {x0 : Option Addr} {x1_0a : Option Addr} {x1_0l x1_0c : Nat} {x1_1 : Int} {x1_2 : Int} {x1_3 : Int} {x1_4 : Int} {x1_5a : Option Addr} {x1_5l x1_5c : Nat} {x2_0 : Value} {x2_1 : Value} {x2_2 : Value} {x2_3 : Value} {x2_4 : Value} {x2_5 : Value} {x2_6 : Value} {x2_7 : Value} {x2_8 : Value} {x2_9 : Value} {x2_10 : Value} {x2_11 : Value} : ∀ w, (Instr.build 119 #[(0, .pointer x0), (1, .agg #[.slice x1_0a x1_0l x1_0c, .int .i64 x1_1, .int .i64 x1_2, .int .i64 x1_3, .int .i64 x1_4, .slice x1_5a x1_5l x1_5c]), (2, .agg #[x2_0, x2_1, x2_2, x2_3, x2_4, x2_5, x2_6, x2_7, x2_8, x2_9, x2_10, x2_11])]).run Try.prog w = .ok (.agg #[.pointer x0, .slice x1_0a x1_0l x1_0c, .int .i64 x1_1, .int .i64 x1_2, .int .i64 x1_3, .int .i64 x1_4, .slice x1_5a x1_5l x1_5c, x2_0, x2_1, x2_2, x2_3, x2_4, x2_5, x2_6, x2_7, x2_8, x2_9, x2_10, x2_11]) w := fun w => by kernel_rfl
theorem fa116_0 : ∀ b o w, (Instr.fieldAt 116 (.pointer (some ⟨b, o, none⟩)) 0).run Try.prog w = .ok (.pointer (some ⟨b, o + 0, none⟩)) w := fun b o w => by kernel_rfl
theorem fa46_0 : ∀ b o w, (Instr.fieldAt 46 (.pointer (some ⟨b, o, none⟩)) 0).run Try.prog w = .ok (.pointer (some ⟨b, o + 0, none⟩)) w := fun b o w => by kernel_rfl
theorem fa46_1 : ∀ b o w, (Instr.fieldAt 46 (.pointer (some ⟨b, o, none⟩)) 1).run Try.prog w = .ok (.pointer (some ⟨b, o + 3, none⟩)) w := fun b o w => by kernel_rfl

def gaugeCells (t : Tk) (a : Option Addr) (cap : Nat) : List Value := [.slice a t.n cap, .int .i64 t.leak, .int .i64 t.foot, .int .i64 t.full, .int .i64 t.height]
def Lg.err (l : Lg) : Int := if l.tk.okB then if l.okB then 0 else 31 else 30
/-- What comes of a log: a book in two new blocks, or none. -/
def BookV (l : Lg) (a : Option Addr) (cap : Nat) (ae : Option Addr) (cape : Nat) (v : Value) (Hn : List Blk) : Prop :=
  ∃ p, v = .tuple #[.pointer p, .int .i64 l.err] ∧ (l.err = 0 → ∃ g b, p = some ⟨b, 0, none⟩ ∧ Hn = [(b, CB (bookCells g l a cap ae cape) 119), (g, CB (gaugeCells l.tk a cap) 98)]) ∧ (l.err ≠ 0 → Hn = [])
theorem Tk.entsB_take (t : Tk) : ∀ (es : List En) (day : Int) (k : Nat) (h : k < es.length), t.entsB day es = (t.entsB day (es.take k) && t.entsB (if k = 0 then day else (es.getD (k - 1) En.z).day) (es.drop k))
  | [], _, k, h => by simp at h
  | x :: es, day, 0, _ => by simp [Tk.entsB]
  | x :: es, day, k + 1, h => by
    rw [List.take_succ_cons, List.drop_succ_cons, Tk.entsB, Tk.entsB]
    cases k with
    | zero => simp [Tk.entsB]
    | succ k =>
      rw [Tk.entsB_take t es x.day (k + 1) (by simpa using h), Bool.and_assoc]
      simp
theorem Tk.entsB_succ (t : Tk) : ∀ (es : List En) (day : Int) (k : Nat) (h : k < es.length), t.entsB day (es.take (k + 1)) = (t.entsB day (es.take k) && t.entB (if k = 0 then day else (es.getD (k - 1) En.z).day) (es.getD k En.z))
  | [], _, k, h => by simp at h
  | x :: es, day, 0, _ => by simp [Tk.entsB]
  | x :: es, day, k + 1, h => by
    have hk : k < es.length := by simpa using h
    rw [List.take_succ_cons, List.take_succ_cons, Tk.entsB, Tk.entsB, Tk.entsB_succ t es x.day k hk, Bool.and_assoc]
    congr 2
    cases k with
    | zero => simp
    | succ k => simp
theorem Tk.entsB_bad (t : Tk) {es : List En} {day : Int} {k : Nat} (h : k < es.length) (hb : t.entB (if k = 0 then day else (es.getD (k - 1) En.z).day) (es.getD k En.z) = false) : t.entsB day es = false := by
  rw [t.entsB_take es day k h]
  have : es.drop k = es.getD k En.z :: es.drop (k + 1) := by
    rw [List.drop_eq_getElem_cons h]; simp [List.getD_eq_getElem?_getD, h]
  rw [this, Tk.entsB, hb]; simp
def Lg.dayAt (l : Lg) (k : Nat) : Int := if k = 0 then 0 else (l.e (k - 1)).day
def rightF (kind : Int) : FuncId := if kind = 3 then 138 else 135
theorem right_call (kind : Int) : ∀ args w, (callFunc (rightF kind) args).run Try.prog w = .ok (.enter (rightF kind) args) w := by
  unfold rightF
  split
  · exact Try.call138
  · exact Try.call135
theorem right_any (kind : Int) (g og : Nat) (t : Tk) (s : Sn) (w : World) (hG : Gg w g og t) :
    Ct Try.prog (rightF kind) #[.pointer (some ⟨g, og, none⟩), .agg s.cells.toArray] w fun v _ => v = .bool (s.inB (t.most kind)) := by
  unfold rightF Tk.most
  split
  · exact forms2_any g og t s.lo s.hi w hG
  · exact forms1_any g og t s.lo s.hi w hG
theorem right_cell (g : Nat) (l : Lg) (a : Option Addr) (cap : Nat) (ae : Option Addr) (cape : Nat) (k : Nat) (h : 1 ≤ k ∧ k ≤ 3) : (bookCells g l a cap ae cape)[7 + k * 3]? = some (.func (.func (rightF (k : Int))) #[] #[]) := by
  obtain rfl | rfl | rfl : k = 1 ∨ k = 2 ∨ k = 3 := by omega
  · rfl
  · rfl
  · rfl

theorem opened_any (l : Lg) (a : Option Addr) (cap : Nat) (ae : Option Addr) (cape : Nat) (w : World) (hn : l.tk.n ≤ 1000000) (hx : Ints w a l.tk.n cap l.tk.pints) (he : Ens w ae l.es.length cape l.es) :
    Ct Try.prog 77 #[.agg #[.slice a l.tk.n cap, .int .i64 l.tk.leak, .int .i64 l.tk.foot, .int .i64 l.start.lo, .int .i64 l.start.hi, .slice ae l.es.length cape]] w (BookV l a cap ae cape) := by
  have hF := wide_wide
  refine Ct_start (args := [_]) Try.func77 (by rfl) Try.ntmps77 (by rfl) ?_
  refine W_seq ?_
  refine W_region_lit (fun ds => ?_)
  refine WS_new hF (by rfl) (y_box (by rfl)) (fun b1 => ?_)
  refine WS_det hF (by rfl) (y_assign (c := .pointer _) (by rfl)) ?_
  refine WS_det hF (by rfl) (y_assign (c := .int .i64 _) (by rfl)) ?_
  refine WS_nil ?_
  refine Then_normal ?_
  refine W_seq ?_
  refine W_region_lit (fun ds => ?_)
  refine WS_det hF (by rfl) (y_fieldAddr (by rfl) fa46_0) ?_
  refine WS_det hF (by rfl) (y_loadN (by rfl) Try.isAgg24 Try.sizeOf24 (Mem.own (us := [.slice _ _ _, .int .i64 _, .int .i64 _]) 0 (by rfl) (by rfl)) (by rfl)) ?_
  refine WS_gen hF (by rfl) (y_callL (by rfl) (by rfl) Try.call64 (fun w hw => gauged_any l.tk a cap w hn (hx.st w hw))) ?_
  rintro _ Hg ⟨p, rfl, hg1, hg2⟩
  refine WS_det hF (by rfl) (y_move (c := .tuple _) (by rfl)) ?_
  refine WS_det hF (by rfl) (y_extract (c := .pointer _) (by rfl) (by rfl)) ?_
  refine WS_det hF (by rfl) (y_extract (c := .bool _) (by rfl) (by rfl)) ?_
  refine WS_det hF (by rfl) (y_assign (c := .pointer _) (by rfl)) ?_
  refine WS_det hF (by rfl) (y_assign (c := .bool _) (by rfl)) ?_
  refine WS_nil ?_
  refine Then_normal ?_
  refine W_seq ?_
  refine W_seq ?_
  refine W_region_lit (fun ds => ?_)
  refine WS_det hF (by rfl) (y_move (c := .bool _) (by rfl)) ?_
  refine WS_det hF (by rfl) (y_not (by rfl)) ?_
  refine WS_nil ?_
  refine Then_normal ?_
  refine W_cond (by rfl) (fun c2 => ?_) (fun c2 => ?_)
  ·
    try simp only [Bool.not_eq_true', Bool.not_eq_false', decide_eq_true_eq, decide_eq_false_iff_not, ne_eq, Classical.not_not, Int.not_lt, Int.not_le] at c2
    obtain rfl := hg2 c2
    refine W_seq ?_
    refine W_region_lit (fun ds => ?_)
    refine WS_det hF (by rfl) (y_assign (c := .pointer _) (by rfl)) ?_
    refine WS_det hF (by rfl) (y_assign (c := .int .i64 _) (by rfl)) ?_
    refine WS_nil ?_
    refine Then_normal ?_
    refine W_ret ?_
    refine Then_ret ?_
    refine Fin_ret [.pointer _, .int .i64 _] [] Try.results77 ⟨by rfl, by rfl, trivial⟩ HSub.nil ?_
    have h30 : l.err = 30 := by simp [Lg.err, c2]
    refine ⟨none, ?_, fun h => by omega, fun _ => rfl⟩
    rw [h30]; rfl
  ·
    try simp only [Bool.not_eq_true', Bool.not_eq_false', decide_eq_true_eq, decide_eq_false_iff_not, ne_eq, Classical.not_not, Int.not_lt, Int.not_le] at c2
    obtain ⟨g, rfl, rfl⟩ := hg1 c2
    refine W_skip ?_
    refine Then_normal ?_
    refine W_seq ?_
    refine W_draw0 hF Trymixed [] (by decide +kernel) (fun ds => ?_)
    refine P_det (by rfl) (Over_nil (y_move (c := .pointer _) (by rfl))) ?_
    refine P_det (by rfl) (Over_nil (y_loadN (by rfl) Try.isAgg46 Try.sizeOf46 (Mem.own (us := [.slice _ _ _, .int .i64 _, .int .i64 _, .int .i64 _, .int .i64 _, .slice _ _ _]) 1 (by rfl) (by rfl)) (by rfl))) ?_
    refine P_det (by rfl) (Over_nil (y_callL (by rfl) (by rfl) Try.call124 (fun w hw => forms_any w))) ?_
    refine P_det (by rfl) (Over_nil (y_buildL bd119_0_1_2 (by rfl))) ?_
    refine P_new (by rfl) (by rfl) (Over_nil (y_box (by rfl))) ?_
    refine P_ali [22] (fun e => e 22) (by rfl) (by rfl) (by rfl) (fun _ _ h => h 22 (List.mem_singleton.2 rfl)) (Over_in (by rfl) (Over_nil (by rintro _ _ ⟨b2, rfl, rfl⟩; exact (YD0_of (y_assign (c := .pointer _) (by rfl)))))) ?_
    refine PW_end (by rfl) ?_
    refine OverAll_cons (fun w6 l6 => ?_)
    refine OverAll_cons (fun w22 l22 => ?_)
    refine OverAll_nil ?_
    rintro ⟨⟨-, h6⟩, h22⟩
    obtain ⟨bk, rfl, rfl⟩ := h22
    obtain ⟨h6, rfl⟩ := h6
    replace h6 : w6 = .pointer _ := h6
    subst h6
    refine Then_normal ?_
    refine W_seq ?_
    refine W_seq ?_
    refine W_draw0 hF Trymixed [] (by decide +kernel) (fun ds => ?_)
    refine P_det (by rfl) (Over_nil (y_fieldAddr (by rfl) fa46_1)) ?_
    refine P_det (by rfl) (Over_nil (y_loadN (by rfl) Try.isAgg26 Try.sizeOf26 (Mem.own (us := [.int .i64 _, .int .i64 _]) 2 (by rfl) (by rfl)) (by rfl))) ?_
    refine P_det (by rfl) (Over_nil (y_move (c := .pointer _) (by rfl))) ?_
    refine P_det (by rfl) (Over_nil (by first | exact y_nilCheck (by rfl) | exact y_nilCheckF (by rfl))) ?_
    refine P_det (by rfl) (Over_nil (y_fieldAddr (by rfl) fa98_1)) ?_
    refine P_det (by rfl) (Over_nil (y_load1 (by rfl) Try.isAgg3 (Mem.own1 1 (by rfl) (by rfl)))) ?_
    refine P_det (by rfl) (Over_nil (y_callL (by rfl) (by rfl) Try.call72 (fun w hw => span_any _ _ _ w))) ?_
    refine P_det (by rfl) (Over_nil (y_not (by rfl))) ?_
    refine P_det (by rfl) (Over_nil (y_move (c := .bool _) (by rfl))) ?_
    refine P_split 31 (by rfl) (fun g5_8 => ?_) (fun g5_8 => ?_)
    ·
      try simp only [Bool.not_eq_true', Bool.not_eq_false', decide_eq_true_eq, decide_eq_false_iff_not, ne_eq, Classical.not_not, Int.not_lt, Int.not_le] at g5_8
      refine P_no (by rfl) ?_
      refine P_no (by rfl) ?_
      refine P_no (by rfl) ?_
      refine P_no (by rfl) ?_
      refine P_det (by rfl) (Over_nil (by first | exact y_pick_t (c := .bool _) (by rfl) (by rfl) | exact y_pick_f (c := .bool _) (by rfl) (by rfl))) ?_
      refine PW_end (by rfl) ?_
      refine OverAll_nil ?_
      rintro -
      refine Then_normal ?_
      refine W_cond (by rfl) (fun c5 => ?_) (fun c5 => ?_)
      ·
        try simp only [Bool.not_eq_true', Bool.not_eq_false', decide_eq_true_eq, decide_eq_false_iff_not, ne_eq, Classical.not_not, Int.not_lt, Int.not_le] at c5
        refine W_seq ?_
        refine W_region_lit (fun ds => ?_)
        refine WS_det hF (by rfl) (y_assign (c := .pointer _) (by rfl)) ?_
        refine WS_det hF (by rfl) (y_assign (c := .int .i64 _) (by rfl)) ?_
        refine WS_nil ?_
        refine Then_normal ?_
        refine W_ret ?_
        refine Then_ret ?_
        refine Fin_ret [.pointer _, .int .i64 _] [] Try.results77 ⟨by rfl, by rfl, trivial⟩ HSub.nil ?_
        have hs : l.start.inB l.tk.full = false := g5_8
        have h31 : l.err = 31 := by simp [Lg.err, Lg.okB, c2, hs]
        refine ⟨none, ?_, fun h => by omega, fun _ => rfl⟩
        rw [h31]; rfl
      · cases c5
    ·
      try simp only [Bool.not_eq_true', Bool.not_eq_false', decide_eq_true_eq, decide_eq_false_iff_not, ne_eq, Classical.not_not, Int.not_lt, Int.not_le] at g5_8
      refine P_det (by rfl) (Over_nil (y_fieldAddr (by rfl) fa46_2)) ?_
      refine P_det (by rfl) (Over_nil (y_load1 (by rfl) Try.isAgg44 (Mem.own1 2 (by rfl) (by rfl)))) ?_
      refine P_det (by rfl) (Over_nil (y_len (by rfl) Try.runUnderlying44)) ?_
      refine P_det (by rfl) (Over_nil (y_gtr (by rfl) (by rfl))) ?_
      refine P_det (by rfl) (Over_nil (by first | exact y_pick_t (c := .bool _) (by rfl) (by rfl) | exact y_pick_f (c := .bool _) (by rfl) (by rfl))) ?_
      refine PW_end (by rfl) ?_
      refine OverAll_nil ?_
      rintro -
      refine Then_normal ?_
      refine W_cond (by rfl) (fun c5 => ?_) (fun c5 => ?_)
      ·
        try simp only [Bool.not_eq_true', Bool.not_eq_false', decide_eq_true_eq, decide_eq_false_iff_not, ne_eq, Classical.not_not, Int.not_lt, Int.not_le] at c5
        refine W_seq ?_
        refine W_region_lit (fun ds => ?_)
        refine WS_det hF (by rfl) (y_assign (c := .pointer _) (by rfl)) ?_
        refine WS_det hF (by rfl) (y_assign (c := .int .i64 _) (by rfl)) ?_
        refine WS_nil ?_
        refine Then_normal ?_
        refine W_ret ?_
        refine Then_ret ?_
        refine Fin_ret [.pointer _, .int .i64 _] [] Try.results77 ⟨by rfl, by rfl, trivial⟩ HSub.nil ?_
        have h31 : l.err = 31 := by
          have : decide (l.es.length ≤ 12) = false := by simp; omega
          simp [Lg.err, Lg.okB, c2, this]
        refine ⟨none, ?_, fun h => by omega, fun _ => rfl⟩
        rw [h31]; rfl
      ·
        try simp only [Bool.not_eq_true', Bool.not_eq_false', decide_eq_true_eq, decide_eq_false_iff_not, ne_eq, Classical.not_not, Int.not_lt, Int.not_le] at c5
        refine W_skip ?_
        refine Then_normal ?_
        refine W_seq ?_
        refine W_region_lit (fun ds => ?_)
        refine WS_det hF (by rfl) (y_assign (c := .int .i64 _) (by rfl)) ?_
        refine WS_nil ?_
        refine Then_normal ?_
        refine W_seq ?_
        refine W_seq ?_
        refine W_region_lit (fun ds => ?_)
        refine WS_det hF (by rfl) (y_fieldAddr (by rfl) fa46_2) ?_
        refine WS_det hF (by rfl) (y_load1 (by rfl) Try.isAgg44 (Mem.own1 2 (by rfl) (by rfl))) ?_
        refine WS_det hF (by rfl) (y_len (by rfl) Try.runUnderlying44) ?_
        refine WS_det hF (by rfl) (y_move (c := .int .i64 _) (by rfl)) ?_
        refine WS_nil ?_
        refine Then_normal ?_
        refine W_block ?_
        refine W_loop (γ := Nat) (fun k => k ≤ l.es.length ∧ l.tk.entsB 0 (l.es.take k) = true) (fun k => [(40, .int .i64 (k : Int)), (39, .int .i64 (l.es.length : Int)), (38, .slice ae l.es.length cape), (7, .int .i64 (l.dayAt k)), (1, .pointer (some ⟨b1, 0, none⟩)), (4, .pointer (some ⟨g, 0, none⟩)), (6, .pointer (some ⟨bk, 0, none⟩))]) (fun _ => _) (fun k => l.es.length - k) (0) ⟨Nat.zero_le _, rfl⟩ (by repeat (first | exact trivial | refine ⟨by rfl, ?_⟩)) (List.Sublist.refl _) ?_
        rintro k e ⟨hk, hent⟩
        refine W_seq ?_
        refine W_region_lit (fun ds => ?_)
        refine WS_det hF (by rfl) (y_lss (by rfl) (by rfl)) ?_
        refine WS_nil ?_
        refine Then_normal ?_
        refine W_seq ?_
        refine W_cond (by rfl) (fun c9 => ?_) (fun c9 => ?_)
        ·
          try simp only [Bool.not_eq_true', Bool.not_eq_false', decide_eq_true_eq, decide_eq_false_iff_not, ne_eq, Classical.not_not, Int.not_lt, Int.not_le] at c9
          obtain ⟨b, o, rfl, hc⟩ := he.cell k (by omega)
          change At w b _ (l.e k).cells at hc
          refine W_skip ?_
          refine Then_normal ?_
          refine W_seq ?_
          refine W_block ?_
          refine W_seq ?_
          refine W_region_lit (fun ds => ?_)
          refine WS_det hF (by rfl) (y_index (k := k) (by rfl) (by rfl) (by first | rfl | omega) (by first | decide | omega) Try.runUnderlying44 Try.sizeOf48) ?_
          refine WS_det hF (by rfl) (y_loadN (by rfl) Try.isAgg48 Try.sizeOf48 (by first | exact Mem.old (by assumption) | exact Mem.oldAt (us := [.int .i64 _, .int .i64 _, .int .i64 _, .int .i64 _]) (by assumption) (by rfl) | exact Mem.oldAtL (us := [.int .i64 _, .int .i64 _, .int .i64 _, .int .i64 _]) (by assumption) (by rfl) (by rfl)) (by rfl)) ?_
          refine WS_new hF (by rfl) (y_alloc Try.zeroValue48 (by rfl)) (fun b4 => ?_)
          refine WS_store hF (i := 0) (by rfl) (by rfl) Try.sizeOf48 (by rfl) (by rfl) (by rfl) (by first | decide | exact Nat.le_of_ble_eq_true rfl | simp) ?_
          refine WS_nil ?_
          refine Then_normal ?_
          refine W_seq ?_
          refine W_seq ?_
          refine W_draw0 hF Trymixed [] (by decide +kernel) (fun ds => ?_)
          refine P_det (by rfl) (Over_nil (y_move (c := .int .i64 _) (by rfl))) ?_
          refine P_det (by rfl) (Over_nil (y_fieldAddr (by rfl) fa48_0)) ?_
          refine P_det (by rfl) (Over_nil (y_load1 (by rfl) Try.isAgg3 (Mem.own1 0 (by rfl) (by rfl)))) ?_
          refine P_new (by rfl) (by rfl) (Over_nil (y_buildSliceL bs22_1_0 (by rfl))) ?_
          refine P_det (by rfl) (Over_in (by rfl) (Over_nil (by rintro _ _ ⟨b6, rfl, rfl⟩; exact (y_callL (by rfl) (by rfl) Try.call65 (fun w hw => in_any _ _ _ _ _ _ w (by decide) (by first | exact Ints.one 0 rfl w hw | exact Ints.two 0 rfl w hw)))))) ?_
          refine P_det (by rfl) (Over_out (by rfl) (Over_nil (y_not (by rfl)))) ?_
          refine P_det (by rfl) (Over_out (by rfl) (Over_nil (y_move (c := .bool _) (by rfl)))) ?_
          refine P_split 50 (by rfl) (fun g11_6 => ?_) (fun g11_6 => ?_)
          ·
            try simp only [Bool.not_eq_true', Bool.not_eq_false', decide_eq_true_eq, decide_eq_false_iff_not, ne_eq, Classical.not_not, Int.not_lt, Int.not_le] at g11_6
            refine P_no (by rfl) ?_
            refine P_no (by rfl) ?_
            refine P_no (by rfl) ?_
            refine P_no (by rfl) ?_
            refine P_no (by rfl) ?_
            refine P_det (by rfl) (Over_out (by rfl) (Over_nil (by first | exact y_pick_t (c := .bool _) (by rfl) (by rfl) | exact y_pick_f (c := .bool _) (by rfl) (by rfl)))) ?_
            refine P_det (by rfl) (Over_out (by rfl) (Over_nil (y_move (c := .bool _) (by rfl)))) ?_
            refine P_no (by rfl) ?_
            refine P_no (by rfl) ?_
            refine P_no (by rfl) ?_
            refine P_no (by rfl) ?_
            refine P_no (by rfl) ?_
            refine P_no (by rfl) ?_
            refine P_no (by rfl) ?_
            refine P_no (by rfl) ?_
            refine P_no (by rfl) ?_
            refine P_no (by rfl) ?_
            refine P_no (by rfl) ?_
            refine P_no (by rfl) ?_
            refine P_no (by rfl) ?_
            refine P_det (by rfl) (Over_out (by rfl) (Over_nil (by first | exact y_pick_t (c := .bool _) (by rfl) (by rfl) | exact y_pick_f (c := .bool _) (by rfl) (by rfl)))) ?_
            refine PW_end (by rfl) ?_
            refine OverAll_cons (fun w47 l47 => ?_)
            refine OverAll_nil ?_
            rintro ⟨-, h47⟩
            obtain ⟨b5, rfl, rfl⟩ := h47
            refine Then_normal ?_
            refine W_cond (by rfl) (fun c11 => ?_) (fun c11 => ?_)
            ·
              try simp only [Bool.not_eq_true', Bool.not_eq_false', decide_eq_true_eq, decide_eq_false_iff_not, ne_eq, Classical.not_not, Int.not_lt, Int.not_le] at c11
              refine W_seq ?_
              refine W_region_lit (fun ds => ?_)
              refine WS_det hF (by rfl) (y_assign (c := .pointer _) (by rfl)) ?_
              refine WS_det hF (by rfl) (y_assign (c := .int .i64 _) (by rfl)) ?_
              refine WS_nil ?_
              refine Then_normal ?_
              refine W_ret ?_
              refine Then_ret ?_
              refine InB_ret ?_
              refine Then_ret ?_
              refine Loop_ret ?_
              refine InB_ret ?_
              refine Then_ret ?_
              refine Fin_ret [.pointer _, .int .i64 _] [] Try.results77 ⟨by rfl, by rfl, trivial⟩ HSub.nil ?_
              have hbad : l.tk.entB (if k = 0 then 0 else (l.es.getD (k - 1) En.z).day) (l.es.getD k En.z) = false := by
                show l.tk.entB (l.dayAt k) (l.e k) = false
                unfold Tk.entB
                rw [show inB (l.dayAt k) 3652 [(l.e k).day] = false from g11_6]; rfl
              have h31 : l.err = 31 := by simp [Lg.err, Lg.okB, c2, l.tk.entsB_bad (by omega) hbad]
              refine ⟨none, ?_, fun h => by omega, fun _ => rfl⟩
              rw [h31]; rfl
            · cases c11
          ·
            try simp only [Bool.not_eq_true', Bool.not_eq_false', decide_eq_true_eq, decide_eq_false_iff_not, ne_eq, Classical.not_not, Int.not_lt, Int.not_le] at g11_6
            refine P_det (by rfl) (Over_out (by rfl) (Over_nil (y_fieldAddr (by rfl) fa48_1))) ?_
            refine P_det (by rfl) (Over_out (by rfl) (Over_nil (y_load1 (by rfl) Try.isAgg3 (Mem.own1 0 (by rfl) (by rfl))))) ?_
            refine P_new (by rfl) (by rfl) (Over_out (by rfl) (Over_nil (y_buildSliceL bs22_1_0 (by rfl)))) ?_
            refine P_det (by rfl) (Over_in (by rfl) (Over_out (by rfl) (Over_nil (by rintro _ _ ⟨b8, rfl, rfl⟩; exact (y_callL (by rfl) (by rfl) Try.call65 (fun w hw => in_any _ _ _ _ _ _ w (by decide) (by first | exact Ints.one 0 rfl w hw | exact Ints.two 0 rfl w hw))))))) ?_
            refine P_det (by rfl) (Over_out (by rfl) (Over_out (by rfl) (Over_nil (y_not (by rfl))))) ?_
            refine P_det (by rfl) (Over_out (by rfl) (Over_out (by rfl) (Over_nil (by first | exact y_pick_t (c := .bool _) (by rfl) (by rfl) | exact y_pick_f (c := .bool _) (by rfl) (by rfl))))) ?_
            refine P_det (by rfl) (Over_out (by rfl) (Over_out (by rfl) (Over_nil (y_move (c := .bool _) (by rfl))))) ?_
            refine P_split 57 (by rfl) (fun g11_13 => ?_) (fun g11_13 => ?_)
            ·
              try simp only [Bool.not_eq_true', Bool.not_eq_false', decide_eq_true_eq, decide_eq_false_iff_not, ne_eq, Classical.not_not, Int.not_lt, Int.not_le] at g11_13
              refine P_no (by rfl) ?_
              refine P_no (by rfl) ?_
              refine P_no (by rfl) ?_
              refine P_no (by rfl) ?_
              refine P_no (by rfl) ?_
              refine P_no (by rfl) ?_
              refine P_no (by rfl) ?_
              refine P_no (by rfl) ?_
              refine P_no (by rfl) ?_
              refine P_no (by rfl) ?_
              refine P_no (by rfl) ?_
              refine P_no (by rfl) ?_
              refine P_no (by rfl) ?_
              refine P_det (by rfl) (Over_out (by rfl) (Over_out (by rfl) (Over_nil (by first | exact y_pick_t (c := .bool _) (by rfl) (by rfl) | exact y_pick_f (c := .bool _) (by rfl) (by rfl))))) ?_
              refine PW_end (by rfl) ?_
              refine OverAll_cons (fun w53 l53 => ?_)
              refine OverAll_cons (fun w47 l47 => ?_)
              refine OverAll_nil ?_
              rintro ⟨⟨-, h53⟩, h47⟩
              obtain ⟨b5, rfl, rfl⟩ := h47
              obtain ⟨b7, rfl, rfl⟩ := h53
              refine Then_normal ?_
              refine W_cond (by rfl) (fun c11 => ?_) (fun c11 => ?_)
              ·
                try simp only [Bool.not_eq_true', Bool.not_eq_false', decide_eq_true_eq, decide_eq_false_iff_not, ne_eq, Classical.not_not, Int.not_lt, Int.not_le] at c11
                refine W_seq ?_
                refine W_region_lit (fun ds => ?_)
                refine WS_det hF (by rfl) (y_assign (c := .pointer _) (by rfl)) ?_
                refine WS_det hF (by rfl) (y_assign (c := .int .i64 _) (by rfl)) ?_
                refine WS_nil ?_
                refine Then_normal ?_
                refine W_ret ?_
                refine Then_ret ?_
                refine InB_ret ?_
                refine Then_ret ?_
                refine Loop_ret ?_
                refine InB_ret ?_
                refine Then_ret ?_
                refine Fin_ret [.pointer _, .int .i64 _] [] Try.results77 ⟨by rfl, by rfl, trivial⟩ HSub.nil ?_
                have hbad : l.tk.entB (if k = 0 then 0 else (l.es.getD (k - 1) En.z).day) (l.es.getD k En.z) = false := by
                  show l.tk.entB (l.dayAt k) (l.e k) = false
                  unfold Tk.entB
                  rw [show inB 1 3 [(l.e k).kind] = false from g11_13, Bool.and_false]; rfl
                have h31 : l.err = 31 := by simp [Lg.err, Lg.okB, c2, l.tk.entsB_bad (by omega) hbad]
                refine ⟨none, ?_, fun h => by omega, fun _ => rfl⟩
                rw [h31]; rfl
              · cases c11
            ·
              try simp only [Bool.not_eq_true', Bool.not_eq_false', decide_eq_true_eq, decide_eq_false_iff_not, ne_eq, Classical.not_not, Int.not_lt, Int.not_le] at g11_13
              have hkd := inB1.1 g11_13
              obtain ⟨kk, hkk⟩ : ∃ kk : Nat, (l.e k).kind = (kk : Int) := Int.eq_ofNat_of_zero_le (by omega)
              refine P_det (by rfl) (Over_out (by rfl) (Over_out (by rfl) (Over_nil (y_move (c := .pointer _) (by rfl))))) ?_
              refine P_det (by rfl) (Over_out (by rfl) (Over_out (by rfl) (Over_nil (y_fieldAddr (by rfl) fa48_1)))) ?_
              refine P_det (by rfl) (Over_out (by rfl) (Over_out (by rfl) (Over_nil (y_load1 (by rfl) Try.isAgg3 (Mem.own1 0 (by rfl) (by rfl)))))) ?_
              refine P_det (by rfl) (Over_out (by rfl) (Over_out (by rfl) (Over_nil (by first | exact y_nilCheck (by rfl) | exact y_nilCheckF (by rfl))))) ?_
              refine P_det (by rfl) (Over_out (by rfl) (Over_out (by rfl) (Over_nil (y_fieldAddr (by rfl) fa119_2)))) ?_
              refine P_det (by rfl) (Over_out (by rfl) (Over_out (by rfl) (Over_nil (y_indexA (k := kk) (by rfl) (by rfl) (by first | rfl | omega) (by first | decide | omega) Try.runUnderlying117 Try.sizeOf116)))) ?_
              refine P_det (by rfl) (Over_out (by rfl) (Over_out (by rfl) (Over_nil (y_fieldAddr (by rfl) fa116_0)))) ?_
              refine P_det (by rfl) (Over_out (by rfl) (Over_out (by rfl) (Over_nil (y_load1 (by rfl) Try.isAgg113 (by first | exact Mem.own1 0 (by rfl) (right_cell _ l _ cap _ cape kk (by omega)) | exact Mem.own1 1 (by rfl) (right_cell _ l _ cap _ cape kk (by omega)) | exact Mem.own1 2 (by rfl) (right_cell _ l _ cap _ cape kk (by omega))))))) ?_
              refine P_det (by rfl) (Over_out (by rfl) (Over_out (by rfl) (Over_nil (y_move (c := .pointer _) (by rfl))))) ?_
              refine P_det (by rfl) (Over_out (by rfl) (Over_out (by rfl) (Over_nil (y_fieldAddr (by rfl) fa48_2)))) ?_
              refine P_det (by rfl) (Over_out (by rfl) (Over_out (by rfl) (Over_nil (y_loadN (by rfl) Try.isAgg26 Try.sizeOf26 (Mem.own (us := [.int .i64 _, .int .i64 _]) 0 (by rfl) (by rfl)) (by rfl))))) ?_
              refine P_det (by rfl) (Over_out (by rfl) (Over_out (by rfl) (Over_nil (y_callL (by rfl) (by rfl) (right_call _) (fun w hw => right_any _ g 0 l.tk (l.e k).size w (Gg.own (by repeat (first | exact List.mem_cons_self | apply List.mem_cons_of_mem)) c2 hx w hw)))))) ?_
              refine P_det (by rfl) (Over_out (by rfl) (Over_out (by rfl) (Over_nil (y_not (by rfl))))) ?_
              refine P_det (by rfl) (Over_out (by rfl) (Over_out (by rfl) (Over_nil (by first | exact y_pick_t (c := .bool _) (by rfl) (by rfl) | exact y_pick_f (c := .bool _) (by rfl) (by rfl))))) ?_
              refine PW_end (by rfl) ?_
              refine OverAll_cons (fun w53 l53 => ?_)
              refine OverAll_cons (fun w47 l47 => ?_)
              refine OverAll_nil ?_
              rintro ⟨⟨-, h53⟩, h47⟩
              obtain ⟨b5, rfl, rfl⟩ := h47
              obtain ⟨b7, rfl, rfl⟩ := h53
              refine Then_normal ?_
              refine W_cond (by rfl) (fun c11 => ?_) (fun c11 => ?_)
              ·
                try simp only [Bool.not_eq_true', Bool.not_eq_false', decide_eq_true_eq, decide_eq_false_iff_not, ne_eq, Classical.not_not, Int.not_lt, Int.not_le] at c11
                refine W_seq ?_
                refine W_region_lit (fun ds => ?_)
                refine WS_det hF (by rfl) (y_assign (c := .pointer _) (by rfl)) ?_
                refine WS_det hF (by rfl) (y_assign (c := .int .i64 _) (by rfl)) ?_
                refine WS_nil ?_
                refine Then_normal ?_
                refine W_ret ?_
                refine Then_ret ?_
                refine InB_ret ?_
                refine Then_ret ?_
                refine Loop_ret ?_
                refine InB_ret ?_
                refine Then_ret ?_
                refine Fin_ret [.pointer _, .int .i64 _] [] Try.results77 ⟨by rfl, by rfl, trivial⟩ HSub.nil ?_
                have hbad : l.tk.entB (if k = 0 then 0 else (l.es.getD (k - 1) En.z).day) (l.es.getD k En.z) = false := by
                  show l.tk.entB (l.dayAt k) (l.e k) = false
                  unfold Tk.entB
                  rw [show (l.e k).size.inB (l.tk.most (l.e k).kind) = false by rw [hkk]; exact c11, Bool.and_false]
                have h31 : l.err = 31 := by simp [Lg.err, Lg.okB, c2, l.tk.entsB_bad (by omega) hbad]
                refine ⟨none, ?_, fun h => by omega, fun _ => rfl⟩
                rw [h31]; rfl
              ·
                try simp only [Bool.not_eq_true', Bool.not_eq_false', decide_eq_true_eq, decide_eq_false_iff_not, ne_eq, Classical.not_not, Int.not_lt, Int.not_le] at c11
                have hgood : (true && l.tk.entB (if k = 0 then 0 else (l.es.getD (k - 1) En.z).day) (l.es.getD k En.z)) = true := by
                  rw [Bool.true_and]
                  show l.tk.entB (l.dayAt k) (l.e k) = true
                  unfold Tk.entB
                  rw [show inB (l.dayAt k) 3652 [(l.e k).day] = true from g11_6, show inB 1 3 [(l.e k).kind] = true from g11_13, show (l.e k).size.inB (l.tk.most (l.e k).kind) = true by rw [hkk]; exact c11]; rfl
                refine W_skip ?_
                refine Then_normal ?_
                refine W_region_lit (fun ds => ?_)
                refine WS_det hF (by rfl) (y_fieldAddr (by rfl) fa48_0) ?_
                refine WS_det hF (by rfl) (y_load1 (by rfl) Try.isAgg3 (Mem.own1 2 (by rfl) (by rfl))) ?_
                refine WS_det hF (by rfl) (y_assign (c := .int .i64 _) (by rfl)) ?_
                refine WS_nil ?_
                refine InB_normal ?_
                refine Then_normal ?_
                refine W_region_lit (fun ds => ?_)
                refine WS_det hF (by rfl) (y_add (by rfl) (by rfl) (by unfold I64; omega)) ?_
                refine WS_det hF (by rfl) (y_move (c := .int .i64 _) (by rfl)) ?_
                refine WS_nil ?_
                exact Loop_next (k + 1) ⟨by omega, by rw [l.tk.entsB_succ l.es 0 k (by omega), hent]; exact hgood⟩ (by repeat (first | exact trivial | refine ⟨by rfl, ?_⟩)) (by repeat (first | exact List.Sublist.refl _ | exact List.nil_sublist _ | apply List.Sublist.cons_cons | apply List.Sublist.cons)) (by omega)
        ·
          try simp only [Bool.not_eq_true', Bool.not_eq_false', decide_eq_true_eq, decide_eq_false_iff_not, ne_eq, Classical.not_not, Int.not_lt, Int.not_le] at c9
          refine W_exit ?_
          refine Then_exit ?_
          refine Loop_exit ?_
          refine InB_same ?_
          refine Then_normal ?_
          refine W_seq ?_
          refine W_region_lit (fun ds => ?_)
          refine WS_det hF (by rfl) (y_move (c := .pointer _) (by rfl)) ?_
          refine WS_det hF (by rfl) (y_assign (c := .pointer _) (by rfl)) ?_
          refine WS_det hF (by rfl) (y_assign (c := .int .i64 _) (by rfl)) ?_
          refine WS_nil ?_
          refine Then_normal ?_
          refine W_ret ?_
          have h0 : l.err = 0 := by
            have hkn : k = l.es.length := by omega
            rw [hkn, List.take_length] at hent
            have hs : l.start.inB l.tk.full = true := g5_8
            have h12 : decide (l.es.length ≤ 12) = true := by simp; omega
            simp [Lg.err, Lg.okB, c2, hs, hent, h12]
          refine Fin_ret [.pointer _, .int .i64 _] [(bk, _), (g, _)] Try.results77 ⟨by rfl, by rfl, trivial⟩ (HSub.sub (by repeat (first | exact List.nil_sublist _ | apply List.Sublist.cons_cons | apply List.Sublist.cons))) ?_
          refine ⟨_, by rw [h0]; rfl, fun _ => ⟨g, bk, rfl, rfl⟩, fun h => absurd h0 h⟩
end Go.Proofs.Ythkimgfgpphgnaa.T
