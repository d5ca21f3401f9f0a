/- Changes: copies of logs: the walks of Clone, copied and Add. -/
import Derived.Test.YtjekjehgmljbgaaGreatDoorMb2
set_option linter.unusedVariables false
set_option linter.unusedSimpArgs false
namespace Go.Proofs.YtjekjehgmljbgaaGreatDoor.T
open Go.RowKit Go.Proofs Go.Eng
set_option maxRecDepth 100000
set_option maxHeartbeats 1000000
theorem bd141_0_1_2 {x0 : Option Addr} {x1_0a : Option Addr} {x1_0l x1_0c : Nat} {x1_1 : Int} {x1_2 : Int} {x1_3 : Int} {x1_4 : Int} {x1_5a : Option Addr} {x1_5l x1_5c : Nat} {x2_0 : Value} {x2_1 : Value} {x2_2 : Value} {x2_3 : Value} {x2_4 : Value} {x2_5 : Value} {x2_6 : Value} {x2_7 : Value} {x2_8 : Value} {x2_9 : Value} {x2_10 : Value} {x2_11 : Value} : ∀ w, (Instr.build 141 #[(0, .pointer x0), (1, .agg #[.slice x1_0a x1_0l x1_0c, .int .i64 x1_1, .int .i64 x1_2, .int .i64 x1_3, .int .i64 x1_4, .slice x1_5a x1_5l x1_5c]), (2, .agg #[x2_0, x2_1, x2_2, x2_3, x2_4, x2_5, x2_6, x2_7, x2_8, x2_9, x2_10, x2_11])]).run Tryz.prog w = .ok (.agg #[.pointer x0, .slice x1_0a x1_0l x1_0c, .int .i64 x1_1, .int .i64 x1_2, .int .i64 x1_3, .int .i64 x1_4, .slice x1_5a x1_5l x1_5c, x2_0, x2_1, x2_2, x2_3, x2_4, x2_5, x2_6, x2_7, x2_8, x2_9, x2_10, x2_11]) w := fun w => by kernel_rfl
theorem fa138_0 : ∀ b o w, (Instr.fieldAt 138 (.pointer (some ⟨b, o, none⟩)) 0).run Tryz.prog w = .ok (.pointer (some ⟨b, o + 0, none⟩)) w := fun b o w => by kernel_rfl
theorem fa62_0 : ∀ b o w, (Instr.fieldAt 62 (.pointer (some ⟨b, o, none⟩)) 0).run Tryz.prog w = .ok (.pointer (some ⟨b, o + 0, none⟩)) w := fun b o w => by kernel_rfl
theorem fa62_1 : ∀ b o w, (Instr.fieldAt 62 (.pointer (some ⟨b, o, none⟩)) 1).run Tryz.prog w = .ok (.pointer (some ⟨b, o + 3, none⟩)) w := fun b o w => by kernel_rfl
def gaugeCells (t : Tk) (a : Option Addr) (cap : Nat) : List Value := [.slice a t.n cap, .int .i64 t.leak, .int .i64 t.foot, .int .i64 t.full, .int .i64 t.height]
def Lg.err (l : Lg) : Int := if l.tk.okB then if l.okB then 0 else 31 else 30
def BookV (l : Lg) (a : Option Addr) (cap : Nat) (ae : Option Addr) (cape : Nat) (v : Value) (Hn : List Blk) : Prop :=
 ∃ p, v = .tuple #[.pointer p, .int .i64 l.err] ∧ (l.err = 0 → ∃ g b, p = some ⟨b, 0, none⟩ ∧ Hn = [(b, CB (bookCells g l a cap ae cape) 141), (g, CB (gaugeCells l.tk a cap) 143)]) ∧ (l.err ≠ 0 → Hn = [])
theorem Tk.entsB_take (t : Tk) : ∀ (es : List En) (day : Int) (k : Nat) (h : k < es.length), t.entsB day es = (t.entsB day (es.take k) && t.entsB (if k = 0 then day else (es.getD (k - 1) En.z).day) (es.drop k))
 | [], _, k, h => by simp at h
 | x :: es, day, 0, _ => by simp [Tk.entsB]
 | x :: es, day, k + 1, h => by
  rw [List.take_succ_cons, List.drop_succ_cons, Tk.entsB, Tk.entsB]
  cases k with
  | zero => simp [Tk.entsB]
  | succ k =>
   rw [Tk.entsB_take t es x.day (k + 1) (by simpa using h), Bool.and_assoc]
   simp
theorem Tk.entsB_succ (t : Tk) : ∀ (es : List En) (day : Int) (k : Nat) (h : k < es.length), t.entsB day (es.take (k + 1)) = (t.entsB day (es.take k) && t.entB (if k = 0 then day else (es.getD (k - 1) En.z).day) (es.getD k En.z))
 | [], _, k, h => by simp at h
 | x :: es, day, 0, _ => by simp [Tk.entsB]
 | x :: es, day, k + 1, h => by
  have hk : k < es.length := by simpa using h
  rw [List.take_succ_cons, List.take_succ_cons, Tk.entsB, Tk.entsB, Tk.entsB_succ t es x.day k hk, Bool.and_assoc]
  congr 2
  cases k with
  | zero => simp
  | succ k => simp
theorem Tk.entsB_bad (t : Tk) {es : List En} {day : Int} {k : Nat} (h : k < es.length) (hb : t.entB (if k = 0 then day else (es.getD (k - 1) En.z).day) (es.getD k En.z) = false) : t.entsB day es = false := by
 rw [t.entsB_take es day k h]
 have : es.drop k = es.getD k En.z :: es.drop (k + 1) := by
  rw [List.drop_eq_getElem_cons h]; simp [List.getD_eq_getElem?_getD, h]
 rw [this, Tk.entsB, hb]; simp
def Lg.dayAt (l : Lg) (k : Nat) : Int := if k = 0 then 0 else (l.e (k - 1)).day
def rightF (kind : Int) : FuncId := if kind = 3 then 161 else 158
theorem right_call (kind : Int) : ∀ args w, (callFunc (rightF kind) args).run Tryz.prog w = .ok (.enter (rightF kind) args) w := by
 unfold rightF
 split
 ·exact Tryz.call161
 ·exact Tryz.call158
theorem right_any (kind : Int) (g og : Nat) (t : Tk) (s : Sn) (w : World) (hG : Gg w g og t) :
  Ct Tryz.prog (rightF kind) #[.pointer (some ⟨g, og, none⟩), .agg s.cells.toArray] w fun v _ => v = .bool (s.inB (t.most kind)) := by
 unfold rightF Tk.most
 split
 ·exact forms2_any g og t s.lo s.hi w hG
 ·exact forms1_any g og t s.lo s.hi w hG
theorem right_cell (g : Nat) (l : Lg) (a : Option Addr) (cap : Nat) (ae : Option Addr) (cape : Nat) (k : Nat) (h : 1 ≤ k ∧ k ≤ 3) : (bookCells g l a cap ae cape)[7 + k * 3]? = some (.func (.func (rightF (k : Int))) #[] #[]) := by
 obtain rfl | rfl | rfl : k = 1 ∨ k = 2 ∨ k = 3 := by omega
 ·rfl
 ·rfl
 ·rfl
theorem opened_any (l : Lg) (a : Option Addr) (cap : Nat) (ae : Option Addr) (cape : Nat) (w : World) (hn : l.tk.n ≤ 1000000) (hx : Ints w a l.tk.n cap l.tk.pints) (he : Ens w ae l.es.length cape l.es) :
  Ct Tryz.prog 108 #[.agg #[.slice a l.tk.n cap, .int .i64 l.tk.leak, .int .i64 l.tk.foot, .int .i64 l.start.lo, .int .i64 l.start.hi, .slice ae l.es.length cape]] w (BookV l a cap ae cape) := by
 have hF := wide_wide
 refine Ct_start (args := [_]) Tryz.func108 rf Tryz.ntmps108 rf ?_
 refine zR fun ds => ?_
 refine WS_new hF rf (y_box rf) (fun b1 => ?_)
 refine za (.pointer _) hF ?_
 refine za (.int .i64 _) hF ?_
 refine zP fun ds => ?_
 refine zD hF (y_fieldAddr rf fa62_0) ?_
 refine zD hF (y_loadN rf Tryz.isAgg57 Tryz.sizeOf57 (Mem.own (us := [.slice _ _ _, .int .i64 _, .int .i64 _]) 0 rf rf) rf) ?_
 refine WS_gen hF rf (y_callL rf rf Tryz.call136 (fun w hw => gauged_any l.tk a cap w hn (hx.st w hw))) ?_
 rintro _ Hg ⟨p, rfl, hg1, hg2⟩
 refine zm (.tuple _) hF ?_
 refine zD hF (y_extract (c := .pointer _) rf rf) ?_
 refine zD hF (y_extract (c := .bool _) rf rf) ?_
 refine za (.pointer _) hF ?_
 refine za (.bool _) hF ?_
 refine zO ?_
 refine zR fun ds => ?_
 refine zm (.bool _) hF ?_
 refine zD hF (y_not rf) ?_
 refine zN ?_
 refine W_cond rf (fun c2 => ?_) (fun c2 => ?_)
 ·
  try simp only [qz1, qz2, qz3, qz4, qz5, qz6, qz7, qz8] at c2
  obtain rfl := hg2 c2
  refine zR fun ds => ?_
  refine za (.pointer _) hF ?_
  refine za (.int .i64 _) hF ?_
  refine zN ?_
  refine W_ret ?_
  refine Then_ret ?_
  refine Fin_ret [.pointer _, .int .i64 _] [] Tryz.results108 ⟨by rfl, by rfl, trivial⟩ HSub.nil ?_
  have h30 : l.err = 30 := by simp [Lg.err, c2]
  refine ⟨none, ?_, fun h => by omega, fun _ => rfl⟩
  rw [h30]; rfl
 ·
  try simp only [qz1, qz2, qz3, qz4, qz5, qz6, qz7, qz8] at c2
  obtain ⟨g, rfl, rfl⟩ := hg1 c2
  refine zU ?_
  refine W_seq ?_
  refine W_draw0 hF Tryzmixed [] dk0 (fun ds => ?_)
  refine P_det rf (Over_nil (y_move (c := .pointer _) rf)) ?_
  refine P_det rf (Over_nil (y_loadN rf Tryz.isAgg62 Tryz.sizeOf62 (Mem.own (us := [.slice _ _ _, .int .i64 _, .int .i64 _, .int .i64 _, .int .i64 _, .slice _ _ _]) 1 rf rf) rf)) ?_
  refine P_det rf (Over_nil (y_callL rf rf Tryz.call137 (fun w hw => forms_any w))) ?_
  refine P_det rf (Over_nil (y_buildL bd141_0_1_2 rf)) ?_
  refine P_new rf rf (Over_nil (y_box rf)) ?_
  refine P_ali [22] (fun e => e 22) rf rf rf (fun _ _ h => h 22 (List.mem_singleton.2 rfl)) (Over_in rf (Over_nil (by rintro _ _ ⟨b2, rfl, rfl⟩; exact (YD0_of (y_assign (c := .pointer _) rf))))) ?_
  refine PW_end rf ?_
  refine OverAll_cons (fun w6 l6 => ?_)
  refine OverAll_cons (fun w22 l22 => ?_)
  refine OverAll_nil ?_
  rintro ⟨⟨-, h6⟩, h22⟩
  obtain ⟨bk, rfl, rfl⟩ := h22
  obtain ⟨h6, rfl⟩ := h6
  replace h6 : w6 = .pointer _ := h6
  subst h6
  refine Then_normal ?_
  refine W_seq ?_
  refine W_seq ?_
  refine W_draw0 hF Tryzmixed [] dk0 (fun ds => ?_)
  refine P_det rf (Over_nil (y_fieldAddr rf fa62_1)) ?_
  refine P_det rf (Over_nil (y_loadN rf Tryz.isAgg59 Tryz.sizeOf59 (Mem.own (us := [.int .i64 _, .int .i64 _]) 2 rf rf) rf)) ?_
  refine P_det rf (Over_nil (y_move (c := .pointer _) rf)) ?_
  refine P_det rf (Over_nil znk) ?_
  refine P_det rf (Over_nil (y_fieldAddr rf fa143_1)) ?_
  refine P_det rf (Over_nil (y_load1 rf Tryz.isAgg3 (Mem.own1 1 rf rf))) ?_
  refine P_det rf (Over_nil (y_callL rf rf Tryz.call138 (fun w hw => span_any _ _ _ w))) ?_
  refine P_det rf (Over_nil (y_not rf)) ?_
  refine P_det rf (Over_nil (y_move (c := .bool _) rf)) ?_
  refine P_split 31 rf (fun g5_8 => ?_) (fun g5_8 => ?_)
  ·
   try simp only [qz1, qz2, qz3, qz4, qz5, qz6, qz7, qz8] at g5_8
   refine P_no rf ?_
   refine P_no rf ?_
   refine P_no rf ?_
   refine P_no rf ?_
   refine P_det rf (Over_nil (by first | exact y_pick_t (c := .bool _) rf rf | exact y_pick_f (c := .bool _) rf rf)) ?_
   refine PW_end rf ?_
   refine OverAll_nil ?_
   rintro -
   refine Then_normal ?_
   refine W_cond rf (fun c5 => ?_) (fun c5 => ?_)
   ·
    try simp only [qz1, qz2, qz3, qz4, qz5, qz6, qz7, qz8] at c5
    refine zR fun ds => ?_
    refine za (.pointer _) hF ?_
    refine za (.int .i64 _) hF ?_
    refine zN ?_
    refine W_ret ?_
    refine Then_ret ?_
    refine Fin_ret [.pointer _, .int .i64 _] [] Tryz.results108 ⟨by rfl, by rfl, trivial⟩ HSub.nil ?_
    have hs : l.start.inB l.tk.full = false := g5_8
    have h31 : l.err = 31 := by simp [Lg.err, Lg.okB, c2, hs]
    refine ⟨none, ?_, fun h => by omega, fun _ => rfl⟩
    rw [h31]; rfl
   ·cases c5
  ·
   try simp only [qz1, qz2, qz3, qz4, qz5, qz6, qz7, qz8] at g5_8
   refine P_det rf (Over_nil (y_fieldAddr rf fa62_2)) ?_
   refine P_det rf (Over_nil (y_load1 rf Tryz.isAgg60 (Mem.own1 2 rf rf))) ?_
   refine P_det rf (Over_nil (y_len rf Tryz.runUnderlying60)) ?_
   refine P_det rf (Over_nil (y_gtr rf rf)) ?_
   refine P_det rf (Over_nil (by first | exact y_pick_t (c := .bool _) rf rf | exact y_pick_f (c := .bool _) rf rf)) ?_
   refine PW_end rf ?_
   refine OverAll_nil ?_
   rintro -
   refine Then_normal ?_
   refine W_cond rf (fun c5 => ?_) (fun c5 => ?_)
   ·
    try simp only [qz1, qz2, qz3, qz4, qz5, qz6, qz7, qz8] at c5
    refine zR fun ds => ?_
    refine za (.pointer _) hF ?_
    refine za (.int .i64 _) hF ?_
    refine zN ?_
    refine W_ret ?_
    refine Then_ret ?_
    refine Fin_ret [.pointer _, .int .i64 _] [] Tryz.results108 ⟨by rfl, by rfl, trivial⟩ HSub.nil ?_
    have h31 : l.err = 31 := by
     have : decide (l.es.length ≤ 12) = false := by simp; omega
     simp [Lg.err, Lg.okB, c2, this]
    refine ⟨none, ?_, fun h => by omega, fun _ => rfl⟩
    rw [h31]; rfl
   ·
    try simp only [qz1, qz2, qz3, qz4, qz5, qz6, qz7, qz8] at c5
    refine W_skip ?_
    refine zS fun ds => ?_
    refine za (.int .i64 _) hF ?_
    refine zO ?_
    refine zR fun ds => ?_
    refine zD hF (y_fieldAddr rf fa62_2) ?_
    refine zD hF (y_load1 rf Tryz.isAgg60 (Mem.own1 2 rf rf)) ?_
    refine zD hF (y_len rf Tryz.runUnderlying60) ?_
    refine zm (.int .i64 _) hF ?_
    refine zN ?_
    refine W_block ?_
    refine W_loop (γ := Nat) (fun k => k ≤ l.es.length ∧ l.tk.entsB 0 (l.es.take k) = true) (fun k => [(40, .int .i64 (k : Int)), (39, .int .i64 (l.es.length : Int)), (38, .slice ae l.es.length cape), (7, .int .i64 (l.dayAt k)), (1, .pointer (some ⟨b1, 0, none⟩)), (4, .pointer (some ⟨g, 0, none⟩)), (6, .pointer (some ⟨bk, 0, none⟩))]) (fun _ => _) (fun k => l.es.length - k) (0) ⟨Nat.zero_le _, rfl⟩ s10 (List.Sublist.refl _) ?_
    rintro k e ⟨hk, hent⟩
    refine zR fun ds => ?_
    refine zD hF (y_lss rf rf) ?_
    refine zO ?_
    refine W_cond rf (fun c9 => ?_) (fun c9 => ?_)
    ·
     try simp only [qz1, qz2, qz3, qz4, qz5, qz6, qz7, qz8] at c9
     obtain ⟨b, o, rfl, hc⟩ := he.cell k om0
     change At w b _ (l.e k).cells at hc
     refine zU ?_
     refine W_seq ?_
     refine W_block ?_
     refine zR fun ds => ?_
     refine zD hF (y_index (k := k) rf rf r10 d10 Tryz.runUnderlying60 Tryz.sizeOf90) ?_
     refine zD hF (y_loadN rf Tryz.isAgg90 Tryz.sizeOf90 (zq [.int .i64 _, .int .i64 _, .int .i64 _, .int .i64 _]) rf) ?_
     refine WS_new hF rf (y_alloc Tryz.zeroValue90 rf) (fun b4 => ?_)
     refine WS_store hF (i := 0) rf rf Tryz.sizeOf90 rf rf rf d20 ?_
     refine zO ?_
     refine W_seq ?_
     refine W_draw0 hF Tryzmixed [] dk0 (fun ds => ?_)
     refine P_det rf (Over_nil (y_move (c := .int .i64 _) rf)) ?_
     refine P_det rf (Over_nil (y_fieldAddr rf fa90_0)) ?_
     refine P_det rf (Over_nil (y_load1 rf Tryz.isAgg3 (Mem.own1 0 rf rf))) ?_
     refine P_new rf rf (Over_nil (y_buildSliceL bs22_1_0 rf)) ?_
     refine P_det rf (Over_in rf (Over_nil (by rintro _ _ ⟨b6, rfl, rfl⟩; exact (y_callL rf rf Tryz.call80 (fun w hw => in_any _ _ _ _ _ _ w dc (by first | exact Ints.one 0 rfl w hw | exact Ints.two 0 rfl w hw)))))) ?_
     refine P_det rf (Over_out rf (Over_nil (y_not rf))) ?_
     refine P_det rf (Over_out rf (Over_nil (y_move (c := .bool _) rf))) ?_
     refine P_split 50 rf (fun g11_6 => ?_) (fun g11_6 => ?_)
     ·
      try simp only [qz1, qz2, qz3, qz4, qz5, qz6, qz7, qz8] at g11_6
      refine P_no rf ?_
      refine P_no rf ?_
      refine P_no rf ?_
      refine P_no rf ?_
      refine P_no rf ?_
      refine P_det rf (Over_out rf (Over_nil (by first | exact y_pick_t (c := .bool _) rf rf | exact y_pick_f (c := .bool _) rf rf))) ?_
      refine P_det rf (Over_out rf (Over_nil (y_move (c := .bool _) rf))) ?_
      refine P_no rf ?_
      refine P_no rf ?_
      refine P_no rf ?_
      refine P_no rf ?_
      refine P_no rf ?_
      refine P_no rf ?_
      refine P_no rf ?_
      refine P_no rf ?_
      refine P_no rf ?_
      refine P_no rf ?_
      refine P_no rf ?_
      refine P_no rf ?_
      refine P_no rf ?_
      refine P_det rf (Over_out rf (Over_nil (by first | exact y_pick_t (c := .bool _) rf rf | exact y_pick_f (c := .bool _) rf rf))) ?_
      refine PW_end rf ?_
      refine OverAll_cons (fun w47 l47 => ?_)
      refine OverAll_nil ?_
      rintro ⟨-, h47⟩
      obtain ⟨b5, rfl, rfl⟩ := h47
      refine Then_normal ?_
      refine W_cond rf (fun c11 => ?_) (fun c11 => ?_)
      ·
       try simp only [qz1, qz2, qz3, qz4, qz5, qz6, qz7, qz8] at c11
       refine zR fun ds => ?_
       refine za (.pointer _) hF ?_
       refine za (.int .i64 _) hF ?_
       refine zN ?_
       refine W_ret ?_
       refine Then_ret ?_
       refine InB_ret ?_
       refine Then_ret ?_
       refine Loop_ret ?_
       refine InB_ret ?_
       refine Then_ret ?_
       refine Fin_ret [.pointer _, .int .i64 _] [] Tryz.results108 ⟨by rfl, by rfl, trivial⟩ HSub.nil ?_
       have hbad : l.tk.entB (if k = 0 then 0 else (l.es.getD (k - 1) En.z).day) (l.es.getD k En.z) = false := by
        show l.tk.entB (l.dayAt k) (l.e k) = false
        unfold Tk.entB
        rw [show inB (l.dayAt k) 3652 [(l.e k).day] = false from g11_6]; rfl
       have h31 : l.err = 31 := by simp [Lg.err, Lg.okB, c2, l.tk.entsB_bad om0 hbad]
       refine ⟨none, ?_, fun h => by omega, fun _ => rfl⟩
       rw [h31]; rfl
      ·cases c11
     ·
      try simp only [qz1, qz2, qz3, qz4, qz5, qz6, qz7, qz8] at g11_6
      refine P_det rf (Over_out rf (Over_nil (y_fieldAddr rf fa90_1))) ?_
      refine P_det rf (Over_out rf (Over_nil (y_load1 rf Tryz.isAgg3 (Mem.own1 0 rf rf)))) ?_
      refine P_new rf rf (Over_out rf (Over_nil (y_buildSliceL bs22_1_0 rf))) ?_
      refine P_det rf (Over_in rf (Over_out rf (Over_nil (by rintro _ _ ⟨b8, rfl, rfl⟩; exact (y_callL rf rf Tryz.call80 (fun w hw => in_any _ _ _ _ _ _ w dc (by first | exact Ints.one 0 rfl w hw | exact Ints.two 0 rfl w hw))))))) ?_
      refine P_det rf (Over_out rf (Over_out rf (Over_nil (y_not rf)))) ?_
      refine P_det rf (Over_out rf (Over_out rf (Over_nil (by first | exact y_pick_t (c := .bool _) rf rf | exact y_pick_f (c := .bool _) rf rf)))) ?_
      refine P_det rf (Over_out rf (Over_out rf (Over_nil (y_move (c := .bool _) rf)))) ?_
      refine P_split 57 rf (fun g11_13 => ?_) (fun g11_13 => ?_)
      ·
       try simp only [qz1, qz2, qz3, qz4, qz5, qz6, qz7, qz8] at g11_13
       refine P_no rf ?_
       refine P_no rf ?_
       refine P_no rf ?_
       refine P_no rf ?_
       refine P_no rf ?_
       refine P_no rf ?_
       refine P_no rf ?_
       refine P_no rf ?_
       refine P_no rf ?_
       refine P_no rf ?_
       refine P_no rf ?_
       refine P_no rf ?_
       refine P_no rf ?_
       refine P_det rf (Over_out rf (Over_out rf (Over_nil (by first | exact y_pick_t (c := .bool _) rf rf | exact y_pick_f (c := .bool _) rf rf)))) ?_
       refine PW_end rf ?_
       refine OverAll_cons (fun w53 l53 => ?_)
       refine OverAll_cons (fun w47 l47 => ?_)
       refine OverAll_nil ?_
       rintro ⟨⟨-, h53⟩, h47⟩
       obtain ⟨b5, rfl, rfl⟩ := h47
       obtain ⟨b7, rfl, rfl⟩ := h53
       refine Then_normal ?_
       refine W_cond rf (fun c11 => ?_) (fun c11 => ?_)
       ·
        try simp only [qz1, qz2, qz3, qz4, qz5, qz6, qz7, qz8] at c11
        refine zR fun ds => ?_
        refine za (.pointer _) hF ?_
        refine za (.int .i64 _) hF ?_
        refine zN ?_
        refine W_ret ?_
        refine Then_ret ?_
        refine InB_ret ?_
        refine Then_ret ?_
        refine Loop_ret ?_
        refine InB_ret ?_
        refine Then_ret ?_
        refine Fin_ret [.pointer _, .int .i64 _] [] Tryz.results108 ⟨by rfl, by rfl, trivial⟩ HSub.nil ?_
        have hbad : l.tk.entB (if k = 0 then 0 else (l.es.getD (k - 1) En.z).day) (l.es.getD k En.z) = false := by
         show l.tk.entB (l.dayAt k) (l.e k) = false
         unfold Tk.entB
         rw [show inB 1 3 [(l.e k).kind] = false from g11_13, Bool.and_false]; rfl
        have h31 : l.err = 31 := by simp [Lg.err, Lg.okB, c2, l.tk.entsB_bad om0 hbad]
        refine ⟨none, ?_, fun h => by omega, fun _ => rfl⟩
        rw [h31]; rfl
       ·cases c11
      ·
       try simp only [qz1, qz2, qz3, qz4, qz5, qz6, qz7, qz8] at g11_13
       have hkd := inB1.1 g11_13
       obtain ⟨kk, hkk⟩ : ∃ kk : Nat, (l.e k).kind = (kk : Int) := Int.eq_ofNat_of_zero_le om0
       refine P_det rf (Over_out rf (Over_out rf (Over_nil (y_move (c := .pointer _) rf)))) ?_
       refine P_det rf (Over_out rf (Over_out rf (Over_nil (y_fieldAddr rf fa90_1)))) ?_
       refine P_det rf (Over_out rf (Over_out rf (Over_nil (y_load1 rf Tryz.isAgg3 (Mem.own1 0 rf rf))))) ?_
       refine P_det rf (Over_out rf (Over_out rf (Over_nil znk))) ?_
       refine P_det rf (Over_out rf (Over_out rf (Over_nil (y_fieldAddr rf fa141_2)))) ?_
       refine P_det rf (Over_out rf (Over_out rf (Over_nil (y_indexA (k := kk) rf rf r10 d10 Tryz.runUnderlying139 Tryz.sizeOf138)))) ?_
       refine P_det rf (Over_out rf (Over_out rf (Over_nil (y_fieldAddr rf fa138_0)))) ?_
       refine P_det rf (Over_out rf (Over_out rf (Over_nil (y_load1 rf Tryz.isAgg135 (by first | exact Mem.own1 0 rf (right_cell _ l _ cap _ cape kk om0) | exact Mem.own1 1 rf (right_cell _ l _ cap _ cape kk om0) | exact Mem.own1 2 rf (right_cell _ l _ cap _ cape kk om0)))))) ?_
       refine P_det rf (Over_out rf (Over_out rf (Over_nil (y_move (c := .pointer _) rf)))) ?_
       refine P_det rf (Over_out rf (Over_out rf (Over_nil (y_fieldAddr rf fa90_2)))) ?_
       refine P_det rf (Over_out rf (Over_out rf (Over_nil (y_loadN rf Tryz.isAgg59 Tryz.sizeOf59 (Mem.own (us := [.int .i64 _, .int .i64 _]) 0 rf rf) rf)))) ?_
       refine P_det rf (Over_out rf (Over_out rf (Over_nil (y_callL rf rf (right_call _) (fun w hw => right_any _ g 0 l.tk (l.e k).size w (Gg.own (by repeat (first | exact List.mem_cons_self | apply List.mem_cons_of_mem)) c2 hx w hw)))))) ?_
       refine P_det rf (Over_out rf (Over_out rf (Over_nil (y_not rf)))) ?_
       refine P_det rf (Over_out rf (Over_out rf (Over_nil (by first | exact y_pick_t (c := .bool _) rf rf | exact y_pick_f (c := .bool _) rf rf)))) ?_
       refine PW_end rf ?_
       refine OverAll_cons (fun w53 l53 => ?_)
       refine OverAll_cons (fun w47 l47 => ?_)
       refine OverAll_nil ?_
       rintro ⟨⟨-, h53⟩, h47⟩
       obtain ⟨b5, rfl, rfl⟩ := h47
       obtain ⟨b7, rfl, rfl⟩ := h53
       refine Then_normal ?_
       refine W_cond rf (fun c11 => ?_) (fun c11 => ?_)
       ·
        try simp only [qz1, qz2, qz3, qz4, qz5, qz6, qz7, qz8] at c11
        refine zR fun ds => ?_
        refine za (.pointer _) hF ?_
        refine za (.int .i64 _) hF ?_
        refine zN ?_
        refine W_ret ?_
        refine Then_ret ?_
        refine InB_ret ?_
        refine Then_ret ?_
        refine Loop_ret ?_
        refine InB_ret ?_
        refine Then_ret ?_
        refine Fin_ret [.pointer _, .int .i64 _] [] Tryz.results108 ⟨by rfl, by rfl, trivial⟩ HSub.nil ?_
        have hbad : l.tk.entB (if k = 0 then 0 else (l.es.getD (k - 1) En.z).day) (l.es.getD k En.z) = false := by
         show l.tk.entB (l.dayAt k) (l.e k) = false
         unfold Tk.entB
         rw [show (l.e k).size.inB (l.tk.most (l.e k).kind) = false by rw [hkk]; exact c11, Bool.and_false]
        have h31 : l.err = 31 := by simp [Lg.err, Lg.okB, c2, l.tk.entsB_bad om0 hbad]
        refine ⟨none, ?_, fun h => by omega, fun _ => rfl⟩
        rw [h31]; rfl
       ·
        try simp only [qz1, qz2, qz3, qz4, qz5, qz6, qz7, qz8] at c11
        have hgood : (true && l.tk.entB (if k = 0 then 0 else (l.es.getD (k - 1) En.z).day) (l.es.getD k En.z)) = true := by
         rw [Bool.true_and]
         show l.tk.entB (l.dayAt k) (l.e k) = true
         unfold Tk.entB
         rw [show inB (l.dayAt k) 3652 [(l.e k).day] = true from g11_6, show inB 1 3 [(l.e k).kind] = true from g11_13, show (l.e k).size.inB (l.tk.most (l.e k).kind) = true by rw [hkk]; exact c11]; rfl
        refine W_skip ?_
        refine zT fun ds => ?_
        refine zD hF (y_fieldAddr rf fa90_0) ?_
        refine zD hF (y_load1 rf Tryz.isAgg3 (Mem.own1 2 rf rf)) ?_
        refine za (.int .i64 _) hF ?_
        refine WS_nil ?_
        refine InB_normal ?_
        refine zT fun ds => ?_
        refine zD hF (y_add rf rf ui) ?_
        refine zm (.int .i64 _) hF ?_
        refine WS_nil ?_
        exact Loop_next (k + 1) ⟨by omega, by rw [l.tk.entsB_succ l.es 0 k om0, hent]; exact hgood⟩ s10 s20 om0
    ·
     try simp only [qz1, qz2, qz3, qz4, qz5, qz6, qz7, qz8] at c9
     refine W_exit ?_
     refine Then_exit ?_
     refine Loop_exit ?_
     refine InB_same ?_
     refine zS fun ds => ?_
     refine zm (.pointer _) hF ?_
     refine za (.pointer _) hF ?_
     refine za (.int .i64 _) hF ?_
     refine zN ?_
     refine W_ret ?_
     have h0 : l.err = 0 := by
      have hkn : k = l.es.length := by omega
      rw [hkn, List.take_length] at hent
      have hs : l.start.inB l.tk.full = true := g5_8
      have h12 : decide (l.es.length ≤ 12) = true := by simp; omega
      simp [Lg.err, Lg.okB, c2, hs, hent, h12]
     refine Fin_ret [.pointer _, .int .i64 _] [(bk, _), (g, _)] Tryz.results108 ⟨by rfl, by rfl, trivial⟩ (HSub.sub (by repeat (first | exact List.nil_sublist _ | apply List.Sublist.cons_cons | apply List.Sublist.cons))) ?_
     refine ⟨_, by rw [h0]; rfl, fun _ => ⟨g, bk, rfl, rfl⟩, fun h => absurd h0 h⟩
theorem holding_any (bk : Nat) (w : World) : Ct Tryz.prog 109 #[.pointer (some ⟨bk, 0, none⟩)] w fun v Hn => ∃ bx, v = .func (.func 139) #[] #[.pointer (some ⟨bx, 0, none⟩)] ∧ Hn = [(bx, CB [.pointer (some ⟨bk, 0, none⟩)] 130)] := by
 have hF := wide_wide
 refine Ct_start (args := [_]) Tryz.func109 rf Tryz.ntmps109 rf ?_
 refine zR fun ds => ?_
 refine WS_new hF rf (y_box rf) (fun b1 => ?_)
 refine za (_) hF ?_
 refine zP fun ds => ?_
 refine zD hF (y_makeFuncL rf rf) ?_
 refine za (_) hF ?_
 refine zN ?_
 refine W_ret ?_
 refine Fin_ret [_] [(b1, _)] Tryz.results109 ⟨by rfl, trivial⟩ (HSub.sub (by repeat (first | exact List.nil_sublist _ | apply List.Sublist.cons_cons | apply List.Sublist.cons))) ?_
 exact ⟨_, rfl, rfl⟩
theorem Bk.own {C : Ctx} {H : List Blk} {bk g : Nat} {l : Lg} {a : Option Addr} {cap : Nat} {ae : Option Addr} {cape : Nat} (hb : (bk, CB (bookCells g l a cap ae cape) 141) ∈ H) (hg : (g, CB (gaugeCells l.tk a cap) 143) ∈ H) (hok : l.Ok) (hx : Ints C.w0 a l.tk.n cap l.tk.pints) (he : Ens C.w0 ae l.es.length cape l.es)
  (w : World) (hw : St C H w) : Bk w bk l := by
 obtain ⟨i, hi, hii⟩ := List.mem_iff_getElem.1 hb
 exact ⟨hok, g, a, cap, ae, cape, Mem.own (rest := []) i ((List.getElem?_eq_getElem hi).trans (congrArg some hii)) (by rw [List.append_nil]; rfl) w hw, Gg.own hg (Tk.ok_iff.2 hok.tk) hx w hw, he.st w hw⟩
def Lg.hold (l : Lg) : Nat → Sn
 | 0 => l.start
 | k + 1 => l.after k (l.hold k)
def Sn.empty (s : Sn) : Bool := decide (s.hi < s.lo)
def Lg.steps (l : Lg) (k : Nat) : Nat → Nat
 | 0 => 1
 | m + 1 => if (l.hold k).empty then 1 else 1 + l.steps (k + 1) m
theorem Lg.Ok.hold_bd {l : Lg} (h : l.Ok) : ∀ k, k ≤ l.es.length → (∀ j, j < k → (l.hold j).empty = false) → 0 ≤ (l.hold k).lo ∧ (l.hold k).hi ≤ l.tk.full ∧ (l.hold k).lo ≤ 700000 ∧ -700000 ≤ (l.hold k).hi
 | 0, _, _ => by
  have := Sn.inB_iff.1 h.start
  have := h.tk.full_bd
  show 0 ≤ l.start.lo ∧ l.start.hi ≤ _ ∧ _ ∧ _
  refine ⟨by omega, by omega, ?_, ?_⟩
  ·show l.start.lo ≤ _; omega
  ·show _ ≤ l.start.hi; omega
 | k + 1, hk, hj => by
  have ih := Lg.Ok.hold_bd h k om0 fun j hjk => hj j om0
  have he := hj k om0
  unfold Sn.empty at he
  simp only [decide_eq_false_iff_not, Int.not_lt] at he
  have hd := h.drip_bd (i := k) om0
  have hf := h.tk.full_bd
  have hz := Sn.inB_iff.1 (h.size k om0)
  have hhb : l.tk.height ≤ 160 := by have := h.tk.n21; unfold Tk.height; omega
  have hup := h.tk.eight_bd (x := (l.e k).size.lo)
  have hdn := h.tk.eight_bd (x := (l.e k).size.hi)
  show 0 ≤ (l.after k (l.hold k)).lo ∧ (l.after k (l.hold k)).hi ≤ _ ∧ (l.after k (l.hold k)).lo ≤ 700000 ∧ -700000 ≤ (l.after k (l.hold k)).hi
  generalize l.hold k = s at *
  unfold Lg.after Tk.forth Lg.before
  unfold Tk.most at hz
  split
  ·rename_i h1
   rw [if_neg om0] at hz
   simp only [Sn.met, Sn.add, Tk.all]
   omega
  ·split
   ·rename_i h1 h2
    rw [if_neg om0] at hz
    simp only [Sn.met, Sn.sub, Tk.all]
    omega
   ·rename_i h1 h2
    have hk := h.kind k om0
    rw [if_pos om0] at hz
    have hup := hup om0 om0
    have hdn := hdn om0 om0
    simp only [Sn.met, Tk.dip, Tk.up, Tk.down]
    omega
theorem Lg.Ok.hold_sm {l : Lg} (h : l.Ok) {k : Nat} (hk : k ≤ l.es.length) (hj : ∀ j, j < k → (l.hold j).empty = false) (he : (l.hold k).empty = false) : (l.hold k).Sm := by
 have h1 := h.hold_bd k hk hj
 have hf := h.tk.full_bd
 unfold Sn.empty at he
 simp only [decide_eq_false_iff_not, Int.not_lt] at he
 unfold Sn.Sm
 omega
def Lg.times (l : Lg) : Nat := l.steps 0 l.es.length
theorem Lg.steps_pos (l : Lg) (k m : Nat) : 1 ≤ l.steps k m := by
 cases m with
 | zero => exact Nat.le_refl _
 | succ m => unfold Lg.steps; split <;> omega
theorem Lg.steps_more (l : Lg) {k m : Nat} (he : (l.hold k).empty = false) : l.steps k (m + 1) = 1 + l.steps (k + 1) m := by
 rw [Lg.steps, he]; rfl
theorem Lg.steps_end (l : Lg) {k m : Nat} (he : (l.hold k).empty = true) : l.steps k m = 1 := by
 cases m with
 | zero => rfl
 | succ m => rw [Lg.steps, he]; rfl
theorem holding_it (l : Lg) (w0 : World) (ds0 out0 : List Deferred) (bx bk g : Nat) (a : Option Addr) (cap : Nat) (ae : Option Addr) (cape : Nat) (hok : l.Ok) (hx : Ints w0 a l.tk.n cap l.tk.pints) (he : Ens w0 ae l.es.length cape l.es) :
  It ⟨Tryz.prog, w0, ds0, out0⟩ 139 [.pointer (some ⟨bx, 0, none⟩)] (fun k => [.int .i64 (k : Int), .agg (l.hold k).cells.toArray]) l.times
   [(bx, CB [.pointer (some ⟨bk, 0, none⟩)] 130), (bk, CB (bookCells g l a cap ae cape) 141), (g, CB (gaugeCells l.tk a cap) 143)] := by
 intro lp J Jx hY G hJ
 have h0 : 0 < l.times := l.steps_pos 0 _
 have hn := hok.n12
 have he0 : (l.hold 0).empty = false := by
  have := Sn.inB_iff.1 hok.start
  show decide (l.start.hi < l.start.lo) = false
  simp only [decide_eq_false_iff_not]; omega
 have hF := wide_wide
 refine Cs_start (args := [_, _]) Tryz.func139 rf Tryz.ntmps139 rf ?_
 refine zR fun ds => ?_
 refine zD hF (y_load1 rf Tryz.isAgg130 (Mem.own1 0 rf rf)) ?_
 refine zD hF znk ?_
 refine zD hF (y_fieldAddr rf fa141_1) ?_
 refine zD hF (y_fieldAddr rf fa62_1) ?_
 refine zD hF (y_loadN rf Tryz.isAgg59 Tryz.sizeOf59 (Mem.own (us := [.int .i64 _, .int .i64 _]) 1 rf rf) rf) ?_
 refine WS_new hF rf (y_alloc Tryz.zeroValue59 rf) (fun b1 => ?_)
 refine WS_store hF (i := 0) rf rf Tryz.sizeOf59 rf rf rf d20 ?_
 refine zO ?_
 refine zR fun ds => ?_
 refine zm (_) hF ?_
 refine zD hF (y_loadN rf Tryz.isAgg59 Tryz.sizeOf59 (Mem.own (us := [.int .i64 _, .int .i64 _]) 0 rf rf) rf) ?_
 refine WS_yield rf rf rf (hY 0 h0 ds [_, _, _, _] G hJ) ?_
 rintro yb _ ⟨G1, rfl, hb⟩
 refine zD hF (y_not rf) ?_
 refine zN ?_
 refine W_cond rf (fun c1 => ?_) (fun c1 => ?_)
 ·
  try simp only [qz1, qz2, qz3, qz4, qz5, qz6, qz7, qz8] at c1
  obtain ⟨rfl, hj⟩ | ⟨_, hj⟩ := hb
  ·cases c1
  refine W_ret ?_
  refine Then_ret ?_
  refine Fin_ret [] ((bx, _) :: (bk, _) :: (g, _) :: G1) Tryz.results139 trivial (HSub.sub s20) ?_
  exact ⟨G1, rfl, .inr ⟨0, h0, hj⟩⟩
 ·
  try simp only [qz1, qz2, qz3, qz4, qz5, qz6, qz7, qz8] at c1
  obtain ⟨_, hj⟩ | ⟨rfl, hj⟩ := hb
  case inr => cases c1
  refine W_skip ?_
  refine zS fun ds => ?_
  refine zD hF (y_load1 rf Tryz.isAgg130 (Mem.own1 1 rf rf)) ?_
  refine zD hF znk ?_
  refine zD hF (y_fieldAddr rf fa141_1) ?_
  refine zD hF (y_fieldAddr rf fa62_2) ?_
  refine zD hF (y_load1 rf Tryz.isAgg60 (Mem.own1 2 rf rf)) ?_
  refine zD hF (y_len rf Tryz.runUnderlying60) ?_
  refine zm (.int .i64 _) hF ?_
  refine zN ?_
  refine W_block ?_
  refine W_loop (γ := Nat × List Blk) (fun p => p.1 ≤ l.es.length ∧ (∀ j, j ≤ p.1 → (l.hold j).empty = false) ∧ l.times = p.1 + l.steps p.1 (l.es.length - p.1) ∧ J (p.1 + 1) p.2) (fun p => [(0, .func (.yield lp) #[] #[]), (1, .pointer (some ⟨bx, 0, none⟩)), (3, .pointer (some ⟨b1, 0, none⟩)), (19, .int .i64 (l.es.length : Int)), (20, .int .i64 (p.1 : Int))]) (fun p => (b1, CB (l.hold p.1).cells 59) :: (bx, CB [.pointer (some ⟨bk, 0, none⟩)] 130) :: (bk, CB (bookCells g l a cap ae cape) 141) :: (g, CB (gaugeCells l.tk a cap) 143) :: p.2) (fun p => l.es.length - p.1) ((0, G1)) ⟨Nat.zero_le _, fun j hj => by obtain rfl : j = 0 := om0; exact he0, by show l.times = 0 + l.times; omega, hj⟩ s10 (List.Sublist.refl _) ?_
  rintro ⟨k, G2⟩ e ⟨hk, hne, htm, hj2⟩
  refine zR fun ds => ?_
  refine zD hF (y_lss rf rf) ?_
  refine zO ?_
  refine W_cond rf (fun c3 => ?_) (fun c3 => ?_)
  ·
   try simp only [qz1, qz2, qz3, qz4, qz5, qz6, qz7, qz8] at c3
   have hk1 : k + 1 < l.times := by
    rw [htm, show l.es.length - k = (l.es.length - (k + 1)) + 1 by omega, l.steps_more (hne k (Nat.le_refl _))]
    have := l.steps_pos (k + 1) (l.es.length - (k + 1))
    omega
   refine zU ?_
   refine W_seq ?_
   refine W_block ?_
   refine zR fun ds => ?_
   refine zm (.int .i64 _) hF ?_
   refine za (.int .i64 _) hF ?_
   refine zP fun ds => ?_
   refine zD hF (y_load1 rf Tryz.isAgg130 (Mem.own1 1 rf rf)) ?_
   refine zm (.int .i64 _) hF ?_
   refine zD hF (y_loadN rf Tryz.isAgg59 Tryz.sizeOf59 (Mem.own (us := [.int .i64 _, .int .i64 _]) 0 rf rf) rf) ?_
   refine zD hF (y_callL rf rf Tryz.call140 (fun w hw => after_any bk l k (l.hold k) w (Bk.own (by repeat (first | exact List.mem_cons_self | apply List.mem_cons_of_mem)) (by repeat (first | exact List.mem_cons_self | apply List.mem_cons_of_mem)) hok hx he w hw) om0 (hok.hold_sm om0 (fun j hj => hne j om0) (hne k (Nat.le_refl _))))) ?_
   refine WS_store hF (i := 0) rf rf Tryz.sizeOf59 rf rf rf d20 ?_
   refine zP fun ds => ?_
   refine zm (_) hF ?_
   refine zm (.int .i64 _) hF ?_
   refine zD hF (y_add rf rf ui) ?_
   refine zD hF (y_loadN rf Tryz.isAgg59 Tryz.sizeOf59 (Mem.own (us := [.int .i64 _, .int .i64 _]) 0 rf rf) rf) ?_
   refine WS_yield rf rf rf (hY (k + 1) hk1 ds [_, _, _, _] G2 hj2) ?_
   rintro yb _ ⟨G3, rfl, hb⟩
   refine zD hF (y_not rf) ?_
   refine zm (.bool _) hF ?_
   refine WS_split 33 rf (fun g6_6 => ?_) (fun g6_6 => ?_)
   ·
    try simp only [qz1, qz2, qz3, qz4, qz5, qz6, qz7, qz8] at g6_6
    obtain ⟨rfl, hj3⟩ | ⟨_, hj3⟩ := hb
    ·cases g6_6
    refine zno hF ?_
    refine zno hF ?_
    refine zD hF (zpk (.bool _)) ?_
    refine zN ?_
    refine W_cond rf (fun c6 => ?_) (fun c6 => ?_)
    ·
     try simp only [qz1, qz2, qz3, qz4, qz5, qz6, qz7, qz8] at c6
     refine W_ret ?_
     refine InB_ret ?_
     refine Then_ret ?_
     refine Loop_ret ?_
     refine InB_ret ?_
     refine Fin_ret [] ((bx, _) :: (bk, _) :: (g, _) :: G3) Tryz.results139 trivial (HSub.sub s20) ?_
     exact ⟨G3, rfl, .inr ⟨k + 1, hk1, hj3⟩⟩
    ·cases c6
   ·
    try simp only [qz1, qz2, qz3, qz4, qz5, qz6, qz7, qz8] at g6_6
    obtain ⟨_, hj3⟩ | ⟨rfl, hj3⟩ := hb
    case inr => cases g6_6
    refine zD hF (y_loadN rf Tryz.isAgg59 Tryz.sizeOf59 (Mem.own (us := [.int .i64 _, .int .i64 _]) 0 rf rf) rf) ?_
    refine zD hF (y_callL rf rf Tryz.call110 (fun w hw => empty_any (l.hold (k + 1)).lo (l.hold (k + 1)).hi w)) ?_
    refine zD hF (zpk (.bool _)) ?_
    refine zN ?_
    refine W_cond rf (fun c6 => ?_) (fun c6 => ?_)
    ·
     try simp only [qz1, qz2, qz3, qz4, qz5, qz6, qz7, qz8] at c6
     refine W_ret ?_
     refine InB_ret ?_
     refine Then_ret ?_
     refine Loop_ret ?_
     refine InB_ret ?_
     refine Fin_ret [] ((bx, _) :: (bk, _) :: (g, _) :: G3) Tryz.results139 trivial (HSub.sub s20) ?_
     refine ⟨G3, rfl, .inl ?_⟩
     rw [htm, show l.es.length - k = (l.es.length - (k + 1)) + 1 by omega, l.steps_more (hne k (Nat.le_refl _)), l.steps_end (by unfold Sn.empty; simp only [decide_eq_true_eq]; omega)]
     rw [show k + (1 + 1) = k + 1 + 1 by omega]
     exact hj3
    ·
     try simp only [qz1, qz2, qz3, qz4, qz5, qz6, qz7, qz8] at c6
     have hne1 : ∀ j, j ≤ k + 1 → (l.hold j).empty = false := fun j hj => by
      obtain hj | rfl : j ≤ k ∨ j = k + 1 := by omega
      ·exact hne j hj
      ·unfold Sn.empty; simp only [decide_eq_false_iff_not]; omega
     have htm1 : l.times = (k + 1) + l.steps (k + 1) (l.es.length - (k + 1)) := by
      rw [htm, show l.es.length - k = (l.es.length - (k + 1)) + 1 by omega, l.steps_more (hne k (Nat.le_refl _))]; omega
     refine W_skip ?_
     refine InB_normal ?_
     refine zT fun ds => ?_
     refine zD hF (y_add rf rf ui) ?_
     refine zm (.int .i64 _) hF ?_
     refine WS_nil ?_
     exact Loop_next (k + 1, G3) ⟨by omega, hne1, htm1, hj3⟩ s10 s20 (by simp only; omega)
  ·
   try simp only [qz1, qz2, qz3, qz4, qz5, qz6, qz7, qz8] at c3
   refine W_exit ?_
   refine Then_exit ?_
   refine Loop_exit ?_
   refine InB_same ?_
   refine Fin_norm [] ((bx, _) :: (bk, _) :: (g, _) :: G2) Tryz.results139 trivial (HSub.sub s20) ?_
   refine ⟨G2, rfl, .inl ?_⟩
   obtain rfl : k = l.es.length := by omega
   rw [htm, Nat.sub_self]; exact hj2
def Lg.aftR (l : Lg) : Nat → Sn
 | 0 => l.tk.all
 | m + 1 => ⟨(l.tk.back (l.e (l.es.length - (m + 1))) (l.aftR m)).lo, min l.tk.full ((l.tk.back (l.e (l.es.length - (m + 1))) (l.aftR m)).hi + l.drip (l.es.length - (m + 1)))⟩
def Lg.aft (l : Lg) (i : Nat) : Sn := l.aftR (l.es.length - i)
def Lg.ahd (l : Lg) (i : Nat) : Sn := l.tk.back (l.e i) (l.aft (i + 1))
theorem Lg.aft_n (l : Lg) : l.aft l.es.length = l.tk.all := by unfold Lg.aft; rw [Nat.sub_self]; rfl
theorem Lg.aft_lt (l : Lg) {i : Nat} (h : i < l.es.length) : l.aft i = ⟨(l.ahd i).lo, min l.tk.full ((l.ahd i).hi + l.drip i)⟩ := by
 unfold Lg.ahd Lg.aft
 obtain ⟨m, hm⟩ : ∃ m, l.es.length - i = m + 1 := ⟨l.es.length - i - 1, by omega⟩
 rw [hm, Lg.aftR, show l.es.length - (m + 1) = i by omega, show l.es.length - (i + 1) = m by omega]
def Sn.BB (s : Sn) (f k : Int) : Prop := 0 ≤ s.lo ∧ s.hi ≤ f ∧ s.lo ≤ 700000 * k ∧ -(700000 * k) ≤ s.hi
theorem Lg.Ok.back_bd {l : Lg} (h : l.Ok) {i : Nat} (hi : i < l.es.length) {s : Sn} {k : Int} (hk : 1 ≤ k) (hs : s.BB l.tk.full k) : (l.tk.back (l.e i) s).BB l.tk.full (k + 1) := by
 have hf := h.tk.full_bd
 have hz := Sn.inB_iff.1 (h.size i hi)
 have hhb : l.tk.height ≤ 160 := by have := h.tk.n21; unfold Tk.height; omega
 have hup := h.tk.eight_bd (x := (l.e i).size.lo)
 have hdn := h.tk.eight_bd (x := (l.e i).size.hi)
 have hkd := h.kind i hi
 unfold Sn.BB at hs ⊢
 unfold Tk.back
 unfold Tk.most at hz
 split
 ·rename_i h1
  rw [if_neg om0] at hz
  simp only [Sn.met, Sn.sub, Tk.all]
  omega
 ·split
  ·rename_i h1 h2
   rw [if_neg om0] at hz
   simp only [Sn.met, Sn.add, Tk.all]
   omega
  ·rename_i h1 h2
   rw [if_pos om0] at hz
   have hup := hup om0 om0
   have hdn := hdn om0 om0
   simp only [Sn.met, Tk.dip, Tk.up, Tk.down]
   omega
theorem Lg.Ok.aftR_bd {l : Lg} (h : l.Ok) : ∀ m, m ≤ l.es.length → (l.aftR m).BB l.tk.full (m + 1)
 | 0, _ => by
  have hf := h.tk.full_bd
  unfold Lg.aftR Sn.BB Tk.all
  simp only
  omega
 | m + 1, hm => by
  have hb := h.back_bd (i := l.es.length - (m + 1)) om0 (k := m + 1) om0 (Lg.Ok.aftR_bd h m om0)
  have hd := h.drip_bd (i := l.es.length - (m + 1)) om0
  have hf := h.tk.full_bd
  unfold Lg.aftR
  unfold Sn.BB at hb ⊢
  push_cast
  omega
theorem Lg.Ok.aft_bd {l : Lg} (h : l.Ok) {i : Nat} (hi : i ≤ l.es.length) : 0 ≤ (l.aft i).lo ∧ (l.aft i).hi ≤ l.tk.full ∧ (l.aft i).lo ≤ 10000000 ∧ -10000000 ≤ (l.aft i).hi := by
 have := h.aftR_bd (l.es.length - i) om0
 have h12 := h.n12
 unfold Sn.BB at this
 unfold Lg.aft
 omega
theorem Lg.Ok.ahd_bd {l : Lg} (h : l.Ok) {i : Nat} (hi : i < l.es.length) : 0 ≤ (l.ahd i).lo ∧ (l.ahd i).hi ≤ l.tk.full ∧ (l.ahd i).lo ≤ 10000000 ∧ -10000000 ≤ (l.ahd i).hi := by
 have := h.back_bd hi (k := (l.es.length - (i + 1) : Nat) + 1) om0 (h.aftR_bd (l.es.length - (i + 1)) om0)
 have h12 := h.n12
 unfold Sn.BB at this
 unfold Lg.ahd Lg.aft
 omega
theorem backward_any (ae : Option Addr) (n cape : Nat) (w : World) : Ct Tryz.prog 141 #[.slice ae n cape] w fun v Hn => ∃ bx, v = .func (.func 164) #[] #[.pointer (some ⟨bx, 0, none⟩)] ∧ Hn = [(bx, CB [.slice ae n cape] 60)] := by
 have hF := wide_wide
 refine Ct_start (args := [_]) Tryz.func141 rf Tryz.ntmps141 rf ?_
 refine zR fun ds => ?_
 refine WS_new hF rf (y_box rf) (fun b1 => ?_)
 refine za (_) hF ?_
 refine zP fun ds => ?_
 refine zD hF (y_makeFuncL rf rf) ?_
 refine za (_) hF ?_
 refine zN ?_
 refine W_ret ?_
 refine Fin_ret [_] [(b1, _)] Tryz.results141 ⟨by rfl, trivial⟩ (HSub.sub (by repeat (first | exact List.nil_sublist _ | apply List.Sublist.cons_cons | apply List.Sublist.cons))) ?_
 exact ⟨_, rfl, rfl⟩
theorem backward_it (w0 : World) (ds0 out0 : List Deferred) (bx : Nat) (n : Nat) (ae : Option Addr) (cape : Nat) (es : List En) (hn : n ≤ 1000000) (he : Ens w0 ae n cape es) :
  It ⟨Tryz.prog, w0, ds0, out0⟩ 164 [.pointer (some ⟨bx, 0, none⟩)] (fun k => [.int .i64 ((n : Int) - 1 - (k : Int)), .agg (es.getD (n - 1 - k) En.z).cells.toArray]) n [(bx, CB [.slice ae n cape] 60)] := by
 intro lp J Jx hY G hJ
 have hF := wide_wide
 refine Cs_start (args := [_, _]) Tryz.func164 rf Tryz.ntmps164 rf ?_
 refine zR fun ds => ?_
 refine zD hF (y_load1 rf Tryz.isAgg60 (Mem.own1 0 rf rf)) ?_
 refine zD hF (y_len rf Tryz.runUnderlying60) ?_
 refine zD hF (y_sub rf rf ui) ?_
 refine za (.int .i64 _) hF ?_
 refine zN ?_
 refine W_block ?_
 refine W_loop (γ := Nat × List Blk) (fun p => p.1 ≤ n ∧ J p.1 p.2) (fun p => [(0, .func (.yield lp) #[] #[]), (1, .pointer (some ⟨bx, 0, none⟩)), (3, .int .i64 ((n : Int) - 1 - (p.1 : Int)))]) (fun p => (bx, CB [.slice ae n cape] 60) :: p.2) (fun p => n - p.1) ((0, G)) ⟨Nat.zero_le _, hJ⟩ (s30) (List.Sublist.refl _) ?_
 rintro ⟨k, G2⟩ e ⟨hk, hj2⟩
 refine W_seq ?_
 refine zR fun ds => ?_
 refine zm (.int .i64 _) hF ?_
 refine zD hF (y_geq rf rf) ?_
 refine zN ?_
 refine W_cond rf (fun c1 => ?_) (fun c1 => ?_)
 ·
  try simp only [qz1, qz2, qz3, qz4, qz5, qz6, qz7, qz8] at c1
  obtain ⟨b, o, rfl, hc⟩ := he.cell (n - 1 - k) om0
  refine zU ?_
  refine W_seq ?_
  refine W_block ?_
  refine zR fun ds => ?_
  refine zm (_) hF ?_
  refine zm (.int .i64 _) hF ?_
  refine zD hF (y_load1 rf Tryz.isAgg60 (Mem.own1 0 rf rf)) ?_
  refine zm (.int .i64 _) hF ?_
  refine zD hF (y_index (k := n - 1 - k) rf rf r10 d10 Tryz.runUnderlying60 Tryz.sizeOf90) ?_
  refine zD hF (y_loadN rf Tryz.isAgg90 Tryz.sizeOf90 (zq [.int .i64 _, .int .i64 _, .int .i64 _, .int .i64 _]) rf) ?_
  refine WS_yield rf rf rf (hY k om0 ds [_] G2 hj2) ?_
  rintro yb _ ⟨G3, rfl, hb⟩
  refine zD hF (y_not rf) ?_
  refine zN ?_
  refine W_cond rf (fun c3 => ?_) (fun c3 => ?_)
  ·
   try simp only [qz1, qz2, qz3, qz4, qz5, qz6, qz7, qz8] at c3
   obtain ⟨rfl, hj3⟩ | ⟨_, hj3⟩ := hb
   ·cases c3
   refine W_ret ?_
   refine InB_ret ?_
   refine Then_ret ?_
   refine Loop_ret ?_
   refine InB_ret ?_
   refine Fin_ret [] ((bx, _) :: G3) Tryz.results164 trivial (HSub.sub s20) ?_
   exact ⟨G3, rfl, .inr ⟨k, by omega, hj3⟩⟩
  ·
   try simp only [qz1, qz2, qz3, qz4, qz5, qz6, qz7, qz8] at c3
   obtain ⟨_, hj3⟩ | ⟨rfl, hj3⟩ := hb
   case inr => cases c3
   refine W_skip ?_
   refine InB_normal ?_
   refine zT fun ds => ?_
   refine zm (.int .i64 _) hF ?_
   refine zD hF (y_sub rf rf ui) ?_
   refine za (.int .i64 _) hF ?_
   refine WS_nil ?_
   exact Loop_next (k + 1, G3) ⟨by omega, hj3⟩ s30 s20 (by simp only; omega)
 ·
  try simp only [qz1, qz2, qz3, qz4, qz5, qz6, qz7, qz8] at c1
  refine W_exit ?_
  refine Then_exit ?_
  refine Loop_exit ?_
  refine InB_same ?_
  refine Fin_norm [] ((bx, _) :: G2) Tryz.results164 trivial (HSub.sub s20) ?_
  obtain rfl : k = n := by omega
  exact ⟨G2, rfl, .inl hj2⟩
theorem fa138_2 : ∀ b o w, (Instr.fieldAt 138 (.pointer (some ⟨b, o, none⟩)) 2).run Tryz.prog w = .ok (.pointer (some ⟨b, o + 2, none⟩)) w := fun b o w => by kernel_rfl
theorem sn_len (x : Sn) : x.cells.length = 2 := rfl
def Lg.af (l : Lg) (k j : Nat) : Sn := if l.es.length - k ≤ j then l.aft j else Sn.z
def Lg.bf (l : Lg) (k j : Nat) : Sn := if l.es.length - k ≤ j then l.ahd j else Sn.z
abbrev snRow (f : Nat → Sn) (n : Nat) : List Value := rowOf Sn.cells f n
theorem Lg.af_zero (l : Lg) : splice (snRow (fun _ => Sn.z) (l.es.length + 1)) (l.es.length * 2) [.int .i64 0, .int .i64 l.tk.full] = snRow (l.af 0) (l.es.length + 1) :=
 rowOf_splice sn_len om0 (by unfold Lg.af; rw [if_pos om0, l.aft_n]; rfl) fun j hj hne => by unfold Lg.af; rw [if_neg om0]
theorem Lg.af_succ (l : Lg) {k : Nat} (hk : k < l.es.length) : splice (snRow (l.af k) (l.es.length + 1)) ((l.es.length - 1 - k) * 2) [.int .i64 (l.ahd (l.es.length - 1 - k)).lo, .int .i64 (min l.tk.full ((l.ahd (l.es.length - 1 - k)).hi + l.drip (l.es.length - 1 - k)))] = snRow (l.af (k + 1)) (l.es.length + 1) :=
 rowOf_splice sn_len om0 (by unfold Lg.af; rw [if_pos om0, l.aft_lt om0]; rfl) fun j hj hne => by
  unfold Lg.af
  by_cases h : l.es.length - k ≤ j
  ·rw [if_pos h, if_pos om0]
  ·rw [if_neg h, if_neg om0]
theorem Lg.bf_zero (l : Lg) : snRow (fun _ => Sn.z) l.es.length = snRow (l.bf 0) l.es.length :=
 rowOf_congr _ fun j hj => by unfold Lg.bf; rw [if_neg om0]
theorem Lg.bf_succ (l : Lg) {k : Nat} (hk : k < l.es.length) : splice (snRow (l.bf k) l.es.length) ((l.es.length - 1 - k) * 2) (l.ahd (l.es.length - 1 - k)).cells = snRow (l.bf (k + 1)) l.es.length :=
 rowOf_splice sn_len om0 (by unfold Lg.bf; rw [if_pos om0]) fun j hj hne => by
  unfold Lg.bf
  by_cases h : l.es.length - k ≤ j
  ·rw [if_pos h, if_pos om0]
  ·rw [if_neg h, if_neg om0]
theorem Lg.af_end (l : Lg) : snRow (l.af l.es.length) (l.es.length + 1) = snRow l.aft (l.es.length + 1) := rowOf_congr _ fun j hj => by unfold Lg.af; rw [if_pos om0]
theorem Lg.bf_end (l : Lg) : snRow (l.bf l.es.length) l.es.length = snRow l.ahd l.es.length := rowOf_congr _ fun j hj => by unfold Lg.bf; rw [if_pos om0]
def BackV (l : Lg) (v : Value) (Hn : List Blk) : Prop :=
 ∃ ab bb, v = .tuple #[.slice (some ⟨ab, 0, none⟩) (l.es.length + 1) (l.es.length + 1), .slice (some ⟨bb, 0, none⟩) l.es.length l.es.length] ∧ Hn = [(ab, CB (snRow l.aft (l.es.length + 1)) 59), (bb, CB (snRow l.ahd l.es.length) 59)]
def backF (kind : Int) : FuncId := if kind = 1 then 160 else if kind = 2 then 159 else 162
theorem back_call (kind : Int) : ∀ args w, (callFunc (backF kind) args).run Tryz.prog w = .ok (.enter (backF kind) args) w := by
 unfold backF
 split
 ·exact Tryz.call160
 ·split
  ·exact Tryz.call159
  ·exact Tryz.call162
theorem back_cell (g : Nat) (l : Lg) (a : Option Addr) (cap : Nat) (ae : Option Addr) (cape : Nat) (k : Nat) (h : 1 ≤ k ∧ k ≤ 3) : (bookCells g l a cap ae cape)[7 + k * 3 + 2]? = some (.func (.func (backF (k : Int))) #[] #[]) := by
 obtain rfl | rfl | rfl : k = 1 ∨ k = 2 ∨ k = 3 := by omega
 ·rfl
 ·rfl
 ·rfl
theorem backF_any (l : Lg) (i : Nat) (g og : Nat) (s : Sn) (w : World) (hok : l.Ok) (hi : i < l.es.length) (hG : Gg w g og l.tk) (hs : s.Sm) :
  Ct Tryz.prog (backF (l.e i).kind) #[.pointer (some ⟨g, og, none⟩), .agg (l.e i).size.cells.toArray, .agg s.cells.toArray] w fun v _ => v = .agg (l.tk.back (l.e i) s).cells.toArray := by
 have hz := hok.sm hi
 have hq := hok.size i hi
 have hkd := hok.kind i hi
 unfold backF Tk.back
 split
 ·exact tless_any g og l.tk (l.e i).size s w hG hz hs
 ·split
  ·exact more_any g og l.tk (l.e i).size s w hG hz hs
  ·unfold Tk.most at hq
   rw [if_pos om0] at hq
   exact seen_any g og l.tk (l.e i).size s w hG hq
theorem infSpan : (Tryz.prog.info? 59).map (fun i => (i.zero, i.size, i.bytes)) = some (some (.agg #[.int .i64 0, .int .i64 0]), 2, 16) := by kernel_rfl
theorem back_any (bk : Nat) (l : Lg) (w : World) (hB : Bk w bk l) : Ct Tryz.prog 111 #[.pointer (some ⟨bk, 0, none⟩)] w (BackV l) := by
 have hok := hB.ok
 have hB0 := hB
 obtain ⟨_, g, a, cap, ae, cape, h1, hG, h3⟩ := hB
 have hn := hok.n12
 have ⟨_, a2, cap2, hg, _⟩ := hG
 have hF := wide_wide
 refine Ct_start (args := [_]) Tryz.func111 rf Tryz.ntmps111 rf ?_
 refine zR fun ds => ?_
 refine WS_new hF rf (y_box rf) (fun b1 => ?_)
 refine WS_new hF rf (y_alloc Tryz.zeroValue131 rf) (fun b2 => ?_)
 refine WS_new hF rf (y_alloc Tryz.zeroValue131 rf) (fun b3 => ?_)
 refine zP fun ds => ?_
 refine zD hF (y_load1 rf Tryz.isAgg130 (Mem.own1 2 rf rf)) ?_
 refine zD hF znk ?_
 refine zD hF (y_fieldAddr rf fa141_1) ?_
 refine zD hF (y_fieldAddr rf fa62_2) ?_
 refine zD hF (y_load1 rf Tryz.isAgg60 zo) ?_
 refine zD hF (y_len rf Tryz.runUnderlying60) ?_
 refine za (.int .i64 _) hF ?_
 refine zO ?_
 apply W_drawMT 6 hF Tryzmixed [Pre.dep 1000000 b2 _ 15 _ _] [1000000] [1000000] rf dk0 dc (fun _ _ h => h.perm (perm_erase (i := 1) rf).symm)
 intro ds
 refine P_det rf (Over_out rf (Over_nil (y_move (c := .int .i64 _) rf))) ?_
 refine P_det rf (Over_out rf (Over_nil (y_add rf rf ui))) ?_
 refine P_new rf rf (Over_out rf (Over_nil (y_makeSlice (n := l.es.length + 1) rf rf om0 om0 Tryz.underlying131 infSpan rf rf om0 om0))) ?_
 refine P_det rf (Over_out rf (Over_out rf (Over_nil (y_move (c := .int .i64 _) rf)))) ?_
 refine P_new rf rf (Over_out rf (Over_out rf (Over_nil (y_makeSlice (n := l.es.length) rf rf om0 om0 Tryz.underlying131 infSpan rf rf om0 om0)))) ?_
 refine P_st 1000000 2 rf rf rf rf rf (Over_out rf (Over_in rf (Over_nil (by rintro _ _ ⟨b6, rfl, rfl⟩; exact (st_preD (fun _ => by rfl) rf rf Tryz.sizeOf131 rf rf d20))))) ?_
 refine PW_end rf ?_
 refine OverAll_cons (fun w17 l17 => ?_)
 refine OverAll_cons (fun w15 l15 => ?_)
 refine OverAll_cons (fun w1000000 l1000000 => ?_)
 refine OverAll_nil ?_
 rintro ⟨⟨⟨-, h17⟩, h15⟩, h1000000⟩
 obtain ⟨b4, rfl, rfl⟩ := h15
 obtain ⟨b5, rfl, rfl⟩ := h17
 obtain rfl := h1000000
 refine WS_store hF (i := 3) rf rf Tryz.sizeOf131 rf rf rf d20 ?_
 refine zO ?_
 apply W_draw1 hF Tryzmixed [1000000] (i := 1) rf dk0
 intro ds
 refine P_det rf (Over_out rf (Over_nil (y_load1 rf Tryz.isAgg131 (Mem.own1 0 rf rf)))) ?_
 refine P_det rf (Over_out rf (Over_nil (y_move (c := .int .i64 _) rf))) ?_
 refine P_det rf (Over_out rf (Over_nil (y_load1 rf Tryz.isAgg130 (Mem.own1 3 rf rf)))) ?_
 refine P_det rf (Over_out rf (Over_nil znk)) ?_
 refine P_det rf (Over_out rf (Over_nil (y_fieldAddr rf fa141_0))) ?_
 refine P_det rf (Over_out rf (Over_nil (y_load1 rf Tryz.isAgg134 zo))) ?_
 refine P_det rf (Over_out rf (Over_nil znk)) ?_
 refine P_det rf (Over_out rf (Over_nil (y_fieldAddr rf fa143_1))) ?_
 refine P_det rf (Over_out rf (Over_nil (y_load1 rf Tryz.isAgg3 zo))) ?_
 refine P_det rf (Over_out rf (Over_nil (y_buildL bd59_1 rf))) ?_
 refine P_det rf (Over_out rf (Over_nil (y_index (k := l.es.length) rf rf r10 d10 Tryz.runUnderlying131 Tryz.sizeOf59))) ?_
 refine P_st 1000000 0 rf rf rf rf rf (Over_nil (st_pre (fun _ => by rfl) (fun _ => by rfl) Tryz.sizeOf59 rf rf (by show 0 + l.es.length * 2 + 2 ≤ (snRow (fun _ => Sn.z) (l.es.length + 1)).length; rw [rowOf_len sn_len]; omega))) ?_
 refine PW_end rf ?_
 refine OverAll_cons (fun w1000000 l1000000 => ?_)
 refine OverAll_nil ?_
 rintro ⟨-, h1000000⟩
 obtain rfl := h1000000
 refine Then_normal ?_
 refine W_seq ?_
 refine zR fun ds => ?_
 refine zD hF (y_load1 rf Tryz.isAgg130 (Mem.own1 4 rf rf)) ?_
 refine zD hF znk ?_
 refine zD hF (y_fieldAddr rf fa141_1) ?_
 refine zD hF (y_fieldAddr rf fa62_2) ?_
 refine zD hF (y_load1 rf Tryz.isAgg60 zo) ?_
 refine WS_gen hF rf (y_callL rf rf Tryz.call141 (fun w hw => backward_any ae l.es.length cape w)) ?_
 rintro _ _ ⟨bx, rfl, rfl⟩
 refine zN ?_
 refine W_block ?_
 refine W_range hF rf (encs := (fun k => [.int .i64 ((l.es.length : Int) - 1 - (k : Int)), .agg (l.es.getD (l.es.length - 1 - k) En.z).cells.toArray])) (N := l.es.length) (H0 := [(bx, CB [.slice ae l.es.length cape] 60)]) (G0 := [(b4, _), (b2, _), (b5, _), (b3, _), (b1, _)]) (fun k G => G = [(b4, CB (snRow (l.af k) (l.es.length + 1)) 59), (b2, CB [.slice (some ⟨b4, 0, none⟩) (l.es.length + 1) (l.es.length + 1)] 131), (b5, CB (snRow (l.bf k) l.es.length) 59), (b3, CB [.slice (some ⟨b5, 0, none⟩) l.es.length l.es.length] 131), (b1, CB [.pointer (some ⟨bk, 0, none⟩)] 130)]) (fun _ _ _ => False) rf Tryz.call164 rf (fun _ => rfl) (fun ds => backward_it _ _ _ bx l.es.length ae cape l.es om0 h3) (by rw [← l.bf_zero, ← l.af_zero]; rw [Nat.zero_add]; rfl) (HSub.refl) ?_ ?_ ?_
 ·rintro k hk G hj out lpr R R'
  have hF := wide_inRound wide_wide lpr
  subst hj
  have hi : l.es.length - 1 - k < l.es.length := by omega
  obtain ⟨kk, hkk⟩ : ∃ kk : Nat, (l.e (l.es.length - 1 - k)).kind = (kk : Int) := Int.eq_ofNat_of_zero_le (by have := hok.kind _ hi; omega)
  have hkd := hok.kind _ hi
  have hab := hok.aft_bd (i := l.es.length - 1 - k + 1) om0
  have hhb := hok.ahd_bd hi
  have hdb := hok.drip_bd hi
  have hafe : l.af k (l.es.length - 1 - k + 1) = l.aft (l.es.length - 1 - k + 1) := by unfold Lg.af; rw [if_pos om0]
  have hbfe : l.bf (k + 1) (l.es.length - 1 - k) = l.ahd (l.es.length - 1 - k) := by unfold Lg.bf; rw [if_pos om0]
  have hs1 := l.bf_succ hk
  have hs2 := l.af_succ hk
  rw [← Nat.zero_add ((l.es.length - 1 - k) * 2)] at hs1 hs2
  have hfull := hok.tk.full_bd
  have hkk2 : (l.es.getD (l.es.length - 1 - k) En.z).kind = (kk : Int) := hkk
  have hik : (l.es.length : Int) - 1 - (k : Int) = ((l.es.length - 1 - k : Nat) : Int) := by omega
  refine zR fun ds => ?_
  refine za (.int .i64 _) hF ?_
  refine zQ fun ds => ?_
  refine WS_new hF rf (y_alloc Tryz.zeroValue90 rf) (fun b7 => ?_)
  refine WS_store hF (i := 0) rf rf Tryz.sizeOf90 rf rf rf d20 ?_
  refine zN ?_
  refine ⟨[_, _, _, _, _, _], rfl, ?_⟩
  refine W_block ?_
  refine W_seq ?_
  apply W_draw1 hF Tryzmixed [1000000] (i := 3) rf dk0
  intro ds
  refine P_det rf (Over_out rf (Over_nil (y_load1 rf Tryz.isAgg131 (Mem.own1 3 rf rf)))) ?_
  refine P_det rf (Over_out rf (Over_nil (y_move (c := .int .i64 _) rf))) ?_
  refine P_det rf (Over_out rf (Over_nil (y_load1 rf Tryz.isAgg130 (Mem.own1 4 rf rf)))) ?_
  refine P_det rf (Over_out rf (Over_nil (y_fieldAddr rf fa90_1))) ?_
  refine P_det rf (Over_out rf (Over_nil (y_load1 rf Tryz.isAgg3 (Mem.own1 0 rf rf)))) ?_
  refine P_det rf (Over_out rf (Over_nil znk)) ?_
  refine P_det rf (Over_out rf (Over_nil (y_fieldAddr rf fa141_2))) ?_
  refine P_det rf (Over_out rf (Over_nil (y_indexA (k := kk) rf rf r10 d10 Tryz.runUnderlying139 Tryz.sizeOf138))) ?_
  refine P_det rf (Over_out rf (Over_nil (y_fieldAddr rf fa138_2))) ?_
  refine P_det rf (Over_out rf (Over_nil (y_load1 rf Tryz.isAgg136 (Mem.oldAtL1 (o := 0) (p := 0 + 7 + kk * 3 + 2) h1 (by simp) (by rw [show 0 + 7 + kk * 3 + 2 - 0 = 7 + kk * 3 + 2 by omega]; exact back_cell g l a cap ae cape kk om0))))) ?_
  refine P_det rf (Over_out rf (Over_nil (y_load1 rf Tryz.isAgg130 (Mem.own1 4 rf rf)))) ?_
  refine P_det rf (Over_out rf (Over_nil znk)) ?_
  refine P_det rf (Over_out rf (Over_nil (y_fieldAddr rf fa141_0))) ?_
  refine P_det rf (Over_out rf (Over_nil (y_load1 rf Tryz.isAgg134 zo))) ?_
  refine P_det rf (Over_out rf (Over_nil (y_fieldAddr rf fa90_2))) ?_
  refine P_det rf (Over_out rf (Over_nil (y_loadN rf Tryz.isAgg59 Tryz.sizeOf59 (Mem.own (us := [.int .i64 _, .int .i64 _]) 0 rf rf) rf))) ?_
  refine P_det rf (Over_out rf (Over_nil (y_load1 rf Tryz.isAgg131 (Mem.own1 2 rf rf)))) ?_
  refine P_det rf (Over_out rf (Over_nil (y_move (c := .int .i64 _) rf))) ?_
  refine P_det rf (Over_out rf (Over_nil (y_add rf rf ui))) ?_
  refine P_det rf (Over_out rf (Over_nil (y_index (k := l.es.length - 1 - k + 1) rf rf r10 d10 Tryz.runUnderlying131 Tryz.sizeOf59))) ?_
  refine P_det rf (Over_out rf (Over_nil (y_loadN rf Tryz.isAgg59 Tryz.sizeOf59 (Mem.row sn_len 1 rf (k := l.es.length - 1 - k + 1) om0 hafe om0) rf))) ?_
  refine P_det rf (Over_out rf (Over_nil (y_callL rf rf (back_call _) (fun w hw => by rw [← hkk]; exact backF_any l (l.es.length - 1 - k) g 0 (l.aft (l.es.length - 1 - k + 1)) w hok om0 (hG.st w hw) (by unfold Sn.Sm; omega))))) ?_
  refine P_det rf (Over_out rf (Over_nil (y_index (k := l.es.length - 1 - k) rf rf r10 d10 Tryz.runUnderlying131 Tryz.sizeOf59))) ?_
  refine P_st 1000000 0 rf rf rf rf rf (Over_nil (st_pre (fun _ => by rfl) (fun _ => by rfl) Tryz.sizeOf59 rf rf (by show 0 + (l.es.length - 1 - k) * 2 + 2 ≤ (snRow (l.bf k) l.es.length).length; rw [rowOf_len sn_len]; omega))) ?_
  refine PW_end rf ?_
  refine OverAll_cons (fun w1000000 l1000000 => ?_)
  refine OverAll_nil ?_
  rintro ⟨-, h1000000⟩
  obtain rfl := h1000000
  refine Then_normal ?_
  refine W_H (congrArg (fun x => (b5, CB x 59) :: _) hs1) ?_
  apply W_draw1 hF Tryzmixed [1000000] (i := 2) rf dk0
  intro ds
  refine P_det rf (Over_out rf (Over_nil (y_load1 rf Tryz.isAgg131 (Mem.own1 2 rf rf)))) ?_
  refine P_det rf (Over_out rf (Over_nil (y_move (c := .int .i64 _) rf))) ?_
  refine P_det rf (Over_out rf (Over_nil (y_load1 rf Tryz.isAgg131 (Mem.own1 3 rf rf)))) ?_
  refine P_det rf (Over_out rf (Over_nil (y_move (c := .int .i64 _) rf))) ?_
  refine P_det rf (Over_out rf (Over_nil (y_index (k := l.es.length - 1 - k) rf rf r10 d10 Tryz.runUnderlying131 Tryz.sizeOf59))) ?_
  refine P_det rf (Over_out rf (Over_nil (y_fieldAddr rf fa59_0))) ?_
  refine P_det rf (Over_out rf (Over_nil (y_load1 rf Tryz.isAgg3 (Mem.rowAt sn_len 0 rf (k := l.es.length - 1 - k) (j := 0) om0 hbfe rf om0)))) ?_
  refine P_det rf (Over_out rf (Over_nil (y_load1 rf Tryz.isAgg130 (Mem.own1 4 rf rf)))) ?_
  refine P_det rf (Over_out rf (Over_nil znk)) ?_
  refine P_det rf (Over_out rf (Over_nil (y_fieldAddr rf fa141_0))) ?_
  refine P_det rf (Over_out rf (Over_nil (y_load1 rf Tryz.isAgg134 zo))) ?_
  refine P_det rf (Over_out rf (Over_nil znk)) ?_
  refine P_det rf (Over_out rf (Over_nil (y_fieldAddr rf fa143_1))) ?_
  refine P_det rf (Over_out rf (Over_nil (y_load1 rf Tryz.isAgg3 zo))) ?_
  refine P_det rf (Over_out rf (Over_nil (y_load1 rf Tryz.isAgg131 (Mem.own1 3 rf rf)))) ?_
  refine P_det rf (Over_out rf (Over_nil (y_move (c := .int .i64 _) rf))) ?_
  refine P_det rf (Over_out rf (Over_nil (y_index (k := l.es.length - 1 - k) rf rf r10 d10 Tryz.runUnderlying131 Tryz.sizeOf59))) ?_
  refine P_det rf (Over_out rf (Over_nil (y_fieldAddr rf fa59_1))) ?_
  refine P_det rf (Over_out rf (Over_nil (y_load1 rf Tryz.isAgg3 (Mem.rowAt sn_len 0 rf (k := l.es.length - 1 - k) (j := 1) om0 hbfe rf om0)))) ?_
  refine P_det rf (Over_out rf (Over_nil (y_load1 rf Tryz.isAgg130 (Mem.own1 4 rf rf)))) ?_
  refine P_det rf (Over_out rf (Over_nil (y_move (c := .int .i64 _) rf))) ?_
  refine P_det rf (Over_out rf (Over_nil (y_callL rf (by rw [← hik]; rfl) Tryz.call142 (fun w hw => drip_any bk l (l.es.length - 1 - k) w (hB0.st w hw) om0)))) ?_
  refine P_det rf (Over_out rf (Over_nil (y_add rf rf ui))) ?_
  refine P_det rf (Over_out rf (Over_nil (y_min rf rf))) ?_
  refine P_det rf (Over_out rf (Over_nil (y_buildL bd59_0_1 rf))) ?_
  refine P_det rf (Over_out rf (Over_nil (y_index (k := l.es.length - 1 - k) rf rf r10 d10 Tryz.runUnderlying131 Tryz.sizeOf59))) ?_
  refine P_st 1000000 0 rf rf rf rf rf (Over_nil (st_pre (fun _ => by rfl) (fun _ => by rfl) Tryz.sizeOf59 rf rf (by show 0 + (l.es.length - 1 - k) * 2 + 2 ≤ (snRow (l.af k) (l.es.length + 1)).length; rw [rowOf_len sn_len]; omega))) ?_
  refine PW_end rf ?_
  refine OverAll_cons (fun w1000000 l1000000 => ?_)
  refine OverAll_nil ?_
  rintro ⟨-, h1000000⟩
  obtain rfl := h1000000
  refine InB_normal ?_
  refine ⟨[_, _, _, _, _], (SubP.hsub (SubP.pick 0 rf (SubP.pick 2 rf (SubP.pick 0 rf (SubP.pick 1 rf (SubP.pick 1 rf (by exact SubP.drop (SubP.refl)))))))), ?_⟩
  exact congrArg (fun x => (b4, CB x 59) :: _) hs2
 ·rintro G hj
  subst hj
  refine InB_normal ?_
  refine Then_normal ?_
  refine W_seq ?_
  apply W_drawZ 2 1 hF Tryzmixed [] [] [] rf dk0 dc rf rf rf rf rf Tryz.isAgg131 HSub.refl
  intro ds
  refine P_det rf (Over_nil (y_load1 rf Tryz.isAgg131 (Mem.own1 2 rf rf))) ?_
  refine P_det rf (Over_nil (y_load1 rf Tryz.isAgg131 (Mem.own1 4 rf rf))) ?_
  refine PW_end rf ?_
  refine OverAll_nil ?_
  rintro -
  refine ⟨?_, fun xz => ?_⟩
  ·
   refine WS_store hF (i := 2) rf rf Tryz.sizeOf131 rf rf rf d20 ?_
   refine WS_store hF (i := 4) rf rf Tryz.sizeOf131 rf rf rf d20 ?_
   refine zN ?_
   refine W_ret ?_
   refine Fin_ret [_, _] [(b4, _), (b5, _)] Tryz.results111 ⟨lv1 rf Tryz.isAgg131 (Mem.own1 2 rf rf), lv1 rf Tryz.isAgg131 (Mem.own1 4 rf rf), trivial⟩ ((SubP.hsub (SubP.pick 1 rf (SubP.pick 2 rf (SubP.nil))))) ?_
   exact ⟨b4, b5, rfl, by rw [← l.af_end, ← l.bf_end]⟩
  ·
   refine WS_store hF (i := 2) rf rf Tryz.sizeOf131 rf rf rf d20 ?_
   refine zD hF (y_load1 rf Tryz.isAgg131 (Mem.own1 4 rf rf)) ?_
   refine WS_store hF (i := 4) rf rf Tryz.sizeOf131 rf rf rf d20 ?_
   refine zN ?_
   refine W_ret ?_
   refine Fin_ret [_, _] [(b4, _), (b5, _)] Tryz.results111 ⟨lv1 rf Tryz.isAgg131 (Mem.own1 2 rf rf), lv1 rf Tryz.isAgg131 (Mem.own1 4 rf rf), trivial⟩ ((SubP.hsub (SubP.pick 1 rf (SubP.pick 2 rf (SubP.nil))))) ?_
   exact ⟨b4, b5, rfl, by rw [← l.af_end, ← l.bf_end]⟩
 ·rintro c k G hk hj
  exact hj.elim
theorem bd133_0 {x0 : Option Addr} : ∀ w, (Instr.build 133 #[(0, .pointer x0)]).run Tryz.prog w = .ok (.agg #[.pointer x0, .slice none 0 0, .slice none 0 0, .slice none 0 0]) w := fun w => by kernel_rfl
theorem bs131_1_0 {x0_0 : Int} {x0_1 : Int} : ∀ w, (Instr.buildSlice 131 1 #[(0, .agg #[.int .i64 x0_0, .int .i64 x0_1])]).run Tryz.prog w = .ok (.slice (some ⟨w.heap.size, 0, none⟩) 1 1) (w.alloc (CB [.int .i64 x0_0, .int .i64 x0_1] 59)) := fun w => by kernel_rfl
theorem fa133_1 : ∀ b o w, (Instr.fieldAt 133 (.pointer (some ⟨b, o, none⟩)) 1).run Tryz.prog w = .ok (.pointer (some ⟨b, o + 1, none⟩)) w := fun b o w => by kernel_rfl
theorem fa133_2 : ∀ b o w, (Instr.fieldAt 133 (.pointer (some ⟨b, o, none⟩)) 2).run Tryz.prog w = .ok (.pointer (some ⟨b, o + 2, none⟩)) w := fun b o w => by kernel_rfl
theorem fa133_3 : ∀ b o w, (Instr.fieldAt 133 (.pointer (some ⟨b, o, none⟩)) 3).run Tryz.prog w = .ok (.pointer (some ⟨b, o + 3, none⟩)) w := fun b o w => by kernel_rfl
def Lg.holdsB (l : Lg) : Bool := (List.range (l.es.length + 1)).all fun k => !(l.hold k).empty
theorem Lg.holdsB_iff (l : Lg) : l.holdsB = true ↔ ∀ k, k ≤ l.es.length → (l.hold k).empty = false := by
 unfold Lg.holdsB
 simp only [List.all_eq_true, List.mem_range, Bool.not_eq_true']
 constructor
 ·intro h k hk; exact h k om0
 ·intro h k hk; exact h k om0
def Lg.aerr (l : Lg) : Int := if l.err = 0 then if l.holdsB then 0 else 8 else l.err
theorem Lg.steps_le (l : Lg) : ∀ m k, l.steps k m ≤ m + 1
 | 0, _ => Nat.le_refl _
 | m + 1, k => by
  have := Lg.steps_le l m (k + 1)
  unfold Lg.steps
  split <;> omega
theorem Lg.steps_full (l : Lg) : ∀ m k, (∀ j, k ≤ j → j < k + l.steps k m → (l.hold j).empty = false) → l.steps k m = m + 1
 | 0, _, _ => rfl
 | m + 1, k, h => by
  have hk := h k (Nat.le_refl _) (by have := l.steps_pos k (m + 1); omega)
  rw [l.steps_more hk] at h ⊢
  rw [Lg.steps_full l m (k + 1) fun j h1 h2 => h j om0 om0]
  omega
theorem Lg.times_le (l : Lg) : l.times ≤ l.es.length + 1 := l.steps_le _ _
theorem Lg.times_full (l : Lg) (h : ∀ j, j < l.times → (l.hold j).empty = false) : l.times = l.es.length + 1 := l.steps_full _ _ fun j _ h2 => h j (by unfold Lg.times; omega)
def knownCells (bk fb : Nat) (capf : Nat) (ab bb n : Nat) : List Value := [.pointer (some ⟨bk, 0, none⟩), .slice (some ⟨fb, 0, none⟩) (n + 1) capf, .slice (some ⟨ab, 0, none⟩) (n + 1) (n + 1), .slice (some ⟨bb, 0, none⟩) n n]
def KB (l : Lg) (a : Option Addr) (cap : Nat) (ae : Option Addr) (cape : Nat) (kb : Nat) (Hn : List Blk) : Prop :=
 ∃ bk g fb capf junk ab bb, Hn = [(kb, CB (knownCells bk fb capf ab bb l.es.length) 133), (fb, CB (snRow l.hold (l.es.length + 1) ++ junk) 59), (ab, CB (snRow l.aft (l.es.length + 1)) 59), (bb, CB (snRow l.ahd l.es.length) 59), (bk, CB (bookCells g l a cap ae cape) 141), (g, CB (gaugeCells l.tk a cap) 143)]
def AskV (l : Lg) (a : Option Addr) (cap : Nat) (ae : Option Addr) (cape : Nat) (v : Value) (Hn : List Blk) : Prop :=
 ∃ p, v = .tuple #[.pointer p, .int .i64 l.aerr] ∧ (l.aerr = 0 → ∃ kb, p = some ⟨kb, 0, none⟩ ∧ KB l a cap ae cape kb Hn) ∧ (l.aerr ≠ 0 → Hn = [])
theorem Tk.entsB_get (t : Tk) : ∀ (es : List En) (day : Int), t.entsB day es = true → ∀ k, k < es.length → t.entB (if k = 0 then day else (es.getD (k - 1) En.z).day) (es.getD k En.z) = true
 | [], _, _, k, hk => by simp at hk
 | x :: es, day, h, k, hk => by
  unfold Tk.entsB at h
  rw [Bool.and_eq_true] at h
  cases k with
  | zero => simpa using h.1
  | succ k =>
   have := Tk.entsB_get t es x.day h.2 k (by simpa using hk)
   cases k with
   | zero => simpa using this
   | succ k => simpa using this
theorem Lg.ok_of (l : Lg) (h : l.err = 0) : l.Ok := by
 unfold Lg.err at h
 split at h
 ·rename_i ht
  split at h
  ·rename_i hl
   unfold Lg.okB at hl
   simp only [Bool.and_eq_true, decide_eq_true_eq] at hl
   obtain ⟨⟨h1, h2⟩, h3⟩ := hl
   have hg := l.tk.entsB_get l.es 0 h3
   have hd : ∀ k, k < l.es.length → inB (l.dayAt k) 3652 [(l.e k).day] = true ∧ inB 1 3 [(l.e k).kind] = true ∧ (l.e k).size.inB (l.tk.most (l.e k).kind) = true := fun k hk => by
    have := hg k hk
    unfold Tk.entB at this
    simp only [Bool.and_eq_true] at this
    exact ⟨this.1.1, this.1.2, this.2⟩
   have hday : ∀ k, k < l.es.length → 0 ≤ l.dayAt k ∧ l.dayAt k ≤ (l.e k).day ∧ (l.e k).day ≤ 3652 := by
    intro k
    induction k with
    | zero => intro hk; have := inB1.1 (hd 0 hk).1; exact ⟨Int.le_refl _, this⟩
    | succ k ih =>
     intro hk
     have h4 := inB1.1 (hd (k + 1) hk).1
     have h5 := ih om0
     refine ⟨?_, h4⟩
     show 0 ≤ (l.e (k + 1 - 1)).day
     rw [Nat.add_sub_cancel]; omega
   refine ⟨Tk.ok_iff.1 ht, h1, h2, fun k hk => ?_, fun k hk => ?_, fun k hk => inB1.1 (hd k hk).2.1, fun k hk => (hd k hk).2.2⟩
   ·have := hday k hk; omega
   ·have := (hday (k + 1) hk).2.1
    exact this
  ·cases h
 ·cases h
theorem asked_any (l : Lg) (a : Option Addr) (cap : Nat) (ae : Option Addr) (cape : Nat) (w : World) (hn : l.tk.n ≤ 1000000) (hx : Ints w a l.tk.n cap l.tk.pints) (he : Ens w ae l.es.length cape l.es) :
  Ct Tryz.prog 73 #[.agg #[.slice a l.tk.n cap, .int .i64 l.tk.leak, .int .i64 l.tk.foot, .int .i64 l.start.lo, .int .i64 l.start.hi, .slice ae l.es.length cape]] w (AskV l a cap ae cape) := by
 have hF := wide_wide
 refine Ct_start (args := [_]) Tryz.func73 rf Tryz.ntmps73 rf ?_
 refine zR fun ds => ?_
 refine WS_new hF rf (y_box rf) (fun b1 => ?_)
 refine WS_new hF rf (y_alloc Tryz.zeroValue126 rf) (fun b2 => ?_)
 refine WS_new hF rf (y_alloc Tryz.zeroValue28 rf) (fun b3 => ?_)
 refine zP fun ds => ?_
 refine zD hF (y_loadN rf Tryz.isAgg62 Tryz.sizeOf62 (Mem.own (us := [.slice _ _ _, .int .i64 _, .int .i64 _, .int .i64 _, .int .i64 _, .slice _ _ _]) 2 rf rf) rf) ?_
 refine WS_gen hF rf (y_callL rf rf Tryz.call108 (fun w hw => opened_any l a cap ae cape w hn (hx.st w hw) (he.st w hw))) ?_
 rintro _ Hg ⟨p, rfl, hg1, hg2⟩
 refine zm (.tuple _) hF ?_
 refine zD hF (y_extract (c := .pointer _) rf rf) ?_
 refine zD hF (y_extract (c := .int .i64 _) rf rf) ?_
 refine za (.pointer _) hF ?_
 refine za (.int .i64 _) hF ?_
 refine zO ?_
 refine zR fun ds => ?_
 refine zm (.int .i64 _) hF ?_
 refine zD hF (y_neq rf rf) ?_
 refine zN ?_
 refine W_cond rf (fun c2 => ?_) (fun c2 => ?_)
 ·
  try simp only [qz1, qz2, qz3, qz4, qz5, qz6, qz7, qz8] at c2
  obtain rfl := hg2 c2
  refine zR fun ds => ?_
  refine zm (.int .i64 _) hF ?_
  refine WS_store hF (i := 1) rf rf Tryz.sizeOf126 rf rf rf d20 ?_
  refine WS_store hF (i := 0) rf rf Tryz.sizeOf28 rf rf rf d20 ?_
  refine zN ?_
  refine W_ret ?_
  refine Then_ret ?_
  refine Fin_ret [_, _] [] Tryz.results73 ⟨lv1 rf Tryz.isAgg126 (Mem.own1 1 rf rf), lv1 rf Tryz.isAgg28 (Mem.own1 0 rf rf), trivial⟩ HSub.nil ?_
  have ha : l.aerr = l.err := if_neg c2
  refine ⟨none, by rw [ha]; rfl, fun h => absurd (ha ▸ h) c2, fun _ => rfl⟩
 ·
  try simp only [qz1, qz2, qz3, qz4, qz5, qz6, qz7, qz8] at c2
  obtain ⟨g, bk, rfl, rfl⟩ := hg1 c2
  have hok := l.ok_of c2
  have hn12 := hok.n12
  have htl := l.times_le
  refine W_skip ?_
  refine zS fun ds => ?_
  refine zm (.pointer _) hF ?_
  refine zD hF (y_buildL bd133_0 rf) ?_
  refine WS_new hF rf (y_box rf) (fun b4 => ?_)
  refine WS_new hF rf (y_alloc Tryz.zeroValue126 rf) (fun b5 => ?_)
  refine WS_store hF (i := 0) rf rf Tryz.sizeOf126 rf rf rf d20 ?_
  refine zO ?_
  refine zR fun ds => ?_
  refine zm (.pointer _) hF ?_
  refine WS_gen hF rf (y_callL rf rf Tryz.call109 (fun w hw => holding_any bk w)) ?_
  rintro _ _ ⟨bx, rfl, rfl⟩
  refine zN ?_
  refine W_block ?_
  refine W_range hF rf (encs := (fun k => [.int .i64 (k : Int), .agg (l.hold k).cells.toArray])) (N := l.times) (H0 := [(bx, CB [.pointer (some ⟨bk, 0, none⟩)] 130), (bk, CB (bookCells g l a cap ae cape) 141), (g, CB (gaugeCells l.tk a cap) 143)]) (G0 := [_, _, _, _]) (fun k G => ∃ fa fcap Hf, G = (b4, CB [.pointer (some ⟨bk, 0, none⟩), .slice fa k fcap, .slice none 0 0, .slice none 0 0] 133) :: (b5, CB [.pointer (some ⟨b4, 0, none⟩)] 126) :: (b2, CB [.pointer none] 126) :: (b3, CB [.int .i64 0] 28) :: Hf ∧ Row 59 2 fa k fcap (snRow l.hold k) Hf ∧ ∀ j, j < k → (l.hold j).empty = false) (fun c k G => c = .ret ∧ (l.hold (k - 1)).empty = true ∧ G = [(b2, CB [.pointer none] 126), (b3, CB [.int .i64 8] 28)]) rf Tryz.call139 rf (fun _ => rfl) (fun ds => holding_it l _ _ _ bx bk g a cap ae cape hok hx he) (⟨none, 0, [], rfl, Row.nil 59 2, fun j hj => by omega⟩) ((SubP.hsub (SubP.pick 0 rf (SubP.pick 2 rf (SubP.pick 2 rf (SubP.pick 1 rf (SubP.pick 0 rf (SubP.pick 1 rf (SubP.pick 0 rf (SubP.nil)))))))))) ?_ ?_ ?_
  ·rintro k hk G hj out lpr R R'
   have hF := wide_inRound wide_wide lpr
   obtain ⟨fa, fcap, Hf, rfl, hrow, hne⟩ := hj
   refine W_region_lit (fun ds => ?_)
   refine WS_new hF rf (y_alloc Tryz.zeroValue59 rf) (fun b6 => ?_)
   refine WS_store hF (i := 0) rf rf Tryz.sizeOf59 rf rf rf d20 ?_
   refine zN ?_
   refine ⟨(_ :: _ :: _ :: _ :: _ :: Hf), rfl, ?_⟩
   refine W_block ?_
   refine W_seq ?_
   apply W_drawZ 7 0 hF Tryzmixed [] [] [] rf dk0 dc rf rf rf rf rf Tryz.isAgg126 HSub.refl
   intro ds
   refine P_det rf (Over_nil (y_load1 rf Tryz.isAgg126 (Mem.own1 2 rf rf))) ?_
   refine P_det rf (Over_nil (y_load1 rf Tryz.isAgg126 (Mem.own1 2 rf rf))) ?_
   refine P_det rf (Over_nil znk) ?_
   refine P_det rf (Over_nil (y_fieldAddr rf fa133_1)) ?_
   refine P_det rf (Over_nil (y_load1 rf Tryz.isAgg131 (Mem.own1 1 rf rf))) ?_
   refine P_det rf (Over_nil (y_loadN rf Tryz.isAgg59 Tryz.sizeOf59 (Mem.own (us := [.int .i64 _, .int .i64 _]) 0 rf rf) rf)) ?_
   refine P_new rf rf (Over_nil (y_buildSliceL bs131_1_0 rf)) ?_
   refine PW_end rf ?_
   refine OverAll_cons (fun w30 l30 => ?_)
   refine OverAll_nil ?_
   rintro ⟨-, h30⟩
   obtain ⟨b7, rfl, rfl⟩ := h30
   refine ⟨?_, fun xz => ?_⟩
   ·
    refine WS_append hF (H1 := [_, _, _, _, _, _]) rf rf rf Tryz.underlying131 infSpan rf rf hrow (.inr ⟨_, _, rfl, Mem.own (us := [.int _ _, .int _ _]) 0 rf rf⟩) rf rf om0 om0 ?_
    intro fa2 fcap2 Hf2 hrow2
    refine zD hF znk ?_
    refine zD hF (y_fieldAddr rf fa133_1) ?_
    refine WS_store hF (i := 2) rf rf Tryz.sizeOf131 rf rf rf d20 ?_
    refine zP fun ds => ?_
    refine zD hF (y_loadN rf Tryz.isAgg59 Tryz.sizeOf59 (Mem.own (us := [.int .i64 _, .int .i64 _]) 1 rf rf) rf) ?_
    refine zD hF (y_callL rf rf Tryz.call110 (fun w hw => empty_any (l.hold k).lo (l.hold k).hi w)) ?_
    refine zN ?_
    refine W_cond rf (fun c8 => ?_) (fun c8 => ?_)
    ·
     try simp only [qz1, qz2, qz3, qz4, qz5, qz6, qz7, qz8] at c8
     refine zR fun ds => ?_
     refine WS_store hF (i := 4) rf rf Tryz.sizeOf126 rf rf rf d20 ?_
     refine WS_store hF (i := 5) rf rf Tryz.sizeOf28 rf rf rf d20 ?_
     refine zN ?_
     refine W_ret ?_
     refine InB_ret ?_
     refine ⟨[_, _], (SubP.hsub (SubP.pick 4 rf (SubP.pick 4 rf (by exact SubP.drop (SubP.drop (SubP.drop (SubP.drop (SubP.dropL (X := Hf2) (SubP.refl))))))))), rfl, ?_, rfl⟩
     show (l.hold k).empty = true
     unfold Sn.empty; simp only [decide_eq_true_eq]; omega
    ·
     try simp only [qz1, qz2, qz3, qz4, qz5, qz6, qz7, qz8] at c8
     refine W_skip ?_
     refine InB_normal ?_
     refine ⟨_ :: _ :: _ :: _ :: Hf2, (SubP.hsub (SubP.pick 2 rf (SubP.pick 2 rf (SubP.pick 2 rf (SubP.pick 2 rf (by exact SubP.drop (SubP.drop (SubP.refl)))))))), fa2, fcap2, Hf2, rfl, ?_, ?_⟩
     ·rw [snRow, rowOf_succ]; exact hrow2
     ·intro j hj
      obtain hj | rfl : j < k ∨ j = k := by omega
      ·exact hne j hj
      ·unfold Sn.empty; simp only [decide_eq_false_iff_not]; omega
   ·
    refine WS_append hF (H1 := [_, _, _, _, _, _]) rf rf rf Tryz.underlying131 infSpan rf rf hrow (.inr ⟨_, _, rfl, Mem.own (us := [.int _ _, .int _ _]) 0 rf rf⟩) rf rf om0 om0 ?_
    intro fa2 fcap2 Hf2 hrow2
    refine zD hF (y_load1 rf Tryz.isAgg126 (Mem.own1 3 rf rf)) ?_
    refine zD hF znk ?_
    refine zD hF (y_fieldAddr rf fa133_1) ?_
    refine WS_store hF (i := 2) rf rf Tryz.sizeOf131 rf rf rf d20 ?_
    refine zP fun ds => ?_
    refine zD hF (y_loadN rf Tryz.isAgg59 Tryz.sizeOf59 (Mem.own (us := [.int .i64 _, .int .i64 _]) 1 rf rf) rf) ?_
    refine zD hF (y_callL rf rf Tryz.call110 (fun w hw => empty_any (l.hold k).lo (l.hold k).hi w)) ?_
    refine zN ?_
    refine W_cond rf (fun c8 => ?_) (fun c8 => ?_)
    ·
     try simp only [qz1, qz2, qz3, qz4, qz5, qz6, qz7, qz8] at c8
     refine zR fun ds => ?_
     refine WS_store hF (i := 4) rf rf Tryz.sizeOf126 rf rf rf d20 ?_
     refine WS_store hF (i := 5) rf rf Tryz.sizeOf28 rf rf rf d20 ?_
     refine zN ?_
     refine W_ret ?_
     refine InB_ret ?_
     refine ⟨[_, _], (SubP.hsub (SubP.pick 4 rf (SubP.pick 4 rf (by exact SubP.drop (SubP.drop (SubP.drop (SubP.drop (SubP.dropL (X := Hf2) (SubP.refl))))))))), rfl, ?_, rfl⟩
     show (l.hold k).empty = true
     unfold Sn.empty; simp only [decide_eq_true_eq]; omega
    ·
     try simp only [qz1, qz2, qz3, qz4, qz5, qz6, qz7, qz8] at c8
     refine W_skip ?_
     refine InB_normal ?_
     refine ⟨_ :: _ :: _ :: _ :: Hf2, (SubP.hsub (SubP.pick 2 rf (SubP.pick 2 rf (SubP.pick 2 rf (SubP.pick 2 rf (by exact SubP.drop (SubP.drop (SubP.refl)))))))), fa2, fcap2, Hf2, rfl, ?_, ?_⟩
     ·rw [snRow, rowOf_succ]; exact hrow2
     ·intro j hj
      obtain hj | rfl : j < k ∨ j = k := by omega
      ·exact hne j hj
      ·unfold Sn.empty; simp only [decide_eq_false_iff_not]; omega
  ·rintro G hj
   obtain ⟨fa, fcap, Hf, rfl, hrow, hne⟩ := hj
   have htf := l.times_full hne
   rw [htf] at hrow hne
   rw [htf]
   obtain ⟨_, h0, _⟩ | ⟨fb, junk, rfl, rfl, hl1, hl2, hle⟩ := hrow
   ·omega
   refine InB_normal ?_
   refine Then_normal ?_
   refine W_seq ?_
   apply W_drawMT 10 hF Tryzmixed [Pre.dep 1000000 b4 _ 41 _ _] [1000000] [1000000] rf dk0 dc (fun _ _ h => h.perm (perm_erase (i := 3) rf).symm)
   intro ds
   refine P_det rf (Over_out rf (Over_nil (y_load1 rf Tryz.isAgg126 (Mem.own1 3 rf rf)))) ?_
   refine P_det rf (Over_out rf (Over_nil (y_load1 rf Tryz.isAgg126 (Mem.own1 3 rf rf)))) ?_
   refine P_det rf (Over_out rf (Over_nil (y_move (c := .pointer _) rf))) ?_
   refine P_new rf rf (Over_out rf (Over_nil (y_callL rf rf Tryz.call111 (fun w hw => back_any bk l w (Bk.own (by repeat (first | exact List.mem_cons_self | apply List.mem_cons_of_mem)) (by repeat (first | exact List.mem_cons_self | apply List.mem_cons_of_mem)) hok hx he w hw))))) ?_
   refine P_ali [40] (fun e => e 40) rf rf rf (fun _ _ h => h 40 (List.mem_singleton.2 rfl)) (Over_in rf (Over_out rf (Over_nil (by intro vb9 l40 hb9; obtain ⟨ab, bb, rfl, rfl⟩ := hb9; exact (YD0_of (y_move (c := .tuple _) rf)))))) ?_
   refine P_ali [36] (fun e => tupAt (e 36) 0) rf rf rf (fun _ _ h => congrArg (tupAt · 0) (h 36 (List.mem_singleton.2 rfl))) (Over_in rf (Over_in rf (Over_out rf (Over_nil (by intro vb11 l40 hb11; obtain ⟨ab, bb, rfl, rfl⟩ := hb11; rintro vb12 _ ⟨hvb12, rfl⟩; replace hvb12 : vb12 = .tuple _ := hvb12; subst hvb12; exact (YD0_of (y_extract (c := .slice _ _ _) rf rf))))))) ?_
   refine P_ali [36] (fun e => tupAt (e 36) 1) rf rf rf (fun _ _ h => congrArg (tupAt · 1) (h 36 (List.mem_singleton.2 rfl))) (Over_out rf (Over_in rf (Over_in rf (Over_out rf (Over_nil (by intro vb14 l40 hb14; obtain ⟨ab, bb, rfl, rfl⟩ := hb14; rintro vb15 _ ⟨hvb15, rfl⟩; replace hvb15 : vb15 = .tuple _ := hvb15; subst hvb15; exact (YD0_of (y_extract (c := .slice _ _ _) rf rf)))))))) ?_
   refine P_det rf (Over_out rf (Over_out rf (Over_out rf (Over_out rf (Over_out rf (Over_nil znk)))))) ?_
   refine P_det rf (Over_out rf (Over_out rf (Over_out rf (Over_out rf (Over_out rf (Over_nil (y_fieldAddr rf fa133_2))))))) ?_
   refine P_st 1000000 4 rf rf rf rf rf (Over_out rf (Over_in rf (Over_in rf (Over_in rf (Over_nil (by intro vb17 l40 hb17; obtain ⟨ab, bb, rfl, rfl⟩ := hb17; rintro vb18 _ ⟨hvb18, rfl⟩; replace hvb18 : vb18 = .tuple _ := hvb18; subst hvb18; rintro vb19 _ ⟨hvb19, rfl⟩; replace hvb19 : vb19 = .slice _ _ _ := hvb19; subst hvb19; exact (st_preD (fun _ => by rfl) rf rf Tryz.sizeOf131 rf rf d20))))))) ?_
   refine PW_end rf ?_
   refine OverAll_cons (fun w42 l42 => ?_)
   refine OverAll_cons (fun w41 l41 => ?_)
   refine OverAll_cons (fun w36 l36 => ?_)
   refine OverAll_cons (fun w40 l40 => ?_)
   refine OverAll_cons (fun w1000000 l1000000 => ?_)
   refine OverAll_nil ?_
   rintro ⟨⟨⟨⟨⟨-, h42⟩, h41⟩, h36⟩, h40⟩, h1000000⟩
   obtain ⟨ab, bb, rfl, rfl⟩ := h40
   obtain ⟨h36, rfl⟩ := h36
   replace h36 : w36 = .tuple _ := h36
   subst h36
   obtain ⟨h41, rfl⟩ := h41
   replace h41 : w41 = .slice _ _ _ := h41
   subst h41
   obtain ⟨h42, rfl⟩ := h42
   replace h42 : w42 = .slice _ _ _ := h42
   subst h42
   obtain rfl := h1000000
   refine zD hF znk ?_
   refine zD hF (y_fieldAddr rf fa133_3) ?_
   refine WS_store hF (i := 0) rf rf Tryz.sizeOf131 rf rf rf d20 ?_
   refine zP fun ds => ?_
   refine zD hF (y_load1 rf Tryz.isAgg126 (Mem.own1 6 rf rf)) ?_
   refine WS_store hF (i := 7) rf rf Tryz.sizeOf126 rf rf rf d20 ?_
   refine WS_store hF (i := 8) rf rf Tryz.sizeOf28 rf rf rf d20 ?_
   refine zN ?_
   refine W_ret ?_
   have hB : l.holdsB = true := l.holdsB_iff.2 fun k hk => hne k om0
   have h0 : l.aerr = 0 := by unfold Lg.aerr; rw [if_pos c2, if_pos hB]
   refine Fin_ret [_, _] [(b4, _), (fb, _), (ab, _), (bb, _), (bk, _), (g, _)] Tryz.results73 ⟨lv1 rf Tryz.isAgg126 (Mem.own1 7 rf rf), lv1 rf Tryz.isAgg28 (Mem.own1 8 rf rf), trivial⟩ ((SubP.hsub (SubP.pick 0 rf (SubP.pick 8 rf (SubP.pick 0 rf (SubP.pick 0 rf (SubP.pick 1 rf (SubP.pick 1 rf (SubP.nil))))))))) ?_
   exact ⟨_, by rw [h0]; rfl, fun _ => ⟨b4, rfl, bk, g, fb, fcap, junk, ab, bb, rfl⟩, fun h => absurd h0 h⟩
  ·rintro c k G hk hj
   obtain ⟨rfl, hemp, rfl⟩ := hj
   refine W_ret ?_
   refine InB_ret ?_
   refine Then_ret ?_
   refine Fin_ret [_, _] [] Tryz.results73 ⟨lv1 rf Tryz.isAgg126 (Mem.own1 3 rf rf), lv1 rf Tryz.isAgg28 (Mem.own1 4 rf rf), trivial⟩ HSub.nil ?_
   have hB : l.holdsB = false := by
    cases hb : l.holdsB with
    | false => rfl
    | true => rw [Nat.add_sub_cancel, l.holdsB_iff.1 hb k om0] at hemp; cases hemp
   have h8 : l.aerr = 8 := by unfold Lg.aerr; rw [if_pos c2, hB]; rfl
   exact ⟨none, by rw [h8]; rfl, fun h => by omega, fun _ => rfl⟩
theorem fa133_0 : ∀ b o w, (Instr.fieldAt 133 (.pointer (some ⟨b, o, none⟩)) 0).run Tryz.prog w = .ok (.pointer (some ⟨b, o + 0, none⟩)) w := fun b o w => by kernel_rfl
theorem Lg.aerr0 (l : Lg) (h : l.aerr = 0) : l.err = 0 ∧ ∀ k, k ≤ l.es.length → (l.hold k).empty = false := by
 unfold Lg.aerr at h
 split at h
 ·split at h
  ·rename_i h1 h2; exact ⟨h1, l.holdsB_iff.1 h2⟩
  ·cases h
 ·rename_i h1; exact absurd h h1
def Lg.at (l : Lg) (i : Nat) : Sn := (l.hold i).met (l.aft i)
def Lg.last (l : Lg) : Sn := l.at l.es.length
structure Kn (w : World) (kb : Nat) (l : Lg) : Prop where
 ok : l.Ok
 ne : ∀ k, k ≤ l.es.length → (l.hold k).empty = false
 ex : ∃ bk fb capf ab bb, At w kb 0 (knownCells bk fb capf ab bb l.es.length) ∧ At w fb 0 (snRow l.hold (l.es.length + 1)) ∧ At w ab 0 (snRow l.aft (l.es.length + 1)) ∧ At w bb 0 (snRow l.ahd l.es.length) ∧ Bk w bk l
theorem Kn.below {w w' : World} {kb : Nat} {l : Lg} (h : Kn w kb l) (hb : Below w.heap.size w w') : Kn w' kb l := by
 obtain ⟨hok, hne, bk, fb, capf, ab, bb, h1, h2, h3, h4, h5⟩ := h
 exact ⟨hok, hne, bk, fb, capf, ab, bb, At.old hb h1, At.old hb h2, At.old hb h3, At.old hb h4, h5.below hb⟩
theorem Kn.st {C : Ctx} {H : List Blk} {kb : Nat} {l : Lg} (h : Kn C.w0 kb l) (w : World) (hw : St C H w) : Kn w kb l := h.below hw.1
def knBlocks (l : Lg) (a : Option Addr) (cap : Nat) (ae : Option Addr) (cape kb bk g fb capf : Nat) (junk : List Value) (ab bb : Nat) : List Blk :=
 [(kb, CB (knownCells bk fb capf ab bb l.es.length) 133), (fb, CB (snRow l.hold (l.es.length + 1) ++ junk) 59), (ab, CB (snRow l.aft (l.es.length + 1)) 59), (bb, CB (snRow l.ahd l.es.length) 59), (bk, CB (bookCells g l a cap ae cape) 141), (g, CB (gaugeCells l.tk a cap) 143)]
theorem At.block {C : Ctx} {H : List Blk} {b : Nat} {vs rest : List Value} {T : TypeId} (hm : (b, CB (vs ++ rest) T) ∈ H) (w : World) (hw : St C H w) : At w b 0 vs := by
 obtain ⟨i, hi, hii⟩ := List.mem_iff_getElem.1 hm
 exact Mem.own (rest := rest) i ((List.getElem?_eq_getElem hi).trans (congrArg some hii)) (by rw [List.drop_zero]) w hw
theorem At.block0 {C : Ctx} {H : List Blk} {b : Nat} {vs : List Value} {T : TypeId} (hm : (b, CB vs T) ∈ H) (w : World) (hw : St C H w) : At w b 0 vs := by
 have : (b, CB (vs ++ []) T) ∈ H := by rwa [List.append_nil]
 exact At.block this w hw
theorem Kn.own {C : Ctx} {H : List Blk} {l : Lg} {a : Option Addr} {cap : Nat} {ae : Option Addr} {cape kb bk g fb capf : Nat} {junk : List Value} {ab bb : Nat} (hs : (knBlocks l a cap ae cape kb bk g fb capf junk ab bb).Sublist H)
  (h0 : l.aerr = 0) (hx : Ints C.w0 a l.tk.n cap l.tk.pints) (he : Ens C.w0 ae l.es.length cape l.es) (w : World) (hw : St C H w) : Kn w kb l := by
 obtain ⟨h1, h2⟩ := l.aerr0 h0
 have hm : ∀ x ∈ knBlocks l a cap ae cape kb bk g fb capf junk ab bb, x ∈ H := fun x hx => hs.subset hx
 unfold knBlocks at hm
 simp only [List.forall_mem_cons] at hm
 obtain ⟨m1, m2, m3, m4, m5, m6, _⟩ := hm
 exact ⟨l.ok_of h1, h2, bk, fb, capf, ab, bb, At.block0 m1 w hw, At.block m2 w hw, At.block0 m3 w hw, At.block0 m4 w hw, Bk.own m5 m6 (l.ok_of h1) hx he w hw⟩
theorem At.rowOf {w : World} {b : Nat} {α : Type} {enc : α → List Value} {sz : Nat} (hz : ∀ x, (enc x).length = sz) {f : Nat → α} {n k o : Nat} (h : At w b 0 (rowOf enc f n)) (hk : k < n) (ho : o = k * sz) : At w b o (enc (f k)) := by
 subst ho
 obtain ⟨t, ht⟩ := rowOf_drop hz f hk
 refine At.of fun j v hv => ?_
 have hg : (Eng.rowOf enc f n)[k * sz + j]? = some v := rowOf_get hz f hk hv
 have := h.get (k * sz + j) v hg
 rw [Nat.zero_add] at this
 exact this
theorem at_any (kb : Nat) (l : Lg) (i : Nat) (w : World) (hK : Kn w kb l) (hi : i ≤ l.es.length) :
  Ct Tryz.prog 81 #[.pointer (some ⟨kb, 0, none⟩), .int .i64 (i : Int)] w fun v _ => v = .agg (l.at i).cells.toArray := by
 obtain ⟨hok, hne, bk, fb, capf, ab, bb, h1, h2, h3, h4, h5⟩ := hK
 have e1 : At w fb (0 + i * 2) (l.hold i).cells := At.rowOf sn_len h2 om0 om0
 have e2 : At w ab (0 + i * 2) (l.aft i).cells := At.rowOf sn_len h3 om0 om0
 have hF := wide_wide
 refine Ct_start (args := [_, _]) Tryz.func81 rf Tryz.ntmps81 rf ?_
 refine zR fun ds => ?_
 refine WS_new hF rf (y_alloc Tryz.zeroValue59 rf) (fun b1 => ?_)
 refine zO ?_
 apply W_draw1 hF Tryzmixed [1000000] (i := 0) rf dk0
 intro ds
 refine P_det rf (Over_out rf (Over_nil (y_move (c := .pointer _) rf))) ?_
 refine P_det rf (Over_out rf (Over_nil znk)) ?_
 refine P_det rf (Over_out rf (Over_nil (y_fieldAddr rf fa133_1))) ?_
 refine P_det rf (Over_out rf (Over_nil (y_load1 rf Tryz.isAgg131 zo))) ?_
 refine P_det rf (Over_out rf (Over_nil (y_move (c := .int .i64 _) rf))) ?_
 refine P_det rf (Over_out rf (Over_nil (y_index (k := i) rf rf r10 d10 Tryz.runUnderlying131 Tryz.sizeOf59))) ?_
 refine P_det rf (Over_out rf (Over_nil (y_loadN rf Tryz.isAgg59 Tryz.sizeOf59 (zq [.int .i64 _, .int .i64 _]) rf))) ?_
 refine P_det rf (Over_out rf (Over_nil (y_move (c := .pointer _) rf))) ?_
 refine P_det rf (Over_out rf (Over_nil znk)) ?_
 refine P_det rf (Over_out rf (Over_nil (y_fieldAddr rf fa133_2))) ?_
 refine P_det rf (Over_out rf (Over_nil (y_load1 rf Tryz.isAgg131 zo))) ?_
 refine P_det rf (Over_out rf (Over_nil (y_move (c := .int .i64 _) rf))) ?_
 refine P_det rf (Over_out rf (Over_nil (y_index (k := i) rf rf r10 d10 Tryz.runUnderlying131 Tryz.sizeOf59))) ?_
 refine P_det rf (Over_out rf (Over_nil (y_loadN rf Tryz.isAgg59 Tryz.sizeOf59 (zq [.int .i64 _, .int .i64 _]) rf))) ?_
 refine P_det rf (Over_out rf (Over_nil (y_callL rf rf Tryz.call116 (fun w hw => met_any _ _ _ _ w)))) ?_
 refine P_st 1000000 0 rf rf rf rf rf (Over_nil (st_pre (fun _ => by rfl) (fun _ => by rfl) Tryz.sizeOf59 rf rf d20)) ?_
 refine PW_end rf ?_
 refine OverAll_cons (fun w1000000 l1000000 => ?_)
 refine OverAll_nil ?_
 rintro ⟨-, h1000000⟩
 obtain rfl := h1000000
 refine Then_normal ?_
 refine W_ret ?_
 refine Fin_ret [_] [] Tryz.results81 ⟨lvN rf Tryz.isAgg59 Tryz.sizeOf59 (Mem.own (us := [.int .i64 _, .int .i64 _]) 0 rf rf) rf, trivial⟩ HSub.nil ?_
 rfl
theorem last_any (kb : Nat) (l : Lg) (w : World) (hK : Kn w kb l) :
  Ct Tryz.prog 74 #[.pointer (some ⟨kb, 0, none⟩)] w fun v _ => v = .agg l.last.cells.toArray := by
 have hK0 := hK
 obtain ⟨hok, hne, bk, fb, capf, ab, bb, h1, h2, h3, h4, _, g, a, cap, ae, cape, h5, _⟩ := hK
 have hF := wide_wide
 refine Ct_start (args := [_]) Tryz.func74 rf Tryz.ntmps74 rf ?_
 refine zR fun ds => ?_
 refine WS_new hF rf (y_alloc Tryz.zeroValue59 rf) (fun b1 => ?_)
 refine zP fun ds => ?_
 refine zm (.pointer _) hF ?_
 refine zm (.pointer _) hF ?_
 refine zD hF znk ?_
 refine zD hF (y_fieldAddr rf fa133_0) ?_
 refine zD hF (y_load1 rf Tryz.isAgg130 zo) ?_
 refine zD hF znk ?_
 refine zD hF (y_fieldAddr rf fa141_1) ?_
 refine zD hF (y_fieldAddr rf fa62_2) ?_
 refine zD hF (y_load1 rf Tryz.isAgg60 zo) ?_
 refine zD hF (y_len rf Tryz.runUnderlying60) ?_
 refine zD hF (y_callL rf rf Tryz.call81 (fun w hw => at_any kb l l.es.length w (hK0.st w hw) (Nat.le_refl _))) ?_
 refine WS_store hF (i := 0) rf rf Tryz.sizeOf59 rf rf rf d20 ?_
 refine zN ?_
 refine W_ret ?_
 refine Fin_ret [_] [] Tryz.results74 ⟨lvN rf Tryz.isAgg59 Tryz.sizeOf59 (Mem.own (us := [.int .i64 _, .int .i64 _]) 0 rf rf) rf, trivial⟩ HSub.nil ?_
 rfl
theorem bd59  : ∀ w, (Instr.build 59 #[]).run Tryz.prog w = .ok (.agg #[.int .i64 0, .int .i64 0]) w := fun w => by kernel_rfl
theorem Lg.Ok.at_bd {l : Lg} (h : l.Ok) (hne : ∀ k, k ≤ l.es.length → (l.hold k).empty = false) {i : Nat} (hi : i ≤ l.es.length) : 0 ≤ (l.at i).lo ∧ (l.at i).hi ≤ l.tk.full ∧ (l.at i).lo ≤ 10000000 ∧ -10000000 ≤ (l.at i).hi := by
 have h1 := h.hold_bd i hi fun j hj => hne j om0
 have h2 := h.aft_bd hi
 unfold Lg.at Sn.met
 simp only
 omega
theorem Lg.Ok.last_bd {l : Lg} (h : l.Ok) (hne : ∀ k, k ≤ l.es.length → (l.hold k).empty = false) : 0 ≤ l.last.lo ∧ l.last.hi ≤ l.tk.full ∧ l.last.lo ≤ 10000000 ∧ -10000000 ≤ l.last.hi := h.at_bd hne (Nat.le_refl _)
def Lg.sureV (l : Lg) (p : Int) : Value :=
 if l.aerr = 0 then if inB 0 l.tk.full [p] then if p ≤ l.last.lo then .tuple #[.int .u8 2, .int .i64 0] else if l.last.hi < p then .tuple #[.int .u8 0, .int .i64 0] else .tuple #[.int .u8 1, .int .i64 0] else .tuple #[.int .u8 0, .int .i64 2] else .tuple #[.int .u8 0, .int .i64 l.aerr]
def firstN (f : Nat → Bool) (n : Nat) : Option Nat := (List.range n).find? f
def Lg.whenV (l : Lg) (p : Int) : Value :=
 if l.aerr = 0 then if inB 0 l.tk.full [p] then match firstN (fun i => decide (p ≤ (l.at i).lo)) (l.es.length + 1) with
  | some i => .tuple #[.int .i64 (i : Int), .int .i64 0]
  | none => .tuple #[.int .i64 0, .int .i64 6] else .tuple #[.int .i64 0, .int .i64 2] else .tuple #[.int .i64 0, .int .i64 l.aerr]
def Sn.fl (s : Sn) (f : Int) : Sn := ⟨max 0 (s.lo - f), max 0 (s.hi - f)⟩
def Lg.readyV (l : Lg) : Value :=
 if l.aerr = 0 then .tuple #[.agg (l.last.fl (l.tk.up l.tk.foot)).cells.toArray, .int .i64 0] else .tuple #[.agg Sn.z.cells.toArray, .int .i64 l.aerr]
theorem ready_any (l : Lg) (a : Option Addr) (cap : Nat) (ae : Option Addr) (cape : Nat) (w : World) (hn : l.tk.n ≤ 1000000) (hx : Ints w a l.tk.n cap l.tk.pints) (he : Ens w ae l.es.length cape l.es) : Ct Tryz.prog 30 #[.agg #[.slice a l.tk.n cap, .int .i64 l.tk.leak, .int .i64 l.tk.foot, .int .i64 l.start.lo, .int .i64 l.start.hi, .slice ae l.es.length cape]] w fun v _ => v = l.readyV := by
 have hF := wide_wide
 refine Ct_start (args := [_]) Tryz.func30 rf Tryz.ntmps30 rf ?_
 refine zR fun ds => ?_
 refine WS_new hF rf (y_box rf) (fun b1 => ?_)
 refine WS_new hF rf (y_alloc Tryz.zeroValue59 rf) (fun b2 => ?_)
 refine za (.int .i64 _) hF ?_
 refine zP fun ds => ?_
 refine zD hF (y_loadN rf Tryz.isAgg62 Tryz.sizeOf62 (Mem.own (us := [.slice _ _ _, .int .i64 _, .int .i64 _, .int .i64 _, .int .i64 _, .slice _ _ _]) 1 rf rf) rf) ?_
 refine WS_gen hF rf (y_callL rf rf Tryz.call73 (fun w hw => asked_any l a cap ae cape w hn (hx.st w hw) (he.st w hw))) ?_
 rintro _ Hg ⟨p, rfl, hg1, hg2⟩
 refine zm (.tuple _) hF ?_
 refine zD hF (y_extract (c := .pointer _) rf rf) ?_
 refine zD hF (y_extract (c := .int .i64 _) rf rf) ?_
 refine za (.pointer _) hF ?_
 refine za (.int .i64 _) hF ?_
 refine zO ?_
 refine zR fun ds => ?_
 refine zm (.int .i64 _) hF ?_
 refine zD hF (y_neq rf rf) ?_
 refine zN ?_
 refine W_cond rf (fun c2 => ?_) (fun c2 => ?_)
 ·
  try simp only [qz1, qz2, qz3, qz4, qz5, qz6, qz7, qz8] at c2
  obtain rfl := hg2 c2
  refine zR fun ds => ?_
  refine zD hF (y_buildL bd59 rf) ?_
  refine zm (.int .i64 _) hF ?_
  refine WS_store hF (i := 0) rf rf Tryz.sizeOf59 rf rf rf d20 ?_
  refine za (.int .i64 _) hF ?_
  refine zN ?_
  refine W_ret ?_
  refine Then_ret ?_
  refine Fin_ret [_, .int .i64 _] [] Tryz.results30 ⟨lvN rf Tryz.isAgg59 Tryz.sizeOf59 (Mem.own (us := [.int .i64 _, .int .i64 _]) 0 rf rf) rf, by rfl, trivial⟩ HSub.nil ?_
  show Value.tuple _ = _
  unfold Lg.readyV
  rw [if_neg c2]; rfl
 ·
  try simp only [qz1, qz2, qz3, qz4, qz5, qz6, qz7, qz8] at c2
  obtain ⟨kb, rfl, bk, g, fb, capf, junk, ab, bb, rfl⟩ := hg1 c2
  have hok := l.ok_of (l.aerr0 c2).1
  have hne := (l.aerr0 c2).2
  have hfull := hok.tk.full_bd
  have hlb := hok.last_bd hne
  have hf0 := hok.tk.foot0
  have hf1 := hok.tk.foot1
  have hup := hok.tk.eight_bd hf0 hf1
  have hfe : 0 ≤ l.tk.up l.tk.foot ∧ l.tk.up l.tk.foot ≤ 100000 := by unfold Tk.up; omega
  refine zU ?_
  refine W_seq ?_
  refine W_draw0 hF Tryzmixed [6] dk0 (fun ds => ?_)
  refine P_det rf (Over_nil (y_move (c := .pointer _) rf)) ?_
  refine P_det rf (Over_nil (y_callL rf rf Tryz.call74 (fun w hw => last_any kb l w (Kn.own (a := a) (cap := cap) (ae := ae) (cape := cape) (bk := bk) (g := g) (fb := fb) (capf := capf) (junk := junk) (ab := ab) (bb := bb) (by unfold knBlocks; repeat (first | exact List.Sublist.refl _ | exact List.nil_sublist _ | apply List.Sublist.cons_cons | apply List.Sublist.cons)) c2 hx he w hw)))) ?_
  refine P_det rf (Over_nil (y_move (c := .pointer _) rf)) ?_
  refine P_det rf (Over_nil znk) ?_
  refine P_det rf (Over_nil (y_fieldAddr rf fa133_0)) ?_
  refine P_det rf (Over_nil (y_load1 rf Tryz.isAgg130 (Mem.own1 0 rf rf))) ?_
  refine P_det rf (Over_nil znk) ?_
  refine P_det rf (Over_nil (y_fieldAddr rf fa141_0)) ?_
  refine P_det rf (Over_nil (y_load1 rf Tryz.isAgg134 (Mem.own1 4 rf rf))) ?_
  refine P_det rf (Over_nil (y_move (c := .pointer _) rf)) ?_
  refine P_det rf (Over_nil znk) ?_
  refine P_det rf (Over_nil (y_fieldAddr rf fa133_0)) ?_
  refine P_det rf (Over_nil (y_load1 rf Tryz.isAgg130 (Mem.own1 0 rf rf))) ?_
  refine P_det rf (Over_nil znk) ?_
  refine P_det rf (Over_nil (y_fieldAddr rf fa141_0)) ?_
  refine P_det rf (Over_nil (y_load1 rf Tryz.isAgg134 (Mem.own1 4 rf rf))) ?_
  refine P_det rf (Over_nil znk) ?_
  refine P_det rf (Over_nil (y_fieldAddr rf fa143_0)) ?_
  refine P_det rf (Over_nil (y_fieldAddr rf fa57_2)) ?_
  refine P_det rf (Over_nil (y_load1 rf Tryz.isAgg3 (Mem.own1 5 rf rf))) ?_
  refine P_det rf (Over_nil (y_callL rf rf Tryz.call75 (fun w hw => up_any g 0 l.tk l.tk.foot w (Gg.own (by repeat (first | exact List.mem_cons_self | apply List.mem_cons_of_mem)) (Tk.ok_iff.2 hok.tk) hx w hw) hf0 hf1))) ?_
  apply P_newS _ rf rf rf (Over_nil (y_alloc Tryz.zeroValue59 rf))
  refine P_st 6 0 rf rf rf rf rf (Over_nil (st_new (fun _ => by rfl) Tryz.sizeOf59 rf rf d20)) ?_
  refine P_det rf (Over_out rf (Over_nil (y_assign (c := .int .i64 _) rf))) ?_
  refine PW_end rf ?_
  refine OverAll_cons (fun w6 l6 => ?_)
  refine OverAll_nil ?_
  rintro ⟨-, h6⟩
  obtain ⟨b3, rfl, rfl⟩ := h6
  refine zS fun ds => ?_
  refine zD hF (y_fieldAddr rf fa59_0) ?_
  refine zD hF (y_load1 rf Tryz.isAgg3 (Mem.own1 0 rf rf)) ?_
  refine zm (.int .i64 _) hF ?_
  refine zD hF (y_sub rf rf ui) ?_
  refine zD hF (y_max rf rf) ?_
  refine zD hF (y_fieldAddr rf fa59_1) ?_
  refine zD hF (y_load1 rf Tryz.isAgg3 (Mem.own1 0 rf rf)) ?_
  refine zm (.int .i64 _) hF ?_
  refine zD hF (y_sub rf rf ui) ?_
  refine zD hF (y_max rf rf) ?_
  refine zD hF (y_buildL bd59_0_1 rf) ?_
  refine WS_store hF (i := 7) rf rf Tryz.sizeOf59 rf rf rf d20 ?_
  refine za (.int .i64 _) hF ?_
  refine zN ?_
  refine W_ret ?_
  refine Fin_ret [_, .int .i64 _] [] Tryz.results30 ⟨lvN rf Tryz.isAgg59 Tryz.sizeOf59 (Mem.own (us := [.int .i64 _, .int .i64 _]) 7 rf rf) rf, by rfl, trivial⟩ HSub.nil ?_
  show Value.tuple _ = _
  unfold Lg.readyV
  rw [if_pos c2]; rfl
def Lg.roomV (l : Lg) : Value :=
 if l.aerr = 0 then .tuple #[.agg (Sn.sub ⟨l.tk.full, l.tk.full⟩ l.last).cells.toArray, .int .i64 0] else .tuple #[.agg Sn.z.cells.toArray, .int .i64 l.aerr]
def cmpI (x y : Int) : Int := if x < y then -1 else if y < x then 1 else 0
theorem compare_any (x y : Int) (w : World) : Ct Tryz.prog 86 #[.int .i64 x, .int .i64 y] w fun v _ => v = .int .i64 (cmpI x y) := by
 have hF := wide_wide
 refine Ct_start (args := [_, _]) Tryz.func86 rf Tryz.ntmps86 rf ?_
 refine zR fun ds => ?_
 refine za (.int .i64 _) hF ?_
 refine zP fun ds => ?_
 refine zm (.int .i64 _) hF ?_
 refine zD hF (y_callL rf rf Tryz.call118 (fun w hw => cnan_any _ w)) ?_
 refine za (.bool _) hF ?_
 refine zP fun ds => ?_
 refine zm (.int .i64 _) hF ?_
 refine zD hF (y_callL rf rf Tryz.call118 (fun w hw => cnan_any _ w)) ?_
 refine za (.bool _) hF ?_
 refine zO ?_
 refine zR fun ds => ?_
 refine zm (.bool _) hF ?_
 refine zN ?_
 refine W_cond rf (fun c3 => ?_) (fun c3 => ?_)
 ·cases c3
 ·
  try simp only [qz1, qz2, qz3, qz4, qz5, qz6, qz7, qz8] at c3
  refine zU ?_
  refine W_seq ?_
  refine zR fun ds => ?_
  refine zm (.bool _) hF ?_
  refine zN ?_
  refine W_cond rf (fun c7 => ?_) (fun c7 => ?_)
  ·cases c7
  ·
   try simp only [qz1, qz2, qz3, qz4, qz5, qz6, qz7, qz8] at c7
   refine zU ?_
   refine W_seq ?_
   refine zR fun ds => ?_
   refine zm (.int .i64 _) hF ?_
   refine zm (.int .i64 _) hF ?_
   refine zD hF (y_lss rf rf) ?_
   refine zN ?_
   refine W_cond rf (fun c9 => ?_) (fun c9 => ?_)
   ·
    try simp only [qz1, qz2, qz3, qz4, qz5, qz6, qz7, qz8] at c9
    refine zR fun ds => ?_
    refine za (.int .i64 _) hF ?_
    refine zN ?_
    refine W_ret ?_
    refine Then_ret ?_
    refine Fin_ret [.int .i64 _] [] Tryz.results86 ⟨by rfl, trivial⟩ HSub.nil ?_
    show Value.int _ _ = _
    unfold cmpI
    rw [if_pos om0]
   ·
    try simp only [qz1, qz2, qz3, qz4, qz5, qz6, qz7, qz8] at c9
    refine zU ?_
    refine W_seq ?_
    refine zR fun ds => ?_
    refine zm (.int .i64 _) hF ?_
    refine zm (.int .i64 _) hF ?_
    refine zD hF (y_gtr rf rf) ?_
    refine zN ?_
    refine W_cond rf (fun c11 => ?_) (fun c11 => ?_)
    ·
     try simp only [qz1, qz2, qz3, qz4, qz5, qz6, qz7, qz8] at c11
     refine zR fun ds => ?_
     refine za (.int .i64 _) hF ?_
     refine zN ?_
     refine W_ret ?_
     refine Then_ret ?_
     refine Fin_ret [.int .i64 _] [] Tryz.results86 ⟨by rfl, trivial⟩ HSub.nil ?_
     show Value.int _ _ = _
     unfold cmpI
     rw [if_neg om0, if_pos om0]
    ·
     try simp only [qz1, qz2, qz3, qz4, qz5, qz6, qz7, qz8] at c11
     refine W_skip ?_
     refine zS fun ds => ?_
     refine za (.int .i64 _) hF ?_
     refine zN ?_
     refine W_ret ?_
     refine Fin_ret [.int .i64 _] [] Tryz.results86 ⟨by rfl, trivial⟩ HSub.nil ?_
     show Value.int _ _ = _
     unfold cmpI
     rw [if_neg om0, if_neg om0]
def worstS (t : Tk) (s : Sn) (i : Int) : Int := max (min (max 0 (t.up i - s.lo)) (s.hi - s.lo + 1)) (s.hi - s.lo + 1 - min (max 0 (t.up i - s.lo)) (s.hi - s.lo + 1))
def Lg.worst (l : Lg) (i : Int) : Int := worstS l.tk l.last i
def bestN (f : Nat → Int) : Nat → Nat
 | 0 => 0
 | k + 1 => if f k < f (bestN f k) then k else bestN f k
def Lg.wN (l : Lg) (k : Nat) : Int := l.worst (k : Int)
def Lg.hN (l : Lg) : Nat := 8 * (l.tk.n - 1) + 1
def Lg.askV (l : Lg) : Value :=
 if l.aerr = 0 then if l.last.hi = l.last.lo then .tuple #[.int .i64 0, .int .i64 0, .int .i64 6] else .tuple #[.int .i64 (bestN l.wN l.hN : Nat), .int .i64 (l.wN (bestN l.wN l.hN)), .int .i64 0] else .tuple #[.int .i64 0, .int .i64 0, .int .i64 l.aerr]
theorem entry_any (l : Lg) (a : Option Addr) (cap : Nat) (ae : Option Addr) (cape : Nat) (x : En) (day : Int) (w : World) (hok : l.tk.Ok) (hn : l.tk.n ≤ 1000000) (hx : Ints w a l.tk.n cap l.tk.pints) (he : Ens w ae l.es.length cape l.es) :
  Ct Tryz.prog 71 #[.agg #[.slice a l.tk.n cap, .int .i64 l.tk.leak, .int .i64 l.tk.foot], .agg x.cells.toArray, .int .i64 day] w fun v _ => v = .bool (l.tk.entB day x) := by
 have := hok.n2
 have hh : l.tk.entB day x = (inB day 3652 [x.day] && inB 1 3 [x.kind] && (inB 0 (l.tk.most x.kind) [x.size.lo, x.size.hi] && decide (x.size.lo ≤ x.size.hi))) := rfl
 rw [hh]
 have hF := wide_wide
 refine Ct_start (args := [_, _, _]) Tryz.func71 rf Tryz.ntmps71 rf ?_
 refine zR fun ds => ?_
 refine WS_new hF rf (y_box rf) (fun b1 => ?_)
 refine WS_new hF rf (y_box rf) (fun b2 => ?_)
 refine za (.bool _) hF ?_
 refine zO ?_
 refine zR fun ds => ?_
 refine zD hF (y_fieldAddr rf fa90_0) ?_
 refine zD hF (y_load1 rf Tryz.isAgg3 (Mem.own1 0 rf rf)) ?_
 refine zm (.int .i64 _) hF ?_
 refine zD hF (y_callL rf rf Tryz.call106 (fun w hw => within_any _ _ _ w)) ?_
 refine zD hF (y_not rf) ?_
 refine zN ?_
 refine W_cond rf (fun c1 => ?_) (fun c1 => ?_)
 ·
  try simp only [qz1, qz2, qz3, qz4, qz5, qz6, qz7, qz8] at c1
  refine zR fun ds => ?_
  refine za (.bool _) hF ?_
  refine zN ?_
  refine W_ret ?_
  refine Then_ret ?_
  refine Fin_ret [.bool _] [] Tryz.results71 ⟨by rfl, trivial⟩ HSub.nil ?_
  show Value.bool _ = _
  first
   | (rw [c1]; rfl)
   | (rw [c1, show inB 1 3 [x.kind] = true from inB1.2 om0]; unfold Tk.most; rw [if_neg om0]; rfl)
   | (rw [c1, show inB 1 3 [x.kind] = true from inB1.2 om0]; unfold Tk.most; rw [if_pos om0]; rfl)
   | (rw [show inB 1 3 [x.kind] = false from inB1f.2 om0, Bool.and_false]; rfl)
 ·
  try simp only [qz1, qz2, qz3, qz4, qz5, qz6, qz7, qz8] at c1
  refine zU ?_
  refine W_seq ?_
  refine zR fun ds => ?_
  refine zD hF (y_fieldAddr rf fa90_1) ?_
  refine zD hF (y_load1 rf Tryz.isAgg3 (Mem.own1 0 rf rf)) ?_
  refine zN ?_
  refine W_block ?_
  refine W_seq ?_
  refine zR fun ds => ?_
  refine zD hF (y_eql rf rf) ?_
  refine za (.bool _) hF ?_
  refine zN ?_
  refine W_cond rf (fun c4 => ?_) (fun c4 => ?_)
  ·
   try simp only [qz1, qz2, qz3, qz4, qz5, qz6, qz7, qz8] at c4
   refine zU ?_
   refine W_cond rf (fun c4 => ?_) (fun c4 => ?_)
   ·
    try simp only [qz1, qz2, qz3, qz4, qz5, qz6, qz7, qz8] at c4
    refine W_seq ?_
    refine W_draw0 hF Tryzmixed [] dk0 (fun ds => ?_)
    refine P_det rf (Over_nil (y_fieldAddr rf fa90_2)) ?_
    refine P_det rf (Over_nil (y_loadN rf Tryz.isAgg59 Tryz.sizeOf59 (Mem.own (us := [.int .i64 _, .int .i64 _]) 0 rf rf) rf)) ?_
    refine P_det rf (Over_nil (y_loadN rf Tryz.isAgg57 Tryz.sizeOf57 (Mem.own (us := [.slice _ _ _, .int .i64 _, .int .i64 _]) 1 rf rf) rf)) ?_
    refine P_det rf (Over_nil (y_callL rf rf Tryz.call70 (fun w hw => full_any l.tk a cap w hn om0 (hx.st w hw)))) ?_
    refine P_det rf (Over_nil (y_callL rf rf Tryz.call69 (fun w hw => spanned_any _ _ _ w))) ?_
    refine P_det rf (Over_nil (y_assign (c := .bool _) rf)) ?_
    refine PW_end rf ?_
    refine OverAll_nil ?_
    rintro -
    refine Then_normal ?_
    refine W_ret ?_
    refine InB_ret ?_
    refine Then_ret ?_
    refine Fin_ret [.bool _] [] Tryz.results71 ⟨by rfl, trivial⟩ HSub.nil ?_
    show Value.bool _ = _
    first
     | (rw [c1]; rfl)
     | (rw [c1, show inB 1 3 [x.kind] = true from inB1.2 om0]; unfold Tk.most; rw [if_neg om0]; rfl)
     | (rw [c1, show inB 1 3 [x.kind] = true from inB1.2 om0]; unfold Tk.most; rw [if_pos om0]; rfl)
     | (rw [show inB 1 3 [x.kind] = false from inB1f.2 om0, Bool.and_false]; rfl)
   ·
    try simp only [qz1, qz2, qz3, qz4, qz5, qz6, qz7, qz8] at c4
    refine zR fun ds => ?_
    refine zD hF (y_eql rf rf) ?_
    refine za (.bool _) hF ?_
    refine zN ?_
    refine W_cond rf (fun c7 => ?_) (fun c7 => ?_)
    ·
     try simp only [qz1, qz2, qz3, qz4, qz5, qz6, qz7, qz8] at c7
     refine W_seq ?_
     refine W_draw0 hF Tryzmixed [] dk0 (fun ds => ?_)
     refine P_det rf (Over_nil (y_fieldAddr rf fa90_2)) ?_
     refine P_det rf (Over_nil (y_loadN rf Tryz.isAgg59 Tryz.sizeOf59 (Mem.own (us := [.int .i64 _, .int .i64 _]) 0 rf rf) rf)) ?_
     refine P_det rf (Over_nil (y_loadN rf Tryz.isAgg57 Tryz.sizeOf57 (Mem.own (us := [.slice _ _ _, .int .i64 _, .int .i64 _]) 1 rf rf) rf)) ?_
     refine P_det rf (Over_nil (y_callL rf rf Tryz.call107 (fun w hw => height_any l.tk a cap w hn))) ?_
     refine P_det rf (Over_nil (y_callL rf rf Tryz.call69 (fun w hw => spanned_any _ _ _ w))) ?_
     refine P_det rf (Over_nil (y_assign (c := .bool _) rf)) ?_
     refine PW_end rf ?_
     refine OverAll_nil ?_
     rintro -
     refine Then_normal ?_
     refine W_ret ?_
     refine InB_ret ?_
     refine Then_ret ?_
     refine Fin_ret [.bool _] [] Tryz.results71 ⟨by rfl, trivial⟩ HSub.nil ?_
     show Value.bool _ = _
     first
      | (rw [c1]; rfl)
      | (rw [c1, show inB 1 3 [x.kind] = true from inB1.2 om0]; unfold Tk.most; rw [if_neg om0]; rfl)
      | (rw [c1, show inB 1 3 [x.kind] = true from inB1.2 om0]; unfold Tk.most; rw [if_pos om0]; rfl)
      | (rw [show inB 1 3 [x.kind] = false from inB1f.2 om0, Bool.and_false]; rfl)
    ·
     try simp only [qz1, qz2, qz3, qz4, qz5, qz6, qz7, qz8] at c7
     refine W_skip ?_
     refine InB_normal ?_
     refine zS fun ds => ?_
     refine za (.bool _) hF ?_
     refine zN ?_
     refine W_ret ?_
     refine Fin_ret [.bool _] [] Tryz.results71 ⟨by rfl, trivial⟩ HSub.nil ?_
     show Value.bool _ = _
     first
      | (rw [c1]; rfl)
      | (rw [c1, show inB 1 3 [x.kind] = true from inB1.2 om0]; unfold Tk.most; rw [if_neg om0]; rfl)
      | (rw [c1, show inB 1 3 [x.kind] = true from inB1.2 om0]; unfold Tk.most; rw [if_pos om0]; rfl)
      | (rw [show inB 1 3 [x.kind] = false from inB1f.2 om0, Bool.and_false]; rfl)
  ·
   try simp only [qz1, qz2, qz3, qz4, qz5, qz6, qz7, qz8] at c4
   refine W_region_lit (fun ds => ?_)
   refine zD hF (y_eql rf rf) ?_
   refine za (.bool _) hF ?_
   refine zN ?_
   refine W_cond rf (fun c5 => ?_) (fun c5 => ?_)
   ·
    try simp only [qz1, qz2, qz3, qz4, qz5, qz6, qz7, qz8] at c5
    refine W_seq ?_
    refine W_draw0 hF Tryzmixed [] dk0 (fun ds => ?_)
    refine P_det rf (Over_nil (y_fieldAddr rf fa90_2)) ?_
    refine P_det rf (Over_nil (y_loadN rf Tryz.isAgg59 Tryz.sizeOf59 (Mem.own (us := [.int .i64 _, .int .i64 _]) 0 rf rf) rf)) ?_
    refine P_det rf (Over_nil (y_loadN rf Tryz.isAgg57 Tryz.sizeOf57 (Mem.own (us := [.slice _ _ _, .int .i64 _, .int .i64 _]) 1 rf rf) rf)) ?_
    refine P_det rf (Over_nil (y_callL rf rf Tryz.call70 (fun w hw => full_any l.tk a cap w hn om0 (hx.st w hw)))) ?_
    refine P_det rf (Over_nil (y_callL rf rf Tryz.call69 (fun w hw => spanned_any _ _ _ w))) ?_
    refine P_det rf (Over_nil (y_assign (c := .bool _) rf)) ?_
    refine PW_end rf ?_
    refine OverAll_nil ?_
    rintro -
    refine Then_normal ?_
    refine W_ret ?_
    refine InB_ret ?_
    refine Then_ret ?_
    refine Fin_ret [.bool _] [] Tryz.results71 ⟨by rfl, trivial⟩ HSub.nil ?_
    show Value.bool _ = _
    first
     | (rw [c1]; rfl)
     | (rw [c1, show inB 1 3 [x.kind] = true from inB1.2 om0]; unfold Tk.most; rw [if_neg om0]; rfl)
     | (rw [c1, show inB 1 3 [x.kind] = true from inB1.2 om0]; unfold Tk.most; rw [if_pos om0]; rfl)
     | (rw [show inB 1 3 [x.kind] = false from inB1f.2 om0, Bool.and_false]; rfl)
   ·
    try simp only [qz1, qz2, qz3, qz4, qz5, qz6, qz7, qz8] at c5
    refine zR fun ds => ?_
    refine zD hF (y_eql rf rf) ?_
    refine za (.bool _) hF ?_
    refine zN ?_
    refine W_cond rf (fun c7 => ?_) (fun c7 => ?_)
    ·
     try simp only [qz1, qz2, qz3, qz4, qz5, qz6, qz7, qz8] at c7
     refine W_seq ?_
     refine W_draw0 hF Tryzmixed [] dk0 (fun ds => ?_)
     refine P_det rf (Over_nil (y_fieldAddr rf fa90_2)) ?_
     refine P_det rf (Over_nil (y_loadN rf Tryz.isAgg59 Tryz.sizeOf59 (Mem.own (us := [.int .i64 _, .int .i64 _]) 0 rf rf) rf)) ?_
     refine P_det rf (Over_nil (y_loadN rf Tryz.isAgg57 Tryz.sizeOf57 (Mem.own (us := [.slice _ _ _, .int .i64 _, .int .i64 _]) 1 rf rf) rf)) ?_
     refine P_det rf (Over_nil (y_callL rf rf Tryz.call107 (fun w hw => height_any l.tk a cap w hn))) ?_
     refine P_det rf (Over_nil (y_callL rf rf Tryz.call69 (fun w hw => spanned_any _ _ _ w))) ?_
     refine P_det rf (Over_nil (y_assign (c := .bool _) rf)) ?_
     refine PW_end rf ?_
     refine OverAll_nil ?_
     rintro -
     refine Then_normal ?_
     refine W_ret ?_
     refine InB_ret ?_
     refine Then_ret ?_
     refine Fin_ret [.bool _] [] Tryz.results71 ⟨by rfl, trivial⟩ HSub.nil ?_
     show Value.bool _ = _
     first
      | (rw [c1]; rfl)
      | (rw [c1, show inB 1 3 [x.kind] = true from inB1.2 om0]; unfold Tk.most; rw [if_neg om0]; rfl)
      | (rw [c1, show inB 1 3 [x.kind] = true from inB1.2 om0]; unfold Tk.most; rw [if_pos om0]; rfl)
      | (rw [show inB 1 3 [x.kind] = false from inB1f.2 om0, Bool.and_false]; rfl)
    ·
     try simp only [qz1, qz2, qz3, qz4, qz5, qz6, qz7, qz8] at c7
     refine W_skip ?_
     refine InB_normal ?_
     refine zS fun ds => ?_
     refine za (.bool _) hF ?_
     refine zN ?_
     refine W_ret ?_
     refine Fin_ret [.bool _] [] Tryz.results71 ⟨by rfl, trivial⟩ HSub.nil ?_
     show Value.bool _ = _
     first
      | (rw [c1]; rfl)
      | (rw [c1, show inB 1 3 [x.kind] = true from inB1.2 om0]; unfold Tk.most; rw [if_neg om0]; rfl)
      | (rw [c1, show inB 1 3 [x.kind] = true from inB1.2 om0]; unfold Tk.most; rw [if_pos om0]; rfl)
      | (rw [show inB 1 3 [x.kind] = false from inB1f.2 om0, Bool.and_false]; rfl)
theorem rlog_any (l : Lg) (a : Option Addr) (cap : Nat) (ae : Option Addr) (cape : Nat) (w : World) (hn : l.tk.n ≤ 1000000) (hx : Ints w a l.tk.n cap l.tk.pints) (he : Ens w ae l.es.length cape l.es) : Ct Tryz.prog 28 #[.agg #[.slice a l.tk.n cap, .int .i64 l.tk.leak, .int .i64 l.tk.foot, .int .i64 l.start.lo, .int .i64 l.start.hi, .slice ae l.es.length cape]] w fun v _ => v = .bool (l.tk.okB && l.okB) := by
 have hF := wide_wide
 refine Ct_start (args := [_]) Tryz.func28 rf Tryz.ntmps28 rf ?_
 refine zR fun ds => ?_
 refine WS_new hF rf (y_box rf) (fun b1 => ?_)
 refine za (.bool _) hF ?_
 refine zO ?_
 refine W_seq ?_
 refine W_draw0 hF Tryzmixed [] dk0 (fun ds => ?_)
 refine P_det rf (Over_nil (y_fieldAddr rf fa62_0)) ?_
 refine P_det rf (Over_nil (y_loadN rf Tryz.isAgg57 Tryz.sizeOf57 (Mem.own (us := [.slice _ _ _, .int .i64 _, .int .i64 _]) 0 rf rf) rf)) ?_
 refine P_det rf (Over_nil (y_callL rf rf Tryz.call68 (fun w hw => tank_any l.tk a cap w hn (hx.st w hw)))) ?_
 refine P_det rf (Over_nil (y_not rf)) ?_
 refine P_det rf (Over_nil (y_move (c := .bool _) rf)) ?_
 refine P_split 9 rf (fun g1_4 => ?_) (fun g1_4 => ?_)
 ·
  try simp only [qz1, qz2, qz3, qz4, qz5, qz6, qz7, qz8] at g1_4
  refine P_no rf ?_
  refine P_no rf ?_
  refine P_no rf ?_
  refine P_no rf ?_
  refine P_no rf ?_
  refine P_no rf ?_
  refine P_no rf ?_
  refine P_det rf (Over_nil (by first | exact y_pick_t (c := .bool _) rf rf | exact y_pick_f (c := .bool _) rf rf)) ?_
  refine P_det rf (Over_nil (y_move (c := .bool _) rf)) ?_
  refine P_no rf ?_
  refine P_no rf ?_
  refine P_no rf ?_
  refine P_no rf ?_
  refine P_det rf (Over_nil (by first | exact y_pick_t (c := .bool _) rf rf | exact y_pick_f (c := .bool _) rf rf)) ?_
  refine PW_end rf ?_
  refine OverAll_nil ?_
  rintro -
  refine Then_normal ?_
  refine W_cond rf (fun c1 => ?_) (fun c1 => ?_)
  ·
   try simp only [qz1, qz2, qz3, qz4, qz5, qz6, qz7, qz8] at c1
   refine zR fun ds => ?_
   refine za (.bool _) hF ?_
   refine zN ?_
   refine W_ret ?_
   refine Then_ret ?_
   refine Fin_ret [.bool _] [] Tryz.results28 ⟨by rfl, trivial⟩ HSub.nil ?_
   show Value.bool _ = _
   rw [g1_4]; rfl
  ·cases c1
 ·
  try simp only [qz1, qz2, qz3, qz4, qz5, qz6, qz7, qz8] at g1_4
  have hok := Tk.ok_iff.1 g1_4
  have hn2 := hok.n2
  refine P_det rf (Over_nil (y_fieldAddr rf fa62_1)) ?_
  refine P_det rf (Over_nil (y_loadN rf Tryz.isAgg59 Tryz.sizeOf59 (Mem.own (us := [.int .i64 _, .int .i64 _]) 0 rf rf) rf)) ?_
  refine P_det rf (Over_nil (y_fieldAddr rf fa62_0)) ?_
  refine P_det rf (Over_nil (y_loadN rf Tryz.isAgg57 Tryz.sizeOf57 (Mem.own (us := [.slice _ _ _, .int .i64 _, .int .i64 _]) 0 rf rf) rf)) ?_
  refine P_det rf (Over_nil (y_callL rf rf Tryz.call70 (fun w hw => full_any l.tk a cap w hn om0 (hx.st w hw)))) ?_
  refine P_det rf (Over_nil (y_callL rf rf Tryz.call69 (fun w hw => spanned_any _ _ _ w))) ?_
  refine P_det rf (Over_nil (y_not rf)) ?_
  refine P_det rf (Over_nil (by first | exact y_pick_t (c := .bool _) rf rf | exact y_pick_f (c := .bool _) rf rf)) ?_
  refine P_det rf (Over_nil (y_move (c := .bool _) rf)) ?_
  refine P_split 18 rf (fun g1_13 => ?_) (fun g1_13 => ?_)
  ·
   try simp only [qz1, qz2, qz3, qz4, qz5, qz6, qz7, qz8] at g1_13
   refine P_no rf ?_
   refine P_no rf ?_
   refine P_no rf ?_
   refine P_no rf ?_
   refine P_det rf (Over_nil (by first | exact y_pick_t (c := .bool _) rf rf | exact y_pick_f (c := .bool _) rf rf)) ?_
   refine PW_end rf ?_
   refine OverAll_nil ?_
   rintro -
   refine Then_normal ?_
   refine W_cond rf (fun c1 => ?_) (fun c1 => ?_)
   ·
    try simp only [qz1, qz2, qz3, qz4, qz5, qz6, qz7, qz8] at c1
    refine zR fun ds => ?_
    refine za (.bool _) hF ?_
    refine zN ?_
    refine W_ret ?_
    refine Then_ret ?_
    refine Fin_ret [.bool _] [] Tryz.results28 ⟨by rfl, trivial⟩ HSub.nil ?_
    show Value.bool _ = _
    have hs : l.start.inB l.tk.full = false := g1_13
    simp [Lg.okB, hs]
   ·cases c1
  ·
   try simp only [qz1, qz2, qz3, qz4, qz5, qz6, qz7, qz8] at g1_13
   refine P_det rf (Over_nil (y_fieldAddr rf fa62_2)) ?_
   refine P_det rf (Over_nil (y_load1 rf Tryz.isAgg60 (Mem.own1 0 rf rf))) ?_
   refine P_det rf (Over_nil (y_len rf Tryz.runUnderlying60)) ?_
   refine P_det rf (Over_nil (y_gtr rf rf)) ?_
   refine P_det rf (Over_nil (by first | exact y_pick_t (c := .bool _) rf rf | exact y_pick_f (c := .bool _) rf rf)) ?_
   refine PW_end rf ?_
   refine OverAll_nil ?_
   rintro -
   refine Then_normal ?_
   refine W_cond rf (fun c1 => ?_) (fun c1 => ?_)
   ·
    try simp only [qz1, qz2, qz3, qz4, qz5, qz6, qz7, qz8] at c1
    refine zR fun ds => ?_
    refine za (.bool _) hF ?_
    refine zN ?_
    refine W_ret ?_
    refine Then_ret ?_
    refine Fin_ret [.bool _] [] Tryz.results28 ⟨by rfl, trivial⟩ HSub.nil ?_
    show Value.bool _ = _
    have : decide (l.es.length ≤ 12) = false := by simp; omega
    simp [Lg.okB, this]
   ·
    try simp only [qz1, qz2, qz3, qz4, qz5, qz6, qz7, qz8] at c1
    refine W_skip ?_
    refine zS fun ds => ?_
    refine za (.int .i64 _) hF ?_
    refine zO ?_
    refine zR fun ds => ?_
    refine za (.int .i64 _) hF ?_
    refine zN ?_
    refine W_block ?_
    refine W_loop (γ := Nat) (fun k => k ≤ l.es.length ∧ l.tk.entsB 0 (l.es.take k) = true) (fun k => [(1, .pointer (some ⟨b1, 0, none⟩)), (3, .int .i64 (l.dayAt k)), (4, .int .i64 (k : Int))]) (fun _ => _) (fun k => l.es.length - k) (0) ⟨Nat.zero_le _, rfl⟩ s10 (List.Sublist.refl _) ?_
    rintro k e ⟨hk, hent⟩
    refine W_seq ?_
    refine zR fun ds => ?_
    refine zm (.int .i64 _) hF ?_
    refine zD hF (y_fieldAddr rf fa62_2) ?_
    refine zD hF (y_load1 rf Tryz.isAgg60 (Mem.own1 0 rf rf)) ?_
    refine zD hF (y_len rf Tryz.runUnderlying60) ?_
    refine zD hF (y_lss rf rf) ?_
    refine zN ?_
    refine W_cond rf (fun c5 => ?_) (fun c5 => ?_)
    ·
     try simp only [qz1, qz2, qz3, qz4, qz5, qz6, qz7, qz8] at c5
     obtain ⟨b, o, rfl, hc⟩ := he.cell k om0
     change At w b _ (l.e k).cells at hc
     refine zU ?_
     refine W_seq ?_
     refine W_block ?_
     refine W_seq ?_
     refine W_seq ?_
     refine W_draw0 hF Tryzmixed [] dk0 (fun ds => ?_)
     refine P_det rf (Over_nil (y_fieldAddr rf fa62_0)) ?_
     refine P_det rf (Over_nil (y_loadN rf Tryz.isAgg57 Tryz.sizeOf57 (Mem.own (us := [.slice _ _ _, .int .i64 _, .int .i64 _]) 0 rf rf) rf)) ?_
     refine P_det rf (Over_nil (y_fieldAddr rf fa62_2)) ?_
     refine P_det rf (Over_nil (y_load1 rf Tryz.isAgg60 (Mem.own1 0 rf rf))) ?_
     refine P_det rf (Over_nil (y_move (c := .int .i64 _) rf)) ?_
     refine P_det rf (Over_nil (y_index (k := k) rf rf r10 d10 Tryz.runUnderlying60 Tryz.sizeOf90)) ?_
     refine P_det rf (Over_nil (y_loadN rf Tryz.isAgg90 Tryz.sizeOf90 (zq [.int .i64 _, .int .i64 _, .int .i64 _, .int .i64 _]) rf)) ?_
     refine P_det rf (Over_nil (y_move (c := .int .i64 _) rf)) ?_
     refine P_det rf (Over_nil (y_callL rf rf Tryz.call71 (fun w hw => entry_any l a cap _ cape (l.e k) (l.dayAt k) w hok hn (hx.st w hw) (he.st w hw)))) ?_
     refine P_det rf (Over_nil (y_not rf)) ?_
     refine PW_end rf ?_
     refine OverAll_nil ?_
     rintro -
     refine Then_normal ?_
     refine W_cond rf (fun c7 => ?_) (fun c7 => ?_)
     ·
      try simp only [qz1, qz2, qz3, qz4, qz5, qz6, qz7, qz8] at c7
      refine zR fun ds => ?_
      refine za (.bool _) hF ?_
      refine zN ?_
      refine W_ret ?_
      refine Then_ret ?_
      refine InB_ret ?_
      refine Then_ret ?_
      refine Loop_ret ?_
      refine InB_ret ?_
      refine Then_ret ?_
      refine Fin_ret [.bool _] [] Tryz.results28 ⟨by rfl, trivial⟩ HSub.nil ?_
      show Value.bool _ = _
      simp [Lg.okB, l.tk.entsB_bad om0 c7]
     ·
      try simp only [qz1, qz2, qz3, qz4, qz5, qz6, qz7, qz8] at c7
      have hgood : (true && l.tk.entB (if k = 0 then 0 else (l.es.getD (k - 1) En.z).day) (l.es.getD k En.z)) = true := by
       rw [Bool.true_and]; exact c7
      refine W_skip ?_
      refine zT fun ds => ?_
      refine zD hF (y_fieldAddr rf fa62_2) ?_
      refine zD hF (y_load1 rf Tryz.isAgg60 (Mem.own1 0 rf rf)) ?_
      refine zm (.int .i64 _) hF ?_
      refine zD hF (y_index (k := k) rf rf r10 d10 Tryz.runUnderlying60 Tryz.sizeOf90) ?_
      refine zD hF (y_fieldAddr rf fa90_0) ?_
      refine zD hF (y_load1 rf Tryz.isAgg3 zo) ?_
      refine za (.int .i64 _) hF ?_
      refine WS_nil ?_
      refine InB_normal ?_
      refine zT fun ds => ?_
      refine zm (.int .i64 _) hF ?_
      refine zD hF (y_add rf rf ui) ?_
      refine za (.int .i64 _) hF ?_
      refine WS_nil ?_
      exact Loop_next (k + 1) ⟨by omega, by rw [l.tk.entsB_succ l.es 0 k om0, hent]; exact hgood⟩ s10 s20 om0
    ·
     try simp only [qz1, qz2, qz3, qz4, qz5, qz6, qz7, qz8] at c5
     refine W_exit ?_
     refine Then_exit ?_
     refine Loop_exit ?_
     refine InB_same ?_
     refine zS fun ds => ?_
     refine za (.bool _) hF ?_
     refine zN ?_
     refine W_ret ?_
     refine Fin_ret [.bool _] [] Tryz.results28 ⟨by rfl, trivial⟩ HSub.nil ?_
     show Value.bool _ = _
     have hkn : k = l.es.length := by omega
     rw [hkn, List.take_length] at hent
     have hs : l.start.inB l.tk.full = true := g1_13
     have h12 : decide (l.es.length ≤ 12) = true := by simp; omega
     simp [Lg.okB, hs, hent, h12, g1_4]
def ForthV (l : Lg) (v : Value) (Hn : List Blk) : Prop :=
 ∃ fb m cap junk f, v = .tuple #[.slice (some ⟨fb, 0, none⟩) m cap, .bool l.holdsB] ∧ Hn = [(fb, CB (snRow f m ++ junk) 59)] ∧ (l.holdsB = true → m = l.es.length + 1 ∧ f = l.hold)
def RBackV (l : Lg) (v : Value) (Hn : List Blk) : Prop := ∃ ab, v = .slice (some ⟨ab, 0, none⟩) (l.es.length + 1) (l.es.length + 1) ∧ Hn = [(ab, CB (snRow l.aft (l.es.length + 1)) 59)]
theorem en_len (x : En) : x.cells.length = 4 := rfl
theorem infEntry : (Tryz.prog.info? 90).map (fun i => (i.zero, i.size, i.bytes)) = some (some (.agg #[.int .i64 0, .int .i64 0, .int .i64 0, .int .i64 0]), 4, 32) := by kernel_rfl
theorem great_any (l : Lg) (a : Option Addr) (cap : Nat) (ae : Option Addr) (cape : Nat) (w : World) :
  Ct Tryz.prog 27 #[.agg #[.slice a l.tk.n cap, .int .i64 l.tk.leak, .int .i64 l.tk.foot, .int .i64 l.start.lo, .int .i64 l.start.hi, .slice ae l.es.length cape]] w fun v _ => v = .bool (decide ((l.tk.n : Int) > 40) || decide ((l.es.length : Int) > 24)) := by
 have hF := wide_wide
 refine Ct_start (args := [_]) Tryz.func27 rf Tryz.ntmps27 rf ?_
 refine zR fun ds => ?_
 refine WS_new hF rf (y_box rf) (fun b1 => ?_)
 refine za (.bool _) hF ?_
 refine zP fun ds => ?_
 refine zD hF (y_fieldAddr rf fa62_0) ?_
 refine zD hF (y_loadN rf Tryz.isAgg57 Tryz.sizeOf57 (Mem.own (us := [.slice _ _ _, .int .i64 _, .int .i64 _]) 0 rf rf) rf) ?_
 refine zD hF (y_callL rf rf Tryz.call67 (fun w hw => greatTank_any l.tk a cap w)) ?_
 refine zm (.bool _) hF ?_
 refine WS_split 6 rf (fun g1_3 => ?_) (fun g1_3 => ?_)
 ·
  try simp only [qz1, qz2, qz3, qz4, qz5, qz6, qz7, qz8] at g1_3
  refine zno hF ?_
  refine zno hF ?_
  refine zno hF ?_
  refine zno hF ?_
  refine zD hF (zpk (.bool _)) ?_
  refine za (.bool _) hF ?_
  refine zN ?_
  refine W_ret ?_
  refine Fin_ret [.bool _] [] Tryz.results27 ⟨by rfl, trivial⟩ HSub.nil ?_
  show Value.bool _ = _
  simp [*] <;> omega
 ·
  try simp only [qz1, qz2, qz3, qz4, qz5, qz6, qz7, qz8] at g1_3
  refine zD hF (y_fieldAddr rf fa62_2) ?_
  refine zD hF (y_load1 rf Tryz.isAgg60 (Mem.own1 0 rf rf)) ?_
  refine zD hF (y_len rf Tryz.runUnderlying60) ?_
  refine zD hF (y_gtr rf rf) ?_
  refine zD hF (zpk (.bool _)) ?_
  refine za (.bool _) hF ?_
  refine zN ?_
  refine W_ret ?_
  refine Fin_ret [.bool _] [] Tryz.results27 ⟨by rfl, trivial⟩ HSub.nil ?_
  show Value.bool _ = _
  simp [*] <;> omega
def TwinL (l : Lg) (v : Value) (Hn : List Blk) : Prop :=
 ∃ a cap ae cape H1 H2, v = .agg #[.slice a l.tk.n cap, .int .i64 l.tk.leak, .int .i64 l.tk.foot, .int .i64 l.start.lo, .int .i64 l.start.hi, .slice ae l.es.length cape] ∧ NewRow 3 1 l.tk.n (iv l.tk.pints) (.slice a l.tk.n cap) H1 ∧ NewRow 90 4 l.es.length (rowOf En.cells l.e l.es.length) (.slice ae l.es.length cape) H2 ∧ Hn = H1 ++ H2
def Lg.holdsV (l : Lg) (i : Int) : Value :=
 if l.aerr = 0 then if inB 0 l.es.length [i] then .tuple #[.agg (l.at i.toNat).cells.toArray, .int .i64 0] else .tuple #[.agg Sn.z.cells.toArray, .int .i64 2] else .tuple #[.agg Sn.z.cells.toArray, .int .i64 l.aerr]
theorem holds_any (l : Lg) (a : Option Addr) (cap : Nat) (ae : Option Addr) (cape : Nat) (i : Int) (w : World) (hn : l.tk.n ≤ 1000000) (hx : Ints w a l.tk.n cap l.tk.pints) (he : Ens w ae l.es.length cape l.es) : Ct Tryz.prog 34 #[.agg #[.slice a l.tk.n cap, .int .i64 l.tk.leak, .int .i64 l.tk.foot, .int .i64 l.start.lo, .int .i64 l.start.hi, .slice ae l.es.length cape], .int .i64 i] w fun v _ => v = l.holdsV i := by
 have hF := wide_wide
 refine Ct_start (args := [_, _]) Tryz.func34 rf Tryz.ntmps34 rf ?_
 refine zR fun ds => ?_
 refine WS_new hF rf (y_box rf) (fun b1 => ?_)
 refine WS_new hF rf (y_alloc Tryz.zeroValue59 rf) (fun b2 => ?_)
 refine za (.int .i64 _) hF ?_
 refine zP fun ds => ?_
 refine zD hF (y_loadN rf Tryz.isAgg62 Tryz.sizeOf62 (Mem.own (us := [.slice _ _ _, .int .i64 _, .int .i64 _, .int .i64 _, .int .i64 _, .slice _ _ _]) 1 rf rf) rf) ?_
 refine WS_gen hF rf (y_callL rf rf Tryz.call73 (fun w hw => asked_any l a cap ae cape w hn (hx.st w hw) (he.st w hw))) ?_
 rintro _ Hg ⟨p, rfl, hg1, hg2⟩
 refine zm (.tuple _) hF ?_
 refine zD hF (y_extract (c := .pointer _) rf rf) ?_
 refine zD hF (y_extract (c := .int .i64 _) rf rf) ?_
 refine za (.pointer _) hF ?_
 refine za (.int .i64 _) hF ?_
 refine zO ?_
 refine zR fun ds => ?_
 refine zm (.int .i64 _) hF ?_
 refine zD hF (y_neq rf rf) ?_
 refine zN ?_
 refine W_cond rf (fun c2 => ?_) (fun c2 => ?_)
 ·
  try simp only [qz1, qz2, qz3, qz4, qz5, qz6, qz7, qz8] at c2
  obtain rfl := hg2 c2
  refine zR fun ds => ?_
  refine zD hF (y_buildL bd59 rf) ?_
  refine zm (.int .i64 _) hF ?_
  refine WS_store hF (i := 0) rf rf Tryz.sizeOf59 rf rf rf d20 ?_
  refine za (.int .i64 _) hF ?_
  refine zN ?_
  refine W_ret ?_
  refine Then_ret ?_
  refine Fin_ret [_, .int .i64 _] [] Tryz.results34 ⟨lvN rf Tryz.isAgg59 Tryz.sizeOf59 (Mem.own (us := [.int .i64 _, .int .i64 _]) 0 rf rf) rf, by rfl, trivial⟩ HSub.nil ?_
  show Value.tuple _ = _
  unfold Lg.holdsV
  rw [if_neg c2]; rfl
 ·
  try simp only [qz1, qz2, qz3, qz4, qz5, qz6, qz7, qz8] at c2
  obtain ⟨kb, rfl, bk, g, fb, capf, junk, ab, bb, rfl⟩ := hg1 c2
  have hok := l.ok_of (l.aerr0 c2).1
  have hne := (l.aerr0 c2).2
  have hfull := hok.tk.full_bd
  have hlb := hok.last_bd hne
  refine zU ?_
  refine W_seq ?_
  refine zR fun ds => ?_
  refine zD hF (y_fieldAddr rf fa62_2) ?_
  refine zD hF (y_load1 rf Tryz.isAgg60 (Mem.own1 7 rf rf)) ?_
  refine zD hF (y_len rf Tryz.runUnderlying60) ?_
  refine zm (.int .i64 _) hF ?_
  refine WS_newS hF rf (y_buildSliceL bs22_1_0 rf) (fun b3 => ?_)
  refine zD hF (y_callL rf rf Tryz.call80 (fun w hw => in_any _ _ _ _ _ _ w dc (by first | exact Ints.one 0 rfl w hw | exact Ints.two 0 rfl w hw))) ?_
  refine zD hF (y_not rf) ?_
  refine zN ?_
  refine W_cond rf (fun c4 => ?_) (fun c4 => ?_)
  ·
   try simp only [qz1, qz2, qz3, qz4, qz5, qz6, qz7, qz8] at c4
   refine zR fun ds => ?_
   refine zD hF (y_buildL bd59 rf) ?_
   refine WS_store hF (i := 7) rf rf Tryz.sizeOf59 rf rf rf d20 ?_
   refine za (.int .i64 _) hF ?_
   refine zN ?_
   refine W_ret ?_
   refine Then_ret ?_
   refine Fin_ret [_, .int .i64 _] [] Tryz.results34 ⟨lvN rf Tryz.isAgg59 Tryz.sizeOf59 (Mem.own (us := [.int .i64 _, .int .i64 _]) 7 rf rf) rf, by rfl, trivial⟩ HSub.nil ?_
   show Value.tuple _ = _
   unfold Lg.holdsV
   rw [if_pos c2, c4]; rfl
  ·
   try simp only [qz1, qz2, qz3, qz4, qz5, qz6, qz7, qz8] at c4
   have hin := inB1.1 c4
   obtain ⟨k, rfl⟩ : ∃ k : Nat, i = (k : Int) := Int.eq_ofNat_of_zero_le hin.1
   refine W_skip ?_
   refine zS fun ds => ?_
   refine zm (.pointer _) hF ?_
   refine zm (.int .i64 _) hF ?_
   refine zD hF (y_callL rf rf Tryz.call81 (fun w hw => at_any kb l k w (Kn.own (a := a) (cap := cap) (ae := ae) (cape := cape) (bk := bk) (g := g) (fb := fb) (capf := capf) (junk := junk) (ab := ab) (bb := bb) (by unfold knBlocks; repeat (first | exact List.Sublist.refl _ | exact List.nil_sublist _ | apply List.Sublist.cons_cons | apply List.Sublist.cons)) c2 hx he w hw) om0)) ?_
   refine WS_store hF (i := 7) rf rf Tryz.sizeOf59 rf rf rf d20 ?_
   refine za (.int .i64 _) hF ?_
   refine zN ?_
   refine W_ret ?_
   refine Fin_ret [_, .int .i64 _] [] Tryz.results34 ⟨lvN rf Tryz.isAgg59 Tryz.sizeOf59 (Mem.own (us := [.int .i64 _, .int .i64 _]) 7 rf rf) rf, by rfl, trivial⟩ HSub.nil ?_
   show Value.tuple _ = _
   unfold Lg.holdsV
   rw [if_pos c2, c4, if_pos rfl, Int.toNat_natCast]; rfl
def Lg.moved (l : Lg) (k : Nat) : Sn := if (l.e k).kind = 2 then (l.e k).size.met ((l.before k (l.hold k)).sub (l.aft (k + 1))) else (l.e k).size.met ((l.aft (k + 1)).sub (l.before k (l.hold k)))
def Lg.movedV (l : Lg) (i : Int) : Value :=
 if l.aerr = 0 then if inB 1 l.es.length [i] && !decide ((l.e (i - 1).toNat).kind = 3) then .tuple #[.agg (l.moved (i - 1).toNat).cells.toArray, .int .i64 0] else .tuple #[.agg Sn.z.cells.toArray, .int .i64 2] else .tuple #[.agg Sn.z.cells.toArray, .int .i64 l.aerr]
def Lg.lostV (l : Lg) (i : Int) : Value :=
 if l.aerr = 0 then if inB 1 ((l.es.length : Int) - 1) [i] then .tuple #[.agg ((Sn.met ⟨0, l.drip i.toNat⟩ ((l.hold i.toNat).sub (l.ahd i.toNat)))).cells.toArray, .int .i64 0] else .tuple #[.agg Sn.z.cells.toArray, .int .i64 2] else .tuple #[.agg Sn.z.cells.toArray, .int .i64 l.aerr]
def Lg.tr (l : Lg) : Nat → Int
 | 0 => (l.at 0).lo
 | k + 1 => max (l.after k ⟨l.tr k, l.tr k⟩).lo (l.aft (k + 1)).lo
def iEnc (x : Int) : List Value := [.int .i64 x]
theorem ii_len (x : Int) : (iEnc x).length = 1 := rfl
abbrev iRow (f : Nat → Int) (n : Nat) : List Value := rowOf iEnc f n
def TruthV (l : Lg) (v : Value) (Hn : List Blk) : Prop :=
 (l.aerr ≠ 0 → v = .tuple #[.slice none 0 0, .int .i64 l.aerr] ∧ Hn = []) ∧ (l.aerr = 0 → ∃ tb cap junk, v = .tuple #[.slice (some ⟨tb, 0, none⟩) (l.es.length + 1) cap, .int .i64 0] ∧ l.es.length + 1 ≤ cap ∧ Hn = [(tb, CB (iRow l.tr (l.es.length + 1) ++ junk) 3)])
def maxN (f : Nat → Int) : Nat → Int
 | 0 => f 0
 | k + 1 => max (maxN f k) (f k)
theorem At.iRow {w : World} {b : Nat} {f : Nat → Int} {n k o : Nat} (h : At w b 0 (iRow f n)) (hk : k < n) (ho : o = k * 1) : At w b o [.int .i64 (f k)] := At.rowOf (enc := iEnc) ii_len h hk ho
def fillF (v0 : Int) (f i : Nat) : Int := if i < f then v0 else 0
section
variable {C : Ctx} {e : Env} {H : List Blk} {d : Option Tmp} {ty : TypeId} {pos : String} {af : Array Edge} {g : Option (Nat × Bool)}
end
set_option maxRecDepth 100000
set_option maxHeartbeats 1000000
def never : Int := -1099511627776
def mxF (g : Nat → Int) (a : Nat) : Nat → Int
 | 0 => never
 | n + 1 => max (mxF g a n) (g (a + n))
def mvA (hi : Int) (t : Nat) : Nat := (max 0 ((t : Int) - hi)).toNat
def mvN (F : Nat) (lo hi : Int) (t : Nat) : Nat := (min (F : Int) ((t : Int) - lo) - max 0 ((t : Int) - hi) + 1).toNat
def mvG (wo : Int) (best : Nat → Int) (t : Nat) (v : Nat) : Int := best v + wo * ((v : Int) - (t : Int))
def mv (F : Nat) (lo hi wo : Int) (best : Nat → Int) (t : Nat) : Int := mxF (mvG wo best t) (mvA hi t) (mvN F lo hi t)
def nxF (F : Nat) (lo hi wo : Int) (best : Nat → Int) (t c j : Nat) : Int := if j < t then mv F lo hi wo best j else if j = t then mxF (mvG wo best t) (mvA hi t) c else never
theorem WS_sub {C : Ctx} {F : Fence} {n : Nat} {ds : List Deferred} {all : Array Oper} {Q : Exit → Env → List Blk → Prop} {rest : List Oper} {e : Env} {H H' : List Blk} (hs : HSub H H') (k : WS C F n ds all Q rest e H') : WS C F n ds all Q rest e H :=
 fun w hw a ha => k w ⟨hw.1, hs _ _ hw.2, hw.3⟩ a ha
def dipF (d : Sn) (best : Nat → Int) (v : Nat) : Int := if inB d.lo d.hi [(v : Int)] then best v else never
def Lg.best0 (l : Lg) (v : Nat) : Int := if l.start.lo ≤ (v : Int) ∧ (v : Int) ≤ l.start.hi then 0 else never
def Lg.bstep (l : Lg) (F : Nat) (sign : Int) (k : Nat) (best : Nat → Int) : Nat → Int :=
 if (l.e k).kind = 1 then mv F (l.e k).size.lo (l.e k).size.hi 0 (mv F (-l.drip k) 0 sign best)
 else if (l.e k).kind = 2 then mv F (-(l.e k).size.hi) (-(l.e k).size.lo) 0 (mv F (-l.drip k) 0 sign best)
 else dipF (l.tk.dip (l.e k).size) (mv F (-l.drip k) 0 sign best)
def Lg.bestK (l : Lg) (F : Nat) (sign : Int) : Nat → Nat → Int
 | 0 => l.best0
 | k + 1 => l.bstep F sign k (l.bestK F sign k)
def Lg.lostI (l : Lg) (sign : Int) : Int := maxN (l.bestK l.tk.full.toNat sign l.es.length) (l.tk.full.toNat + 1)
def stF (lo : Int) (c v : Nat) : Int := if lo ≤ (v : Int) ∧ (v : Int) < lo + (c : Int) then 0 else never
def dpF (d : Sn) (best : Nat → Int) (j v : Nat) : Int := if v < j then dipF d best v else best v
def Lg.leakedV (l : Lg) : Value := if l.aerr = 0 then .tuple #[.agg (Sn.cells ⟨-l.lostI (-1), l.lostI 1⟩).toArray, .int .i64 0] else .tuple #[.agg Sn.z.cells.toArray, .int .i64 l.aerr]
def Sn.no : Sn := ⟨1, 0⟩
def noF (c j : Nat) : Sn := if j < c then Sn.no else Sn.z
def Sn.wth (s way : Sn) : Sn := if s.hi < s.lo then way else ⟨min s.lo way.lo, max s.hi way.hi⟩
def cw (cb : Bool) (x : Int) : Int := if cb = true then x else 0
def psN (S : Nat → Sn) (lo hi : Int) (v : Nat) : Nat := if (S v).hi < (S v).lo then 0 else (hi - lo + 1).toNat
def psI (S : Nat → Sn) (F : Nat) (cb : Bool) (lo : Int) (v c : Nat) (out : Nat → Sn) (t : Nat) : Sn :=
 if lo ≤ (t : Int) - (v : Int) ∧ (t : Int) - (v : Int) < lo + (c : Int) ∧ t ≤ F then (out t).wth ⟨(S v).lo - cw cb ((t : Int) - (v : Int)), (S v).hi - cw cb ((t : Int) - (v : Int))⟩ else out t
def psO (S : Nat → Sn) (F : Nat) (cb : Bool) (lo hi : Int) : Nat → Nat → Sn
 | 0 => fun _ => Sn.no
 | v + 1 => psI S F cb lo v (psN S lo hi v) (psO S F cb lo hi v)
theorem never_eq : never = -1099511627776 := rfl
def Rep (M : Int) (s : Sn) (p m : Int) : Prop := (s = Sn.no ∧ p ≤ never + M ∧ m ≤ never + M) ∨ (0 ≤ s.lo ∧ s.lo ≤ s.hi ∧ s.hi ≤ M ∧ p = s.hi ∧ m = -s.lo)
theorem Rep.wth {M : Int} {a b : Sn} {p m q r : Int} (hM : M ≤ 1000000) (h : Rep M a p m) (h0 : 0 ≤ b.lo) (h1 : b.lo ≤ b.hi) (h2 : b.hi ≤ M) (hq : q = b.hi) (hr : r = -b.lo) : Rep M (a.wth b) (max p q) (max m r) := by
 have hn := never_eq
 subst hq hr
 refine .inr ?_
 unfold Sn.wth
 obtain ⟨rfl, hp, hm⟩ | ⟨g0, g1, g2, rfl, rfl⟩ := h
 ·rw [if_pos dc]; omega
 ·rw [if_neg om0]; refine ⟨?_, ?_, ?_, ?_, ?_⟩ <;> simp only <;> omega
theorem Rep.skip {M : Int} {a : Sn} {p m q r : Int} (hM : M ≤ 1000000) (h : Rep M a p m) (hq : q ≤ never + M) (hr : r ≤ never + M) : Rep M a (max p q) (max m r) := by
 have hn := never_eq
 obtain ⟨rfl, hp, hm⟩ | ⟨g0, g1, g2, rfl, rfl⟩ := h
 ·exact .inl ⟨rfl, by omega, by omega⟩
 ·exact .inr ⟨g0, g1, g2, by omega, by omega⟩
theorem Rep.mono {M N : Int} {a : Sn} {p m : Int} (h : Rep M a p m) (hMN : M ≤ N) : Rep N a p m := by
 obtain ⟨rfl, hp, hm⟩ | ⟨g0, g1, g2, g3, g4⟩ := h
 ·exact .inl ⟨rfl, by omega, by omega⟩
 ·exact .inr ⟨g0, g1, by omega, g3, g4⟩
theorem Rep.bd {M : Int} {a : Sn} {p m : Int} (h : Rep M a p m) (hM : 0 ≤ M ∧ M ≤ 1000000) : 0 ≤ a.lo ∧ a.lo ≤ 1000000 ∧ 0 ≤ a.hi ∧ a.hi ≤ 1000000 := by
 obtain ⟨rfl, hp, hm⟩ | ⟨g0, g1, g2, g3, g4⟩ := h
 ·decide
 ·omega
def wmx (g : Nat → Int) (a n : Nat) : Nat → Int
 | 0 => never
 | V + 1 => if a ≤ V ∧ V < a + n then max (wmx g a n V) (g V) else wmx g a n V
def stS (lo : Int) (c t : Nat) : Sn := if lo ≤ (t : Int) ∧ (t : Int) < lo + (c : Int) then Sn.z else Sn.no
def Lg.sum0 (l : Lg) (t : Nat) : Sn := if l.start.lo ≤ (t : Int) ∧ (t : Int) ≤ l.start.hi then Sn.z else Sn.no
def Lg.sum1 (l : Lg) (F k : Nat) (S : Nat → Sn) : Nat → Sn := if 0 < k then psO S F true (-(min (F : Int) (l.drip k))) 0 (F + 1) else S
def dpS (d : Sn) (S : Nat → Sn) (j t : Nat) : Sn := if t < j ∧ inB d.lo d.hi [(t : Int)] = false then Sn.no else S t
def Lg.sum2 (l : Lg) (F k : Nat) (S : Nat → Sn) : Nat → Sn :=
 if (l.e k).kind = 1 then psO S F false (l.e k).size.lo (l.e k).size.hi (F + 1)
 else if (l.e k).kind = 2 then psO S F false (-(l.e k).size.hi) (-(l.e k).size.lo) (F + 1)
 else dpS (l.tk.dip (l.e k).size) S (F + 1)
def Lg.sumK (l : Lg) (F : Nat) : Nat → Nat → Sn
 | 0 => l.sum0
 | k + 1 => l.sum2 F k (l.sum1 F k (l.sumK F k))
def outS (S : Nat → Sn) : Nat → Sn
 | 0 => Sn.no
 | V + 1 => if (S V).hi < (S V).lo then outS S V else (outS S V).wth (S V)
set_option maxHeartbeats 800000
set_option maxHeartbeats 1000000
theorem bs60_1_0 {x0_0 : Int} {x0_1 : Int} {x0_2 : Int} {x0_3 : Int} : ∀ w, (Instr.buildSlice 60 1 #[(0, .agg #[.int .i64 x0_0, .int .i64 x0_1, .int .i64 x0_2, .int .i64 x0_3])]).run Tryz.prog w = .ok (.slice (some ⟨w.heap.size, 0, none⟩) 1 1) (w.alloc (CB [.int .i64 x0_0, .int .i64 x0_1, .int .i64 x0_2, .int .i64 x0_3] 90)) := fun w => by kernel_rfl
def kpB (D : List Int) (i : Nat) : Bool := !(D.contains ((i : Int) + 1))
def kpK (D : List Int) (i : Nat) : List Nat := (List.range i).filter (kpB D)
def Lg.woK (l : Lg) (D : List Int) (i : Nat) : Lg := ⟨l.tk, l.start, (kpK D i).map l.e⟩
def Lg.wo (l : Lg) (D : List Int) : Lg := l.woK D l.es.length
def Lg.ent (l : Lg) (i : Nat) : Ent := ((i : Int) + 1, .agg (l.e i).cells.toArray, i)
theorem kpK_succ (D : List Int) (i : Nat) : kpK D (i + 1) = if kpB D i then kpK D i ++ [i] else kpK D i := by
 unfold kpK
 rw [List.range_succ, List.filter_append]
 by_cases h : kpB D i = true
 ·rw [if_pos h]; simp [h]
 ·rw [if_neg h]; simp [h]
theorem ent_key (l : Lg) (i : Nat) (k : Int) : hasK k (l.ent i) = decide ((i : Int) + 1 = k) := by
 unfold hasK Lg.ent
 simp only []
 by_cases h : (i : Int) + 1 = k <;> simp [h]
theorem find_ent (l : Lg) (p : Nat → Bool) (i : Nat) : ∀ m, (((List.range m).filter p).map l.ent).find? (hasK ((i : Int) + 1)) = if i < m ∧ p i = true then some (l.ent i) else none
 | 0 => by simp
 | m + 1 => by
  rw [List.range_succ, List.filter_append, List.map_append, List.find?_append, find_ent l p i m]
  by_cases h : i < m ∧ p i = true
  ·rw [if_pos h, if_pos ⟨by omega, h.2⟩]; rfl
  ·rw [if_neg h, Option.none_or]
   by_cases hp : p m = true
   ·simp only [List.filter_cons, hp, if_true, List.filter_nil, List.map_cons, List.map_nil, List.find?_cons, ent_key]
    by_cases he : m = i
    ·subst he
     simp [hp]
    ·rw [if_neg (fun h2 => h ⟨by omega, h2.2⟩)]
     have : ¬ ((m : Int) + 1 = (i : Int) + 1) := by omega
     simp [this]
   ·have hz : (List.filter p [m]).map l.ent = [] := by simp [hp]
    rw [hz, if_neg (fun h2 => by
     obtain ⟨h3, h4⟩ := h2
     by_cases he : m = i
     ·subst he; exact hp h4
     ·exact h ⟨by omega, h4⟩)]
    rfl
theorem erase_ent (l : Lg) (p : Nat → Bool) (t : Int) : ∀ m, (((List.range m).filter p).map l.ent).eraseP (hasK t) = ((List.range m).filter fun i => p i && !decide ((i : Int) + 1 = t)).map l.ent
 | 0 => by simp
 | m + 1 => by
  have ih := erase_ent l p t m
  rw [List.range_succ, List.filter_append, List.filter_append, List.map_append, List.map_append]
  by_cases hany : ∃ x ∈ ((List.range m).filter p).map l.ent, hasK t x = true
  ·obtain ⟨x, hx, hk⟩ := hany
   rw [List.eraseP_append_left hk _ hx, ih]
   congr 1
   obtain ⟨i, hi, rfl⟩ := List.mem_map.1 hx
   rw [ent_key, decide_eq_true_eq] at hk
   have him : i < m := by simpa using (List.mem_filter.1 hi).1
   have hne : ¬ ((m : Int) + 1 = t) := by omega
   by_cases hp : p m = true <;> simp [hp, hne]
  ·have hall : ∀ b ∈ ((List.range m).filter p).map l.ent, ¬ hasK t b = true := fun b hb hk => hany ⟨b, hb, hk⟩
   rw [List.eraseP_append_right _ (by simpa using hall)]
   rw [List.eraseP_of_forall_not (by simpa using hall)] at ih
   rw [← ih]
   congr 1
   by_cases hp : p m = true
   ·simp only [List.filter_cons, hp, if_true, List.filter_nil, List.map_cons, List.map_nil, Bool.true_and]
    by_cases ht : (m : Int) + 1 = t
    ·simp [ht, ent_key]
    ·simp [ht, ent_key]
   ·simp [hp]
theorem kpB_snoc (D : List Int) (d : Int) (i : Nat) : kpB (D ++ [d]) i = (kpB D i && !decide ((i : Int) + 1 = d)) := by
 unfold kpB
 rw [Bool.eq_iff_iff]
 simp
theorem take_snoc {D : List Int} {j : Nat} (h : j < D.length) : D.take (j + 1) = D.take j ++ [D.getD j 0] := by
 rw [List.take_succ_eq_append_getElem h]
 simp [List.getD_eq_getElem?_getD, h]
theorem erase_kp (l : Lg) (D : List Int) {j : Nat} (h : j < D.length) (m : Nat) : ((kpK (D.take j) m).map l.ent).eraseP (hasK (D.getD j 0)) = (kpK (D.take (j + 1)) m).map l.ent := by
 unfold kpK
 rw [erase_ent, take_snoc h]
 congr 1
 exact List.filter_congr fun i _ => (kpB_snoc _ _ _).symm
theorem Lg.woK_len (l : Lg) (D : List Int) (i : Nat) : (l.woK D i).es.length = (kpK D i).length := List.length_map _
theorem Lg.woK_e (l : Lg) (D : List Int) (i : Nat) : rowOf En.cells (l.woK D (i + 1)).e (l.woK D (i + 1)).es.length = if kpB D i then rowOf En.cells (l.woK D i).e (l.woK D i).es.length ++ (l.e i).cells else rowOf En.cells (l.woK D i).e (l.woK D i).es.length := by
 rw [l.woK_len, l.woK_len]
 by_cases h : kpB D i = true
 ·rw [if_pos h, kpK_succ, if_pos h, List.length_append, List.length_singleton, rowOf_succ]
  have he : ∀ j, j < (kpK D i).length → (l.woK D (i + 1)).e j = (l.woK D i).e j := fun j hj => by
   unfold Lg.woK Lg.e
   simp only
   rw [kpK_succ, if_pos h, List.map_append]
   simp [List.getD_eq_getElem?_getD, List.getElem?_append_left, hj]
  rw [rowOf_congr _ he]
  congr 1
  unfold Lg.woK Lg.e
  simp only
  rw [kpK_succ, if_pos h, List.map_append]
  simp [List.getD_eq_getElem?_getD]
 ·rw [if_neg h]
  unfold Lg.woK Lg.e
  simp only
  rw [kpK_succ, if_neg h]
theorem kpK_le (D : List Int) (i : Nat) : (kpK D i).length ≤ i := by
 have := List.length_filter_le (kpB D) (List.range i)
 rw [List.length_range] at this
 exact this
def WoV (l : Lg) (D : List Int) (g : Nat) (a : Option Addr) (cap : Nat) (v : Value) (Hn : List Blk) : Prop :=
 ∃ cb ae cape H2, v = .pointer (some ⟨cb, 0, none⟩) ∧ Hn = (cb, CB (bookCells g (l.wo D) a cap ae cape) 141) :: H2 ∧ Row 90 4 ae (l.wo D).es.length cape (rowOf En.cells (l.wo D).e (l.wo D).es.length) H2
theorem without_any (bk g : Nat) (l : Lg) (a : Option Addr) (cap : Nat) (ae : Option Addr) (cape : Nat) (ta : Option Addr) (tn tcap : Nat) (D : List Int) (w : World) (hok : l.Ok) (h1 : At w bk 0 (bookCells g l a cap ae cape)) (he : Ens w ae l.es.length cape l.es) (hD : Ints w ta tn tcap D) (htn : tn ≤ 1000000) :
  Ct Tryz.prog 114 #[.pointer (some ⟨bk, 0, none⟩), .slice ta tn tcap] w (WoV l D g a cap) := by
 have hn12 := hok.n12
 have hlenD := hD.len
 have hF := wide_wide
 refine Ct_start (args := [_, _]) Tryz.func114 rf Tryz.ntmps114 rf ?_
 refine zR fun ds => ?_
 refine za (.pointer _) hF ?_
 refine zP fun ds => ?_
 refine WS_newM hF rf y_makeMap (fun mb => ?_)
 refine za (.map _) hF ?_
 refine zO ?_
 refine zR fun ds => ?_
 refine zm (.pointer _) hF ?_
 refine zD hF znk ?_
 refine zD hF (y_fieldAddr rf fa141_1) ?_
 refine zD hF (y_fieldAddr rf fa62_2) ?_
 refine zD hF (y_load1 rf Tryz.isAgg60 zo) ?_
 refine zD hF (y_len rf Tryz.runUnderlying60) ?_
 refine zm (.int .i64 _) hF ?_
 refine zN ?_
 refine W_block ?_
 refine W_loop (γ := Nat) (fun k => k ≤ l.es.length) (fun k => [(0, .pointer (some ⟨bk, 0, none⟩)), (1, .slice ta tn tcap), (5, .map (some mb)), (19, .slice ae l.es.length cape), (20, .int .i64 (l.es.length : Int)), (21, .int .i64 (k : Int))]) (fun k => [(mb, MO ((kpK [] k).map l.ent) k)]) (fun k => l.es.length - k) (0) (Nat.zero_le _) s10 (List.Sublist.refl _) ?_
 intro k e hk
 refine zR fun ds => ?_
 refine zD hF (y_lss rf rf) ?_
 refine zO ?_
 refine W_cond rf (fun c3 => ?_) (fun c3 => ?_)
 ·
  try simp only [qz1, qz2, qz3, qz4, qz5, qz6, qz7, qz8] at c3
  obtain ⟨b, o, rfl, hc⟩ := he.cell k om0
  change At w b _ (l.e k).cells at hc
  have hmk : (kpK [] (k + 1)).map l.ent = (kpK [] k).map l.ent ++ [((k : Int) + 1, .agg (l.e k).cells.toArray, k)] := by rw [kpK_succ, if_pos (show kpB [] k = true from rfl), List.map_append]; rfl
  have hfind : ((kpK [] k).map l.ent).find? (hasK ((k : Int) + 1)) = none := by
   have := find_ent l (kpB []) k k
   rw [if_neg om0] at this
   exact this
  refine zU ?_
  refine W_seq ?_
  refine W_block ?_
  refine zR fun ds => ?_
  refine zm (.int .i64 _) hF ?_
  refine zD hF (y_index (k := k) rf rf r10 d10 Tryz.runUnderlying60 Tryz.sizeOf90) ?_
  refine zD hF (y_loadN rf Tryz.isAgg90 Tryz.sizeOf90 (zq [.int .i64 _, .int .i64 _, .int .i64 _, .int .i64 _]) rf) ?_
  refine WS_new hF rf (y_alloc Tryz.zeroValue90 rf) (fun b1 => ?_)
  refine za (.int .i64 _) hF ?_
  refine WS_store hF (i := 0) rf rf Tryz.sizeOf90 rf rf rf d20 ?_
  refine zQ fun ds => ?_
  refine zm (.map _) hF ?_
  refine zm (.int .i64 _) hF ?_
  refine zD hF (y_add rf rf ui) ?_
  refine zD hF (y_loadN rf Tryz.isAgg90 Tryz.sizeOf90 (Mem.own (us := [.int .i64 _, .int .i64 _, .int .i64 _, .int .i64 _]) 0 rf rf) rf) ?_
  refine WS_mapUpd hF (i := 1) rf rf rf Tryz.underlying215 Tryz.underlying3 rf hfind ?_
  refine WS_nil ?_
  refine InB_normal ?_
  refine zT fun ds => ?_
  refine zD hF (y_add rf rf ui) ?_
  refine zm (.int .i64 _) hF ?_
  refine WS_nil ?_
  exact Loop_next (k + 1) om0 s10 (by rw [hmk]; exact s20) om0
 ·
  try simp only [qz1, qz2, qz3, qz4, qz5, qz6, qz7, qz8] at c3
  refine W_exit ?_
  refine Then_exit ?_
  refine Loop_exit ?_
  refine InB_same ?_
  refine Then_normal ?_
  refine W_seq ?_
  refine zR fun ds => ?_
  refine zm (.slice _ _ _) hF ?_
  refine zD hF (y_len rf Tryz.runUnderlying22) ?_
  refine zm (.int .i64 _) hF ?_
  refine zN ?_
  refine W_block ?_
  refine W_loop (γ := Nat) (fun j => j ≤ tn) (fun j => [(0, .pointer (some ⟨bk, 0, none⟩)), (5, .map (some mb)), (31, .slice ta tn tcap), (32, .int .i64 (tn : Int)), (33, .int .i64 (j : Int))]) (fun j => [(mb, MO ((kpK (D.take j) l.es.length).map l.ent) l.es.length)]) (fun j => tn - j) (0) (Nat.zero_le _) s10 ((by obtain rfl : k = l.es.length := om0; exact s20)) ?_
  intro j e hj
  refine zR fun ds => ?_
  refine zD hF (y_lss rf rf) ?_
  refine zO ?_
  refine W_cond rf (fun c8 => ?_) (fun c8 => ?_)
  ·
   try simp only [qz1, qz2, qz3, qz4, qz5, qz6, qz7, qz8] at c8
   obtain ⟨bt, ot, rfl, hct⟩ := hD.cell j om0
   refine zU ?_
   refine W_seq ?_
   refine W_block ?_
   refine zR fun ds => ?_
   refine zD hF (y_index (k := j) rf rf r10 d10 Tryz.runUnderlying22 Tryz.sizeOf3) ?_
   refine zD hF (y_load1 rf Tryz.isAgg3 zo) ?_
   refine za (.int .i64 _) hF ?_
   refine zQ fun ds => ?_
   refine zm (.map _) hF ?_
   refine zm (.int .i64 _) hF ?_
   refine WS_delete hF (i := 0) rf rf Tryz.underlying215 Tryz.underlying3 rf ?_
   refine WS_nil ?_
   refine InB_normal ?_
   refine zT fun ds => ?_
   refine zD hF (y_add rf rf ui) ?_
   refine zm (.int .i64 _) hF ?_
   refine WS_nil ?_
   exact Loop_next (j + 1) om0 s10 (by rw [← erase_kp l D (j := j) om0]; exact s20) om0
  ·
   try simp only [qz1, qz2, qz3, qz4, qz5, qz6, qz7, qz8] at c8
   refine W_exit ?_
   refine Then_exit ?_
   refine Loop_exit ?_
   refine InB_same ?_
   refine zS fun ds => ?_
   refine zm (.pointer _) hF ?_
   refine zD hF znk ?_
   refine zD hF (y_loadN rf Tryz.isAgg141 Tryz.sizeOf141 (zq [.pointer _, .slice _ _ _, .int .i64 _, .int .i64 _, .int .i64 _, .int .i64 _, .slice _ _ _, _, _, _, _, _, _, _, _, _, _, _, _]) rf) ?_
   refine WS_new hF rf (y_alloc Tryz.zeroValue141 rf) (fun cb => ?_)
   refine WS_store hF (i := 0) rf rf Tryz.sizeOf141 rf rf rf d20 ?_
   refine zP fun ds => ?_
   refine zD hF (y_fieldAddr rf fa141_1) ?_
   refine zD hF (y_fieldAddr rf fa62_2) ?_
   refine WS_store hF (i := 0) rf rf Tryz.sizeOf60 rf rf rf d20 ?_
   refine zO ?_
   refine zR fun ds => ?_
   refine zm (.pointer _) hF ?_
   refine zD hF znk ?_
   refine zD hF (y_fieldAddr rf fa141_1) ?_
   refine zD hF (y_fieldAddr rf fa62_2) ?_
   refine zD hF (y_load1 rf Tryz.isAgg60 zo) ?_
   refine zD hF (y_len rf Tryz.runUnderlying60) ?_
   refine zm (.int .i64 _) hF ?_
   refine zN ?_
   refine W_block ?_
   refine W_loop (γ := Nat × Option Addr × Nat × List Blk) (fun p => p.1 ≤ l.es.length ∧ Row 90 4 p.2.1 (l.woK D p.1).es.length p.2.2.1 (rowOf En.cells (l.woK D p.1).e (l.woK D p.1).es.length) p.2.2.2) (fun p => [(5, .map (some mb)), (10, .pointer (some ⟨cb, 0, none⟩)), (50, .int .i64 (l.es.length : Int)), (51, .int .i64 (p.1 : Int))]) (fun p => (cb, CB (bookCells g (l.woK D p.1) a cap p.2.1 p.2.2.1) 141) :: (mb, MO ((kpK D l.es.length).map l.ent) l.es.length) :: p.2.2.2) (fun p => l.es.length - p.1) ((0, none, 0, [])) ⟨Nat.zero_le _, Row.nil 90 4⟩ s10 ((by obtain rfl : j = tn := om0; rw [List.take_of_length_le (show D.length ≤ j by omega)]; exact s20)) ?_
   rintro ⟨i, ra, rcap, Hf⟩ e ⟨hi, hrow⟩
   refine zR fun ds => ?_
   refine zD hF (y_lss rf rf) ?_
   refine zO ?_
   refine W_cond rf (fun c15 => ?_) (fun c15 => ?_)
   ·
    try simp only [qz1, qz2, qz3, qz4, qz5, qz6, qz7, qz8] at c15
    have hin : i < l.es.length := by omega
    have hkl : (l.woK D i).es.length ≤ i := by rw [l.woK_len]; exact kpK_le D i
    have hlk : lookV (.agg #[.int .i64 0, .int .i64 0, .int .i64 0, .int .i64 0]) ((((kpK D l.es.length).map l.ent).find? (hasK ((i : Int) + 1))).map (·.2.1)) = .tuple #[.agg (if kpB D i then l.e i else En.z).cells.toArray, .bool (kpB D i)] := by
     rw [show ((kpK D l.es.length).map l.ent).find? (hasK ((i : Int) + 1)) = _ from find_ent l (kpB D) i l.es.length]
     by_cases h : kpB D i = true
     ·rw [if_pos ⟨hin, h⟩, if_pos h, h]; rfl
     ·rw [if_neg (fun h2 => h h2.2), if_neg h, Bool.eq_false_iff.2 h]; rfl
    refine zU ?_
    refine W_seq ?_
    refine W_block ?_
    refine zR fun ds => ?_
    refine zm (.int .i64 _) hF ?_
    refine za (.int .i64 _) hF ?_
    refine zP fun ds => ?_
    refine zm (.map _) hF ?_
    refine zm (.int .i64 _) hF ?_
    refine zD hF (y_add rf rf ui) ?_
    refine zD hF (y_lookupE (i := 1) rf rf Tryz.underlying215 Tryz.underlying3 Tryz.zeroValue90 rf hlk) ?_
    refine zm (.tuple _) hF ?_
    refine zD hF (y_extract (c := .agg _) rf rf) ?_
    refine zD hF (y_extract (c := .bool _) rf rf) ?_
    refine WS_new hF rf (y_alloc Tryz.zeroValue90 rf) (fun bz => ?_)
    refine WS_store hF (i := 0) rf rf Tryz.sizeOf90 rf rf rf d20 ?_
    refine za (.bool _) hF ?_
    refine zP fun ds => ?_
    refine zm (.bool _) hF ?_
    refine zN ?_
    refine W_cond rf (fun c18 => ?_) (fun c18 => ?_)
    ·
     try simp only [qz1, qz2, qz3, qz4, qz5, qz6, qz7, qz8] at c18
     refine W_region_lit (fun ds => ?_)
     refine zD hF (y_fieldAddr rf fa141_1) ?_
     refine zD hF (y_fieldAddr rf fa62_2) ?_
     refine zD hF (y_load1 rf Tryz.isAgg60 (Mem.own1 1 rf rf)) ?_
     refine zD hF (y_loadN rf Tryz.isAgg90 Tryz.sizeOf90 (Mem.own (us := [.int .i64 _, .int .i64 _, .int .i64 _, .int .i64 _]) 0 rf rf) rf) ?_
     refine WS_newS hF rf (y_buildSliceL bs60_1_0 rf) (fun b2 => ?_)
     refine WS_appendE hF (n' := (l.woK D i).es.length) (H1 := [_, _, _, _]) rf rf rf Tryz.underlying60 infEntry rf rf hrow (.inr ⟨_, _, rfl, Mem.own (us := [.int _ _, .int _ _, .int _ _, .int _ _]) 0 rf rf⟩) rf rf om0 om0 ?_
     intro ra2 rcap2 Hf2 hrow2
     have hle : (l.woK D (i + 1)).es.length = (l.woK D i).es.length + 1 := by rw [l.woK_len, l.woK_len, kpK_succ, if_pos c18, List.length_append]; rfl
     have hrow3 : Row 90 4 ra2 (l.woK D (i + 1)).es.length rcap2 (rowOf En.cells (l.woK D (i + 1)).e (l.woK D (i + 1)).es.length) Hf2 := by
      rw [l.woK_e, if_pos c18, hle]
      have he2 : (if kpB D i then l.e i else En.z) = l.e i := if_pos c18
      rw [← he2]
      exact hrow2
     refine zD hF (y_fieldAddr rf fa141_1) ?_
     refine zD hF (y_fieldAddr rf fa62_2) ?_
     refine WS_store hF (i := 2) rf rf Tryz.sizeOf60 rf rf rf d20 ?_
     refine WS_nil ?_
     refine InB_normal ?_
     refine zT fun ds => ?_
     refine zD hF (y_add rf rf ui) ?_
     refine zm (.int .i64 _) hF ?_
     refine WS_nil ?_
     exact Loop_next (i + 1, ra2, rcap2, Hf2) ⟨by omega, hrow3⟩ s10 (by unfold bookCells; rw [hle]; exact s20) (by simp only; omega)
    ·
     try simp only [qz1, qz2, qz3, qz4, qz5, qz6, qz7, qz8] at c18
     have hkk : kpK D (i + 1) = kpK D i := by rw [kpK_succ, if_neg (by rw [c18]; exact Bool.false_ne_true)]
     have hww : l.woK D (i + 1) = l.woK D i := by unfold Lg.woK; rw [hkk]
     refine W_skip ?_
     refine InB_normal ?_
     refine zT fun ds => ?_
     refine zD hF (y_add rf rf ui) ?_
     refine zm (.int .i64 _) hF ?_
     refine WS_nil ?_
     exact Loop_next (i + 1, ra, rcap, Hf) ⟨by omega, by rw [hww]; exact hrow⟩ s10 (by rw [hww]; exact s20) (by simp only; omega)
   ·
    try simp only [qz1, qz2, qz3, qz4, qz5, qz6, qz7, qz8] at c15
    refine W_exit ?_
    refine Then_exit ?_
    refine Loop_exit ?_
    refine InB_same ?_
    refine zS fun ds => ?_
    refine za (.pointer _) hF ?_
    refine zN ?_
    refine W_ret ?_
    refine Fin_ret [.pointer _] ((cb, _) :: Hf) Tryz.results114 ⟨by rfl, trivial⟩ ((SubP.hsub (SubP.pick 0 rf (by exact SubP.drop (SubP.refl))))) ?_
    obtain rfl : i = l.es.length := by have : i ≤ l.es.length := hi; omega
    exact ⟨cb, ra, rcap, Hf, rfl, rfl, hrow⟩
theorem kp_sorted {l : Lg} (h : l.Ok) (D : List Int) : ∀ i, i ≤ l.es.length → (∀ j, j < (l.woK D i).es.length → ∃ m, m < i ∧ (l.woK D i).e j = l.e m) ∧ ∀ j, j + 1 < (l.woK D i).es.length → ((l.woK D i).e j).day ≤ ((l.woK D i).e (j + 1)).day
 | 0, _ => ⟨fun j hj => by simp [Lg.woK, kpK] at hj, fun j hj => by simp [Lg.woK, kpK] at hj⟩
 | i + 1, hi => by
  obtain ⟨h1, h2⟩ := kp_sorted h D i om0
  have hdm : ∀ a b, a ≤ b → b < l.es.length → (l.e a).day ≤ (l.e b).day := by
   intro a b hab
   induction b with
   | zero => intro _; obtain rfl : a = 0 := om0; exact Int.le_refl _
   | succ b ih =>
    intro hb
    by_cases hx : a = b + 1
    ·subst hx; exact Int.le_refl _
    ·exact Int.le_trans (ih om0 om0) (h.mono b hb)
  by_cases hk : kpB D i = true
  ·have hlen : (l.woK D (i + 1)).es.length = (l.woK D i).es.length + 1 := by rw [l.woK_len, l.woK_len, kpK_succ, if_pos hk, List.length_append]; rfl
   have he : ∀ j, j < (l.woK D i).es.length → (l.woK D (i + 1)).e j = (l.woK D i).e j := fun j hj => by
    rw [l.woK_len] at hj
    unfold Lg.woK Lg.e
    simp only
    rw [kpK_succ, if_pos hk, List.map_append]
    simp [List.getD_eq_getElem?_getD, List.getElem?_append_left, hj]
   have hl : (l.woK D (i + 1)).e (l.woK D i).es.length = l.e i := by
    rw [l.woK_len]
    unfold Lg.woK Lg.e
    simp only
    rw [kpK_succ, if_pos hk, List.map_append]
    simp [List.getD_eq_getElem?_getD]
   refine ⟨fun j hj => ?_, fun j hj => ?_⟩
   ·by_cases hjl : j < (l.woK D i).es.length
    ·obtain ⟨m, hm, hme⟩ := h1 j hjl
     exact ⟨m, by omega, (he j hjl).trans hme⟩
    ·obtain rfl : j = (l.woK D i).es.length := by omega
     exact ⟨i, by omega, hl⟩
   ·by_cases hjl : j + 1 < (l.woK D i).es.length
    ·rw [he j om0, he (j + 1) hjl]; exact h2 j hjl
    ·have hje : j + 1 = (l.woK D i).es.length := by omega
     obtain ⟨m, hm, hme⟩ := h1 j om0
     rw [he j om0, hje, hl, hme]
     exact hdm m i om0 om0
  ·have hw : l.woK D (i + 1) = l.woK D i := by unfold Lg.woK; rw [kpK_succ, if_neg hk]
   rw [hw]
   exact ⟨fun j hj => by obtain ⟨m, hm, hme⟩ := h1 j hj; exact ⟨m, by omega, hme⟩, h2⟩
theorem Lg.Ok.wo {l : Lg} (h : l.Ok) (D : List Int) : (l.wo D).Ok := by
 obtain ⟨h1, h2⟩ := kp_sorted h D l.es.length (Nat.le_refl _)
 have hl := kpK_le D l.es.length
 have hn := h.n12
 refine ⟨h.tk, h.start, by show (l.woK D _).es.length ≤ 12; rw [l.woK_len]; omega, fun k hk => ?_, fun k hk => h2 k hk, fun k hk => ?_, fun k hk => ?_⟩
 ·obtain ⟨m, hm, he⟩ := h1 k hk
  show 0 ≤ ((l.woK D _).e k).day ∧ _ ≤ _
  rw [show (l.wo D).e k = l.e m from he, he]; exact h.day m hm
 ·obtain ⟨m, hm, he⟩ := h1 k hk
  rw [show (l.wo D).e k = l.e m from he]; exact h.kind m hm
 ·obtain ⟨m, hm, he⟩ := h1 k hk
  rw [show (l.wo D).e k = l.e m from he]; exact h.size m hm
theorem bs22_0  : ∀ w, (Instr.buildSlice 22 0 #[]).run Tryz.prog w = .ok (.slice (some ⟨w.heap.size, 0, none⟩) 0 0) (w.alloc (CB [] 3)) := fun w => by kernel_rfl
theorem clone_any (ta : Option Addr) (tn tcap : Nat) (D : List Int) (w : World) (hD : Ints w ta tn tcap D) (htn : tn ≤ 1000000) (hnil : ta = none ∧ tn = 0 ∨ ta ≠ none ∧ 0 < tn) :
  Ct Tryz.prog 72 #[.slice ta tn tcap] w fun v Hn => ∃ a' cap', v = .slice a' tn cap' ∧ Row 3 1 a' tn cap' (iv D) Hn ∧ (a' = none ∧ tn = 0 ∨ a' ≠ none ∧ 0 < tn) := by
 have hlen : (iv D).length = tn * 1 := by rw [Nat.mul_one]; exact (List.length_map _).trans hD.len
 have hF := wide_wide
 refine Ct_start (args := [_]) Tryz.func72 rf Tryz.ntmps72 rf ?_
 refine zR fun ds => ?_
 refine za (.slice _ _ _) hF ?_
 refine zO ?_
 refine zR fun ds => ?_
 refine zm (.slice _ _ _) hF ?_
 refine zD hF (y_eqlNil rf rf Tryz.runUnderlying22) ?_
 refine zN ?_
 refine W_cond rf (fun c1 => ?_) (fun c1 => ?_)
 ·
  try simp only [qz1, qz2, qz3, qz4, qz5, qz6, qz7, qz8] at c1
  have ht : ta = none ∧ tn = 0 := by
   rcases hnil with h | h
   ·exact h
   ·cases ta with
    | none => exact absurd rfl h.1
    | some _ => cases c1
  obtain ⟨rfl, rfl⟩ := ht
  obtain rfl : D = [] := List.length_eq_zero_iff.1 hD.len
  refine zR fun ds => ?_
  refine za (.slice _ _ _) hF ?_
  refine zN ?_
  refine W_ret ?_
  refine Then_ret ?_
  refine Fin_ret [.slice _ _ _] [] Tryz.results72 ⟨by rfl, trivial⟩ HSub.nil ?_
  exact ⟨none, 0, rfl, Row.nil 3 1, .inl ⟨rfl, rfl⟩⟩
 ·
  try simp only [qz1, qz2, qz3, qz4, qz5, qz6, qz7, qz8] at c1
  have ht : ta ≠ none ∧ 0 < tn := by
   rcases hnil with h | h
   ·rw [h.1] at c1; cases c1
   ·exact h
  refine W_skip ?_
  refine zS fun ds => ?_
  refine WS_newS hF rf (y_buildSliceL bs22_0 rf) (fun b1 => ?_)
  refine zm (.slice _ _ _) hF ?_
  refine WS_gen hF rf (y_append0 rf rf Tryz.underlying22 infInt rf hD.src hlen om0 om0) ?_
  rintro _ Hc hrow
  obtain ⟨a', cap', rfl, hle, ⟨hm, b, junk, rfl, rfl, hl2⟩ | ⟨h0, _⟩⟩ := hrow
  case inr => omega
  refine za (.slice _ _ _) hF ?_
  refine zN ?_
  refine W_ret ?_
  refine Fin_ret [.slice _ _ _] [(b, _)] Tryz.results72 ⟨by rfl, trivial⟩ (HSub.sub (by repeat (first | exact List.Sublist.refl _ | exact List.sublist_append_left _ _ | exact List.nil_sublist _ | apply List.Sublist.cons_cons | apply List.Sublist.cons | refine List.Sublist.trans ?_ (List.sublist_append_right _ _)))) ?_
  exact ⟨_, _, rfl, .inr ⟨b, junk, rfl, rfl, hlen, hl2, hle⟩, .inr ⟨by simp, hm⟩⟩
theorem Row.mem {C : Ctx} {H Hn : List Blk} {T : TypeId} {b o n cap k : Nat} {xs : List Int} (h : Row T 1 (some ⟨b, o, none⟩) n cap (iv xs) Hn) (hl : xs.length = n) (hs : Hn.Sublist H) (hk : k < n) : Mem C H b (o + k * 1) [.int .i64 (xs.getD k 0)] :=
 fun w hw => (Row.ints h hl hs w hw).at hk
def firstSome {β : Type} (f : Nat → Option β) (a : Nat) : Nat → Option β
 | 0 => none
 | n + 1 => match f a with
  | some r => some r
  | none => firstSome f (a + 1) n
def frD (D : List Int) : Nat := (D.getD (D.length - 1) 0).toNat
def Lg.stk (l : Lg) : Nat → List Int → Option (List Int)
 | 0, D => if (l.wo D).holdsB then some D else none
 | m + 1, D => firstSome (fun i => if (l.e i).kind = 3 then l.stk m (D ++ [(i : Int) + 1]) else none) (frD D) (l.es.length - frD D)
def Lg.stkF (l : Lg) (m : Nat) (D : List Int) (i : Nat) : Option (List Int) := if (l.e i).kind = 3 then l.stk m (D ++ [(i : Int) + 1]) else none
def StkV (base : Value → List Blk → List Blk) (r : Option (List Int)) (L : List Blk) (v : Value) (H' : List Blk) : Prop :=
 ∃ bb s L', v = .bool bb ∧ H' = base s L' ∧ (bb = true → r = none ∧ L' = L) ∧ (bb = false → ∃ R fa fn fcap Hf, r = some R ∧ s = .slice fa fn fcap ∧ Row 3 1 fa fn fcap (iv R) Hf ∧ R.length = fn ∧ Hf.Sublist L')
def Lg.wr (l : Lg) : Option (List Int) := firstSome (fun n => l.stk n []) 0 (l.es.length + 1)
def WrongV (l : Lg) (v : Value) (Hn : List Blk) : Prop :=
 (l.err ≠ 0 → v = .tuple #[.slice none 0 0, .int .i64 l.err] ∧ Hn = []) ∧
 (l.err = 0 → (∀ R, l.wr = some R → ∃ fa fn fcap, v = .tuple #[.slice fa fn fcap, .int .i64 0] ∧ Row 3 1 fa fn fcap (iv R) Hn ∧ R.length = fn) ∧ (l.wr = none → v = .tuple #[.slice none 0 0, .int .i64 6] ∧ Hn = []))
theorem valid_any (l : Lg) (a : Option Addr) (cap : Nat) (ae : Option Addr) (cape : Nat) (w : World) (hn : l.tk.n ≤ 1000000) (hx : Ints w a l.tk.n cap l.tk.pints) (he : Ens w ae l.es.length cape l.es) : Ct Tryz.prog 77 #[.agg #[.slice a l.tk.n cap, .int .i64 l.tk.leak, .int .i64 l.tk.foot, .int .i64 l.start.lo, .int .i64 l.start.hi, .slice ae l.es.length cape]] w fun v _ => v = .int .i64 l.err := by
 have hF := wide_wide
 refine Ct_start (args := [_]) Tryz.func77 rf Tryz.ntmps77 rf ?_
 refine zR fun ds => ?_
 refine WS_new hF rf (y_box rf) (fun b1 => ?_)
 refine za (.int .i64 _) hF ?_
 refine zP fun ds => ?_
 refine zD hF (y_loadN rf Tryz.isAgg62 Tryz.sizeOf62 (Mem.own (us := [.slice _ _ _, .int .i64 _, .int .i64 _, .int .i64 _, .int .i64 _, .slice _ _ _]) 0 rf rf) rf) ?_
 refine WS_gen hF rf (y_callL rf rf Tryz.call108 (fun w hw => opened_any l a cap ae cape w hn (hx.st w hw) (he.st w hw))) ?_
 rintro _ Hg ⟨p, rfl, hg1, hg2⟩
 refine zm (.tuple _) hF ?_
 refine zD hF (y_extract (c := .pointer _) rf rf) ?_
 refine zD hF (y_extract (c := .int .i64 _) rf rf) ?_
 refine za (.pointer _) hF ?_
 refine za (.int .i64 _) hF ?_
 refine zP fun ds => ?_
 refine zm (.int .i64 _) hF ?_
 refine za (.int .i64 _) hF ?_
 refine zN ?_
 refine W_ret ?_
 refine Fin_ret [.int .i64 _] [] Tryz.results77 ⟨by rfl, trivial⟩ HSub.nil ?_
 rfl
set_option maxHeartbeats 800000
def Lg.trs (l : Lg) : List Int := if l.aerr = 0 then (List.range (l.es.length + 1)).map l.tr else []
end Go.Proofs.YtjekjehgmljbgaaGreatDoor.T
namespace Go.Eng
open Go.RowKit
section
variable {C : Ctx} {F : Fence} {n : Nat} {ds : List Deferred} {all : Array Oper} {Q : Exit → Env → List Blk → Prop} {rest : List Oper} {e : Env} {H : List Blk} {d : Option Tmp} {ty : TypeId} {pos : String} {af : Array Edge} {g : Option (Nat × Bool)}
theorem WS_appendN (hF : Wide F) {x y : Operand} {T E : TypeId} {a a' : Option Addr} {n' m cap cap' sz by_ : Nat} {us news : List Value} {z : Value} {H1 Hn : List Blk} (hc : chk n all e ⟨d, .call ⟨.builtin .append, #[x, y], #[T, T]⟩, ty, pos, af, g⟩ = true)
  (hx : ev e x = .slice a n' cap) (hy : ev e y = .slice a' m cap') (hT : C.P.underlying T = some (.slice E)) (hinf : (C.P.info? E).map (fun i => (i.zero, i.size, i.bytes)) = some (some z, sz, by_))
  (hzs : z.cells.size = sz) (hH : H = H1 ++ Hn) (hrow : NewRow E sz n' us (.slice a n' cap) Hn) (hul : us.length = n' * sz) (hs : Src C H a' m news) (hl : news.length = m * sz) (hone : news.all Value.oneCell' = true) (hb : (n' + m) * by_ ≤ 140737488355328) (hm : n' + m ≤ 140737488355328) (h0 : 0 < m)
  (hk : ∀ a' cap' Hn', NewRow E sz (n' + m) (us ++ news) (.slice a' (n' + m) cap') Hn' → WS C F n ds all Q rest (updo e d (.slice a' (n' + m) cap')) (H1 ++ Hn')) :
  WS C F n ds all Q (⟨d, .call ⟨.builtin .append, #[x, y], #[T, T]⟩, ty, pos, af, g⟩ :: rest) e H := by
 by_cases hn : n' = 0
 ·subst hn
  have hu : us = [] := by simpa using hul
  subst hu
  obtain ⟨a1, cap1, he, hle, ⟨h, _⟩ | ⟨_, rfl, rfl⟩⟩ := hrow
  ·omega
  cases he
  rw [Nat.zero_add] at hb hm hk
  refine WS_gen hF hc (y_append0 hx hy hT hinf hzs hs hl hb hm) fun v Hv hv => ?_
  have hv2 := hv
  obtain ⟨a2, cap2, rfl, _⟩ := hv
  subst hH
  intro w hw act ha
  exact hk a2 cap2 Hv (by rw [List.nil_append]; exact hv2) w ⟨hw.1, hw.2.perm (by rw [List.append_nil]; exact List.perm_append_comm), hw.3⟩ act ha
 ·obtain ⟨a1, cap1, he, hr⟩ := hrow.row hul om0
  cases he
  refine WS_appendE hF hc hx hy hT hinf hzs hH hr hs hl hone hb hm fun a2 cap2 Hn' hr2 => hk a2 cap2 Hn' ?_
  obtain ⟨_, h, _⟩ | ⟨b, junk, rfl, rfl, h1, h2, h3⟩ := hr2
  ·omega
  ·exact ⟨_, _, rfl, h3, .inl ⟨by omega, b, junk, rfl, rfl, h2⟩⟩
end
end Go.Eng
namespace Go.Proofs.YtjekjehgmljbgaaGreatDoor.T
open Go.RowKit Go.Proofs Go.Eng
set_option maxRecDepth 100000
set_option maxHeartbeats 1000000
theorem bs60_0  : ∀ w, (Instr.buildSlice 60 0 #[]).run Tryz.prog w = .ok (.slice (some ⟨w.heap.size, 0, none⟩) 0 0) (w.alloc (CB [] 90)) := fun w => by kernel_rfl
theorem hsub_front {A B : List Blk} {x y : Blk} : HSub (A ++ (B ++ [x, y])) (x :: y :: (A ++ B)) := fun _ _ h => h.perm (by rw [← List.append_assoc]; exact List.perm_append_comm (l₁ := [x, y]))
theorem cloneE_any (l : Lg) (ae : Option Addr) (cape : Nat) (w : World) (hnes : l.es.length ≤ 1000000) (he : Ens w ae l.es.length cape l.es) :
  Ct Tryz.prog 143 #[.slice ae l.es.length cape] w (NewRow 90 4 l.es.length (rowOf En.cells l.e l.es.length)) := by
 have hlen : (rowOf En.cells l.e l.es.length).length = l.es.length * 4 := rowOf_len en_len _ _
 have hF := wide_wide
 refine Ct_start (args := [_]) Tryz.func143 rf Tryz.ntmps143 rf ?_
 refine zR fun ds => ?_
 refine za (.slice _ _ _) hF ?_
 refine zO ?_
 refine zR fun ds => ?_
 refine zm (.slice _ _ _) hF ?_
 refine zD hF (y_eqlNil rf rf Tryz.runUnderlying60) ?_
 refine zN ?_
 refine W_cond rf (fun c1 => ?_) (fun c1 => ?_)
 ·
  try simp only [qz1, qz2, qz3, qz4, qz5, qz6, qz7, qz8] at c1
  refine zR fun ds => ?_
  refine za (.slice _ _ _) hF ?_
  refine zN ?_
  refine W_ret ?_
  refine Then_ret ?_
  refine Fin_ret [.slice _ _ _] [] Tryz.results143 ⟨by rfl, trivial⟩ HSub.nil ?_
  have h0 : l.es.length = 0 := by
   rcases Nat.eq_zero_or_pos l.es.length with h | h
   ·exact h
   ·obtain ⟨b, o, rfl, _⟩ := he.cell 0 h
    cases c1
  rw [h0]
  exact ⟨none, 0, rfl, Nat.le_refl _, .inr ⟨rfl, rfl, rfl⟩⟩
 ·
  try simp only [qz1, qz2, qz3, qz4, qz5, qz6, qz7, qz8] at c1
  refine W_skip ?_
  refine zS fun ds => ?_
  refine WS_newS hF rf (y_buildSliceL bs60_0 rf) (fun b1 => ?_)
  refine zm (.slice _ _ _) hF ?_
  refine WS_gen hF rf (y_append0 rf rf Tryz.underlying60 infEntry rf (Rws.src en_len he) hlen om0 om0) ?_
  rintro _ Hc ⟨a', cap', rfl, hle, hd⟩
  refine za (.slice _ _ _) hF ?_
  refine zN ?_
  refine W_ret ?_
  refine Fin_ret [.slice _ _ _] Hc Tryz.results143 ⟨by rfl, trivial⟩ (HSub.sub (by repeat (first | exact List.Sublist.refl _ | exact List.sublist_append_left _ _ | exact List.nil_sublist _ | apply List.Sublist.cons_cons | apply List.Sublist.cons | refine List.Sublist.trans ?_ (List.sublist_append_right _ _)))) ?_
  exact ⟨a', cap', rfl, hle, hd⟩
theorem copied_any (l : Lg) (a : Option Addr) (cap : Nat) (ae : Option Addr) (cape : Nat) (w : World) (hnes : l.es.length ≤ 1000000) (h0 : 0 < l.tk.n) (hn : l.tk.n ≤ 1000000) (hx : Ints w a l.tk.n cap l.tk.pints) (he : Ens w ae l.es.length cape l.es) : Ct Tryz.prog 113 #[.agg #[.slice a l.tk.n cap, .int .i64 l.tk.leak, .int .i64 l.tk.foot, .int .i64 l.start.lo, .int .i64 l.start.hi, .slice ae l.es.length cape]] w (TwinL l) := by
 have hnn : a = none ∧ l.tk.n = 0 ∨ a ≠ none ∧ 0 < l.tk.n := .inr ⟨by obtain ⟨b, o, rfl, _⟩ := hx.cell 0 h0; simp, h0⟩
 have hF := wide_wide
 refine Ct_start (args := [_]) Tryz.func113 rf Tryz.ntmps113 rf ?_
 refine zR fun ds => ?_
 refine WS_new hF rf (y_box rf) (fun b1 => ?_)
 refine WS_new hF rf (y_alloc Tryz.zeroValue62 rf) (fun b2 => ?_)
 refine zO ?_
 apply W_drawMT 9 hF Tryzmixed [] [] [] rf dk0 dc HSub.refl
 intro ds
 refine P_det rf (Over_nil (y_fieldAddr rf fa62_0)) ?_
 refine P_det rf (Over_nil (y_fieldAddr rf fa57_0)) ?_
 refine P_det rf (Over_nil (y_load1 rf Tryz.isAgg22 (Mem.own1 1 rf rf))) ?_
 refine P_new rf rf (Over_nil (y_callL rf rf Tryz.call72 (fun w hw => clone_any a l.tk.n cap l.tk.pints w (hx.st w hw) hn hnn))) ?_
 refine P_det rf (Over_out rf (Over_nil (y_fieldAddr rf fa62_2))) ?_
 refine P_det rf (Over_out rf (Over_nil (y_load1 rf Tryz.isAgg60 (Mem.own1 1 rf rf)))) ?_
 refine P_new rf rf (Over_out rf (Over_nil (y_callL rf rf Tryz.call143 (fun w hw => cloneE_any l ae cape w hnes (he.st w hw))))) ?_
 refine P_det rf (Over_out rf (Over_out rf (Over_nil (y_fieldAddr rf fa62_0)))) ?_
 refine P_det rf (Over_out rf (Over_out rf (Over_nil (y_fieldAddr rf fa57_0)))) ?_
 refine PW_end rf ?_
 refine OverAll_cons (fun w9 l9 => ?_)
 refine OverAll_cons (fun w6 l6 => ?_)
 refine OverAll_nil ?_
 rintro ⟨⟨-, h9⟩, h6⟩
 obtain ⟨a1, cap1, rfl, hr1, _⟩ := h6
 obtain ⟨a2, cap2, rfl, hle2, hd2⟩ := h9
 refine WS_sub hsub_front ?_
 refine WS_store hF (i := 1) rf rf Tryz.sizeOf22 rf rf rf d20 ?_
 refine zD hF (y_fieldAddr rf fa62_2) ?_
 refine WS_store hF (i := 1) rf rf Tryz.sizeOf60 rf rf rf d20 ?_
 refine zP fun ds => ?_
 refine zD hF (y_loadN rf Tryz.isAgg62 Tryz.sizeOf62 (Mem.own (us := [.slice _ _ _, .int .i64 _, .int .i64 _, .int .i64 _, .int .i64 _, .slice _ _ _]) 1 rf rf) rf) ?_
 refine WS_store hF (i := 0) rf rf Tryz.sizeOf62 rf rf rf d20 ?_
 refine zN ?_
 refine W_ret ?_
 refine Fin_ret [_] (l6 ++ l9) Tryz.results113 ⟨lvN rf Tryz.isAgg62 Tryz.sizeOf62 (Mem.own (us := [.slice _ _ _, .int .i64 _, .int .i64 _, .int .i64 _, .int .i64 _, .slice _ _ _]) 0 rf rf) rf, trivial⟩ (HSub.sub (by repeat (first | exact List.Sublist.refl _ | exact List.sublist_append_left _ _ | exact List.nil_sublist _ | apply List.Sublist.cons_cons | apply List.Sublist.cons | refine List.Sublist.trans ?_ (List.sublist_append_right _ _)))) ?_
 exact ⟨a1, cap1, a2, cap2, _, _, rfl, Row.newRow hr1 h0, ⟨_, _, rfl, hle2, hd2⟩, rfl⟩
def Lg.put (l : Lg) (x : En) : Lg := ⟨l.tk, l.start, l.es ++ [x]⟩
theorem Lg.put_len (l : Lg) (x : En) : (l.put x).es.length = l.es.length + 1 := by unfold Lg.put; simp
theorem Lg.put_row (l : Lg) (x : En) : rowOf En.cells (l.put x).e (l.es.length + 1) = rowOf En.cells l.e l.es.length ++ x.cells := by
 rw [rowOf_succ]
 congr 1
 ·refine rowOf_congr _ fun k hk => ?_
  unfold Lg.e Lg.put
  simp only [List.getD_eq_getElem?_getD, List.getElem?_append_left hk]
 ·unfold Lg.e Lg.put
  simp
def Lg.addE (l : Lg) (x : En) : Int := if l.err = 0 then if l.es.length = 12 then 9 else if (l.put x).err = 0 then 0 else 32 else l.err
def zeroLg : Value := .agg #[.slice none 0 0, .int .i64 0, .int .i64 0, .int .i64 0, .int .i64 0, .slice none 0 0]
def AddV (l : Lg) (x : En) (v : Value) (Hn : List Blk) : Prop :=
 ∃ v0, v = .tuple #[v0, .int .i64 (l.addE x)] ∧ (l.addE x ≠ 0 → v0 = zeroLg ∧ Hn = []) ∧ (l.addE x = 0 → TwinL (l.put x) v0 Hn)
end Go.Proofs.YtjekjehgmljbgaaGreatDoor.T
