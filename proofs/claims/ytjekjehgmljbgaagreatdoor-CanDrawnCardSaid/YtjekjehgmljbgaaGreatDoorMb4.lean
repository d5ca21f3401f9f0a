/- Rows of zeros. No project text. -/
import Derived.Test.YtjekjehgmljbgaaGreatDoorMb3
import Derived.Laws.Bits64b
import Derived.Test.YtjekjehgmljbgaaGreatDoorMb2
import Derived.Test.YtjekjehgmljbgaaGreatDoorMb1
import Derived.Test.YtjekjehgmljbgaaGreatDoorChecked
set_option linter.unusedVariables false
set_option linter.unusedSimpArgs false
namespace Go.Proofs.YtjekjehgmljbgaaGreatDoor.T
open Go.RowKit Go.Proofs Go.Eng
set_option maxRecDepth 100000
set_option maxHeartbeats 1000000
theorem bd62  : ∀ w, (Instr.build 62 #[]).run Tryz.prog w = .ok (.agg #[.slice none 0 0, .int .i64 0, .int .i64 0, .int .i64 0, .int .i64 0, .slice none 0 0]) w := fun w => by kernel_rfl
theorem add_any (l : Lg) (a : Option Addr) (cap : Nat) (ae : Option Addr) (cape : Nat) (x : En) (w : World) (hn : l.tk.n ≤ 1000000) (hx : Ints w a l.tk.n cap l.tk.pints) (he : Ens w ae l.es.length cape l.es) : Ct Tryz.prog 79 #[.agg #[.slice a l.tk.n cap, .int .i64 l.tk.leak, .int .i64 l.tk.foot, .int .i64 l.start.lo, .int .i64 l.start.hi, .slice ae l.es.length cape], .agg x.cells.toArray] w (AddV l x) := by
 have hF := wide_wide
 refine Ct_start (args := [_, _]) Tryz.func79 rf Tryz.ntmps79 rf ?_
 refine zR fun ds => ?_
 refine WS_new hF rf (y_box rf) (fun b1 => ?_)
 refine WS_new hF rf (y_box rf) (fun b2 => ?_)
 refine WS_new hF rf (y_alloc Tryz.zeroValue62 rf) (fun b3 => ?_)
 refine za (.int .i64 _) hF ?_
 refine zO ?_
 refine zR fun ds => ?_
 refine zD hF (y_loadN rf Tryz.isAgg62 Tryz.sizeOf62 (Mem.own (us := [.slice _ _ _, .int .i64 _, .int .i64 _, .int .i64 _, .int .i64 _, .slice _ _ _]) 2 rf rf) rf) ?_
 refine zD hF (y_callL rf rf Tryz.call77 (fun w hw => valid_any l a cap ae cape w hn (hx.st w hw) (he.st w hw))) ?_
 refine za (.int .i64 _) hF ?_
 refine zP fun ds => ?_
 refine zm (.int .i64 _) hF ?_
 refine zD hF (y_neq rf rf) ?_
 refine zN ?_
 refine W_cond rf (fun c2 => ?_) (fun c2 => ?_)
 ·
  try simp only [qz1, qz2, qz3, qz4, qz5, qz6, qz7, qz8] at c2
  refine zR fun ds => ?_
  refine zD hF (y_buildL bd62 rf) ?_
  refine zm (.int .i64 _) hF ?_
  refine WS_store hF (i := 0) rf rf Tryz.sizeOf62 rf rf rf d20 ?_
  refine za (.int .i64 _) hF ?_
  refine zN ?_
  refine W_ret ?_
  refine Then_ret ?_
  refine Fin_ret [_, .int .i64 _] [] Tryz.results79 ⟨lvN rf Tryz.isAgg62 Tryz.sizeOf62 (Mem.own (us := [.slice _ _ _, .int .i64 _, .int .i64 _, .int .i64 _, .int .i64 _, .slice _ _ _]) 0 rf rf) rf, by rfl, trivial⟩ HSub.nil ?_
  have hE : l.addE x = l.err := if_neg c2
  exact ⟨zeroLg, by rw [hE]; rfl, fun _ => ⟨rfl, rfl⟩, fun h => absurd (hE ▸ h) c2⟩
 ·
  try simp only [qz1, qz2, qz3, qz4, qz5, qz6, qz7, qz8] at c2
  have hok := l.ok_of c2
  have hn12 := hok.n12
  have hn2 := hok.tk.n2
  refine zU ?_
  refine W_seq ?_
  refine zR fun ds => ?_
  refine zD hF (y_fieldAddr rf fa62_2) ?_
  refine zD hF (y_load1 rf Tryz.isAgg60 (Mem.own1 2 rf rf)) ?_
  refine zD hF (y_len rf Tryz.runUnderlying60) ?_
  refine zD hF (y_eql rf rf) ?_
  refine zN ?_
  refine W_cond rf (fun c4 => ?_) (fun c4 => ?_)
  ·
   try simp only [qz1, qz2, qz3, qz4, qz5, qz6, qz7, qz8] at c4
   refine zR fun ds => ?_
   refine zD hF (y_buildL bd62 rf) ?_
   refine WS_store hF (i := 0) rf rf Tryz.sizeOf62 rf rf rf d20 ?_
   refine za (.int .i64 _) hF ?_
   refine zN ?_
   refine W_ret ?_
   refine Then_ret ?_
   refine Fin_ret [_, .int .i64 _] [] Tryz.results79 ⟨lvN rf Tryz.isAgg62 Tryz.sizeOf62 (Mem.own (us := [.slice _ _ _, .int .i64 _, .int .i64 _, .int .i64 _, .int .i64 _, .slice _ _ _]) 0 rf rf) rf, by rfl, trivial⟩ HSub.nil ?_
   have hE : l.addE x = 9 := by unfold Lg.addE; rw [if_pos c2, if_pos om0]
   exact ⟨zeroLg, by rw [hE]; rfl, fun _ => ⟨rfl, rfl⟩, fun h => absurd (hE ▸ h) dc⟩
  ·
   try simp only [qz1, qz2, qz3, qz4, qz5, qz6, qz7, qz8] at c4
   refine W_skip ?_
   refine zS fun ds => ?_
   refine zD hF (y_loadN rf Tryz.isAgg62 Tryz.sizeOf62 (Mem.own (us := [.slice _ _ _, .int .i64 _, .int .i64 _, .int .i64 _, .int .i64 _, .slice _ _ _]) 2 rf rf) rf) ?_
   refine WS_gen hF rf (y_callL rf rf Tryz.call113 (fun w hw => copied_any l a cap ae cape w om0 om0 hn (hx.st w hw) (he.st w hw))) ?_
   rintro _ _ ⟨a1, cap1, a2, cap2, H1, H2, rfl, hr1, hr2, rfl⟩
   refine WS_back ?_
   refine WS_store hF (i := 2) rf rf Tryz.sizeOf62 rf rf rf d20 ?_
   refine zP fun ds => ?_
   refine zD hF (y_fieldAddr rf fa62_2) ?_
   refine zD hF (y_load1 rf Tryz.isAgg60 (Mem.own1 2 rf rf)) ?_
   refine zD hF (y_loadN rf Tryz.isAgg90 Tryz.sizeOf90 (Mem.own (us := [.int .i64 _, .int .i64 _, .int .i64 _, .int .i64 _]) 1 rf rf) rf) ?_
   refine WS_newS hF rf (y_buildSliceL bs60_1_0 rf) (fun b4 => ?_)
   refine WS_appendN hF (H1 := (_ :: _ :: _ :: _ :: H1)) (Hn := H2) rf rf rf Tryz.underlying60 infEntry rf rf hr2 (rowOf_len en_len _ _) (.inr ⟨_, _, rfl, Mem.own (us := [.int _ _, .int _ _, .int _ _, .int _ _]) 0 rf rf⟩) rf rf om0 om0 om0 ?_
   intro a3 cap3 H3 hr3
   have hr4 : NewRow 90 4 (l.put x).es.length (rowOf En.cells (l.put x).e (l.put x).es.length) (.slice a3 (l.put x).es.length cap3) H3 := by
    rw [l.put_len, l.put_row]; exact hr3
   rw [show l.es.length + 1 = (l.put x).es.length from (l.put_len x).symm]
   refine zD hF (y_fieldAddr rf fa62_2) ?_
   refine WS_store hF (i := 3) rf rf Tryz.sizeOf60 rf rf rf d20 ?_
   refine zO ?_
   refine zR fun ds => ?_
   refine zD hF (y_loadN rf Tryz.isAgg62 Tryz.sizeOf62 (Mem.own (us := [.slice _ _ _, .int .i64 _, .int .i64 _, .int .i64 _, .int .i64 _, .slice _ _ _]) 3 rf rf) rf) ?_
   refine zD hF (y_callL rf rf Tryz.call77 (fun w hw => valid_any (l.put x) a1 cap1 a3 cap3 w hn (NewRow.ints hr1 hx.len (by repeat (first | exact List.Sublist.refl _ | exact List.sublist_append_left _ _ | exact List.nil_sublist _ | apply List.Sublist.cons_cons | apply List.Sublist.cons | refine List.Sublist.trans ?_ (List.sublist_append_right _ _))) w hw) (NewRow.rws en_len hr4 rfl (by repeat (first | exact List.Sublist.refl _ | exact List.sublist_append_left _ _ | exact List.nil_sublist _ | apply List.Sublist.cons_cons | apply List.Sublist.cons | refine List.Sublist.trans ?_ (List.sublist_append_right _ _))) w hw))) ?_
   refine zD hF (y_neq rf rf) ?_
   refine zN ?_
   refine W_cond rf (fun c8 => ?_) (fun c8 => ?_)
   ·
    try simp only [qz1, qz2, qz3, qz4, qz5, qz6, qz7, qz8] at c8
    refine zR fun ds => ?_
    refine zD hF (y_buildL bd62 rf) ?_
    refine WS_store hF (i := 1) rf rf Tryz.sizeOf62 rf rf rf d20 ?_
    refine za (.int .i64 _) hF ?_
    refine zN ?_
    refine W_ret ?_
    refine Then_ret ?_
    refine Fin_ret [_, .int .i64 _] [] Tryz.results79 ⟨lvN rf Tryz.isAgg62 Tryz.sizeOf62 (Mem.own (us := [.slice _ _ _, .int .i64 _, .int .i64 _, .int .i64 _, .int .i64 _, .slice _ _ _]) 1 rf rf) rf, by rfl, trivial⟩ HSub.nil ?_
    have hE : l.addE x = 32 := by unfold Lg.addE; rw [if_pos c2, if_neg om0, if_neg c8]
    exact ⟨zeroLg, by rw [hE]; rfl, fun _ => ⟨rfl, rfl⟩, fun h => absurd (hE ▸ h) dc⟩
   ·
    try simp only [qz1, qz2, qz3, qz4, qz5, qz6, qz7, qz8] at c8
    refine W_skip ?_
    refine zS fun ds => ?_
    refine zD hF (y_loadN rf Tryz.isAgg62 Tryz.sizeOf62 (Mem.own (us := [.slice _ _ _, .int .i64 _, .int .i64 _, .int .i64 _, .int .i64 _, .slice _ _ _]) 3 rf rf) rf) ?_
    refine WS_store hF (i := 1) rf rf Tryz.sizeOf62 rf rf rf d20 ?_
    refine za (.int .i64 _) hF ?_
    refine zN ?_
    refine W_ret ?_
    refine Fin_ret [_, .int .i64 _] (H1 ++ H3) Tryz.results79 ⟨lvN rf Tryz.isAgg62 Tryz.sizeOf62 (Mem.own (us := [.slice _ _ _, .int .i64 _, .int .i64 _, .int .i64 _, .int .i64 _, .slice _ _ _]) 1 rf rf) rf, by rfl, trivial⟩ (HSub.sub (by repeat (first | exact List.Sublist.refl _ | exact List.sublist_append_left _ _ | exact List.nil_sublist _ | apply List.Sublist.cons_cons | apply List.Sublist.cons | refine List.Sublist.trans ?_ (List.sublist_append_right _ _)))) ?_
    have hE : l.addE x = 0 := by unfold Lg.addE; rw [if_pos c2, if_neg om0, if_pos c8]
    exact ⟨_, by rw [hE]; rfl, fun h => absurd hE h, fun _ => ⟨a1, cap1, a3, cap3, H1, H3, rfl, hr1, hr4, rfl⟩⟩
def prevD (D : List Int) : Nat → Int
 | 0 => 0
 | j + 1 => D.getD j 0
def okT (n : Int) (D : List Int) (j : Nat) : Bool := inB (prevD D j + 1) n [D.getD j 0]
theorem prev_bd {n : Int} {D : List Int} (hn : 0 ≤ n) : ∀ k, (∀ j, j < k → okT n D j = true) → 0 ≤ prevD D k ∧ prevD D k ≤ n
 | 0, _ => ⟨Int.le_refl _, hn⟩
 | k + 1, h => by
  have h1 := prev_bd hn k fun j hj => h j om0
  have h2 := inB1.1 (h k om0)
  show 0 ≤ D.getD k 0 ∧ D.getD k 0 ≤ n
  omega
def Lg.strE (l : Lg) (D : List Int) : Int := if l.err = 0 then if (List.range D.length).all (okT l.es.length D) = true then 0 else 32 else l.err
theorem Lg.strE_ok {l : Lg} {D : List Int} (h : l.err = 0) (hk : ∀ j, j < D.length → okT l.es.length D j = true) : l.strE D = 0 := by
 unfold Lg.strE
 rw [if_pos h, if_pos (List.all_eq_true.2 fun j hj => hk j (List.mem_range.1 hj))]
theorem Lg.strE_no {l : Lg} {D : List Int} {k : Nat} (h : l.err = 0) (hk : k < D.length) (hb : okT l.es.length D k = false) : l.strE D = 32 := by
 unfold Lg.strE
 rw [if_pos h, if_neg fun hall => ?_]
 rw [List.all_eq_true.1 hall k (List.mem_range.2 hk)] at hb
 cases hb
def StrikeV (l : Lg) (D : List Int) (v : Value) (Hn : List Blk) : Prop :=
 ∃ v0, v = .tuple #[v0, .int .i64 (l.strE D)] ∧ (l.strE D ≠ 0 → v0 = zeroLg ∧ Hn = []) ∧ (l.strE D = 0 → TwinL (l.wo D) v0 Hn)
theorem strike_any (l : Lg) (a : Option Addr) (cap : Nat) (ae : Option Addr) (cape : Nat) (ta : Option Addr) (tn tcap : Nat) (D : List Int) (w : World) (htn : tn ≤ 1000000) (hD : Ints w ta tn tcap D) (hn : l.tk.n ≤ 1000000) (hx : Ints w a l.tk.n cap l.tk.pints) (he : Ens w ae l.es.length cape l.es) : Ct Tryz.prog 78 #[.agg #[.slice a l.tk.n cap, .int .i64 l.tk.leak, .int .i64 l.tk.foot, .int .i64 l.start.lo, .int .i64 l.start.hi, .slice ae l.es.length cape], .slice ta tn tcap] w (StrikeV l D) := by
 have hDl := hD.len
 have hF := wide_wide
 refine Ct_start (args := [_, _]) Tryz.func78 rf Tryz.ntmps78 rf ?_
 refine zR fun ds => ?_
 refine WS_new hF rf (y_box rf) (fun b1 => ?_)
 refine WS_new hF rf (y_alloc Tryz.zeroValue62 rf) (fun b2 => ?_)
 refine za (.int .i64 _) hF ?_
 refine zP fun ds => ?_
 refine zD hF (y_loadN rf Tryz.isAgg62 Tryz.sizeOf62 (Mem.own (us := [.slice _ _ _, .int .i64 _, .int .i64 _, .int .i64 _, .int .i64 _, .slice _ _ _]) 1 rf rf) rf) ?_
 refine WS_gen hF rf (y_callL rf rf Tryz.call108 (fun w hw => opened_any l a cap ae cape w hn (hx.st w hw) (he.st w hw))) ?_
 rintro _ Hg ⟨p, rfl, hg1, hg2⟩
 refine zm (.tuple _) hF ?_
 refine zD hF (y_extract (c := .pointer _) rf rf) ?_
 refine zD hF (y_extract (c := .int .i64 _) rf rf) ?_
 refine za (.pointer _) hF ?_
 refine za (.int .i64 _) hF ?_
 refine zO ?_
 refine zR fun ds => ?_
 refine zm (.int .i64 _) hF ?_
 refine zD hF (y_neq rf rf) ?_
 refine zN ?_
 refine W_cond rf (fun c2 => ?_) (fun c2 => ?_)
 ·
  try simp only [qz1, qz2, qz3, qz4, qz5, qz6, qz7, qz8] at c2
  obtain rfl := hg2 c2
  refine zR fun ds => ?_
  refine zD hF (y_buildL bd62 rf) ?_
  refine zm (.int .i64 _) hF ?_
  refine WS_store hF (i := 0) rf rf Tryz.sizeOf62 rf rf rf d20 ?_
  refine za (.int .i64 _) hF ?_
  refine zN ?_
  refine W_ret ?_
  refine Then_ret ?_
  refine Fin_ret [_, .int .i64 _] [] Tryz.results78 ⟨lvN rf Tryz.isAgg62 Tryz.sizeOf62 (Mem.own (us := [.slice _ _ _, .int .i64 _, .int .i64 _, .int .i64 _, .int .i64 _, .slice _ _ _]) 0 rf rf) rf, by rfl, trivial⟩ HSub.nil ?_
  have hE : l.strE D = l.err := if_neg c2
  exact ⟨zeroLg, by rw [hE]; rfl, fun _ => ⟨rfl, rfl⟩, fun h => absurd (hE ▸ h) c2⟩
 ·
  try simp only [qz1, qz2, qz3, qz4, qz5, qz6, qz7, qz8] at c2
  obtain ⟨g, bk, rfl, rfl⟩ := hg1 c2
  have hok := l.ok_of c2
  have hn12 := hok.n12
  have hn2 := hok.tk.n2
  refine W_skip ?_
  refine zS fun ds => ?_
  refine za (.int .i64 _) hF ?_
  refine zO ?_
  refine zR fun ds => ?_
  refine zm (.slice _ _ _) hF ?_
  refine zD hF (y_len rf Tryz.runUnderlying22) ?_
  refine zm (.int .i64 _) hF ?_
  refine zN ?_
  refine W_block ?_
  refine W_loop (γ := Nat) (fun k => k ≤ tn ∧ ∀ j, j < k → okT l.es.length D j = true) (fun k => [(1, .slice ta tn tcap), (2, .pointer (some ⟨b1, 0, none⟩)), (4, .pointer (some ⟨b2, 0, none⟩)), (6, .pointer (some ⟨bk, 0, none⟩)), (8, .int .i64 (prevD D k)), (20, .slice ta tn tcap), (21, .int .i64 (tn : Int)), (22, .int .i64 (k : Int))]) (fun _ => _) (fun k => tn - k) (0) ⟨Nat.zero_le _, fun j hj => absurd hj om0⟩ s10 (List.Sublist.refl _) ?_
  rintro k e ⟨hk, hp⟩
  refine zR fun ds => ?_
  refine zD hF (y_lss rf rf) ?_
  refine zO ?_
  refine W_cond rf (fun c6 => ?_) (fun c6 => ?_)
  ·
   try simp only [qz1, qz2, qz3, qz4, qz5, qz6, qz7, qz8] at c6
   obtain ⟨tb, to, rfl, htc⟩ := hD.cell k om0
   have hpb := prev_bd (n := l.es.length) (D := D) om0 k hp
   refine zU ?_
   refine W_seq ?_
   refine W_block ?_
   refine zR fun ds => ?_
   refine zD hF (y_index (k := k) rf rf r10 d10 Tryz.runUnderlying22 Tryz.sizeOf3) ?_
   refine zD hF (y_load1 rf Tryz.isAgg3 zo) ?_
   refine za (.int .i64 _) hF ?_
   refine zO ?_
   refine zR fun ds => ?_
   refine zm (.int .i64 _) hF ?_
   refine zD hF (y_add rf rf ui) ?_
   refine zD hF (y_fieldAddr rf fa62_2) ?_
   refine zD hF (y_load1 rf Tryz.isAgg60 (Mem.own1 3 rf rf)) ?_
   refine zD hF (y_len rf Tryz.runUnderlying60) ?_
   refine zm (.int .i64 _) hF ?_
   refine WS_newS hF rf (y_buildSliceL bs22_1_0 rf) (fun b3 => ?_)
   refine zD hF (y_callL rf rf Tryz.call80 (fun w hw => in_any _ _ _ _ _ _ w dc (by first | exact Ints.one 0 rfl w hw | exact Ints.two 0 rfl w hw))) ?_
   refine zD hF (y_not rf) ?_
   refine zN ?_
   refine W_cond rf (fun c8 => ?_) (fun c8 => ?_)
   ·
    try simp only [qz1, qz2, qz3, qz4, qz5, qz6, qz7, qz8] at c8
    refine zR fun ds => ?_
    refine zD hF (y_buildL bd62 rf) ?_
    refine WS_store hF (i := 3) rf rf Tryz.sizeOf62 rf rf rf d20 ?_
    refine za (.int .i64 _) hF ?_
    refine zN ?_
    refine W_ret ?_
    refine Then_ret ?_
    refine InB_ret ?_
    refine Then_ret ?_
    refine Loop_ret ?_
    refine InB_ret ?_
    refine Then_ret ?_
    refine Fin_ret [_, .int .i64 _] [] Tryz.results78 ⟨lvN rf Tryz.isAgg62 Tryz.sizeOf62 (Mem.own (us := [.slice _ _ _, .int .i64 _, .int .i64 _, .int .i64 _, .int .i64 _, .slice _ _ _]) 3 rf rf) rf, by rfl, trivial⟩ HSub.nil ?_
    have hE : l.strE D = 32 := Lg.strE_no c2 (k := k) om0 c8
    exact ⟨zeroLg, by rw [hE]; rfl, fun _ => ⟨rfl, rfl⟩, fun h => absurd (hE ▸ h) dc⟩
   ·
    try simp only [qz1, qz2, qz3, qz4, qz5, qz6, qz7, qz8] at c8
    have hp2 : ∀ j, j < k + 1 → okT l.es.length D j = true := fun j hj => by
     obtain hj | rfl : j < k ∨ j = k := by omega
     ·exact hp j hj
     ·exact c8
    refine W_skip ?_
    refine zT fun ds => ?_
    refine zm (.int .i64 _) hF ?_
    refine za (.int .i64 _) hF ?_
    refine WS_nil ?_
    refine InB_normal ?_
    refine zT fun ds => ?_
    refine zD hF (y_add rf rf ui) ?_
    refine zm (.int .i64 _) hF ?_
    refine WS_nil ?_
    exact Loop_next (k + 1) ⟨by omega, hp2⟩ s10 s20 om0
  ·
   try simp only [qz1, qz2, qz3, qz4, qz5, qz6, qz7, qz8] at c6
   refine W_exit ?_
   refine Then_exit ?_
   refine Loop_exit ?_
   refine InB_same ?_
   refine zS fun ds => ?_
   refine zm (.pointer _) hF ?_
   refine zm (.slice _ _ _) hF ?_
   refine WS_gen hF rf (y_callL rf rf Tryz.call114 (fun w hw => without_any bk g l a cap ae cape ta tn tcap D w hok (At.block0 (by repeat (first | exact List.mem_cons_self | apply List.mem_cons_of_mem | apply List.mem_append_right)) w hw) (he.st w hw) (hD.st w hw) htn)) ?_
   rintro _ _ ⟨cb, ae2, cape2, H2, rfl, rfl, hrow2⟩
   refine WS_back ?_
   have hwn : (l.wo D).es.length ≤ 12 := (hok.wo D).n12
   refine zD hF znk ?_
   refine zD hF (y_fieldAddr rf fa141_1) ?_
   refine zD hF (y_loadN rf Tryz.isAgg62 Tryz.sizeOf62 (Mem.own (us := [.slice _ _ _, .int .i64 _, .int .i64 _, .int .i64 _, .int .i64 _, .slice _ _ _]) 4 rf rf) rf) ?_
   refine WS_gen hF rf (y_callL rf rf Tryz.call113 (fun w hw => copied_any (l.wo D) a cap ae2 cape2 w om0 (show 0 < l.tk.n by omega) hn (hx.st w hw) (Row.rws en_len hrow2 rfl (by repeat (first | exact List.Sublist.refl _ | exact List.sublist_append_left _ _ | exact List.nil_sublist _ | apply List.Sublist.cons_cons | apply List.Sublist.cons | refine List.Sublist.trans ?_ (List.sublist_append_right _ _))) w hw))) ?_
   rintro _ Ht hT
   have hT2 := hT
   obtain ⟨a1, cap1, a2, cap2, H3, H4, rfl, hr1, hr2, rfl⟩ := hT
   refine WS_back ?_
   refine WS_store hF (i := 2) rf rf Tryz.sizeOf62 rf rf rf d20 ?_
   refine za (.int .i64 _) hF ?_
   refine zN ?_
   refine W_ret ?_
   refine Fin_ret [_, .int .i64 _] (H3 ++ H4) Tryz.results78 ⟨lvN rf Tryz.isAgg62 Tryz.sizeOf62 (Mem.own (us := [.slice _ _ _, .int .i64 _, .int .i64 _, .int .i64 _, .int .i64 _, .slice _ _ _]) 2 rf rf) rf, by rfl, trivial⟩ (HSub.sub (by repeat (first | exact List.Sublist.refl _ | exact List.sublist_append_left _ _ | exact List.nil_sublist _ | apply List.Sublist.cons_cons | apply List.Sublist.cons | refine List.Sublist.trans ?_ (List.sublist_append_right _ _)))) ?_
   have hE : l.strE D = 0 := Lg.strE_ok c2 fun j hj => hp j om0
   exact ⟨_, by rw [hE]; rfl, fun h => absurd hE h, fun _ => hT2⟩
def lexB : List Int → List Int → Bool
 | x :: xs, y :: ys => if x = y then lexB xs ys else decide (x < y)
 | _, _ => false
def befB (xs ys : List Int) : Bool := if xs.length = ys.length then lexB xs ys else decide (xs.length < ys.length)
end Go.Proofs.YtjekjehgmljbgaaGreatDoor.T
namespace Go.Eng
section
variable {C : Ctx} {e : Env} {H : List Blk} {d : Option Tmp} {ty : TypeId} {pos : String} {af : Array Edge} {g : Option (Nat × Bool)} {x y : Operand} {t t' : TypeId} {m i : Nat}
end
end Go.Eng
namespace Go.Proofs.YtjekjehgmljbgaaGreatDoor.T
open Go.RowKit Go.Proofs Go.Eng
set_option maxRecDepth 100000
set_option maxHeartbeats 1000000
def setL (s n : Nat) : List Int := ((List.range n).filter fun i => s.testBit i).map fun i : Nat => (i : Int) + 1
theorem setL_succ (s n : Nat) : setL s (n + 1) = if s.testBit n then setL s n ++ [(n : Int) + 1] else setL s n := by
 unfold setL
 rw [List.range_succ, List.filter_append]
 cases h : s.testBit n <;> simp [h]
def Lg.dipsB (l : Lg) (s n : Nat) : Bool := (List.range n).all fun i => !s.testBit i || decide ((l.e i).kind = 3)
def betB (T : List Int) : Option (List Int) → Bool
 | none => true
 | some R => befB T R
def Lg.bestW (l : Lg) : Nat → Option (List Int)
 | 0 => none
 | s + 1 => if l.dipsB s l.es.length && betB (setL s l.es.length) (l.bestW s) && (l.wo (setL s l.es.length)).holdsB then some (setL s l.es.length) else l.bestW s
def RWrongV (l : Lg) (v : Value) (Hn : List Blk) : Prop :=
 (l.err ≠ 0 → v = .tuple #[.slice none 0 0, .int .i64 l.err] ∧ Hn = []) ∧
 (l.err = 0 → (∀ R, l.bestW (2 ^ l.es.length) = some R → ∃ fa fn fcap, v = .tuple #[.slice fa fn fcap, .int .i64 0] ∧ Row 3 1 fa fn fcap (iv R) Hn ∧ R.length = fn) ∧ (l.bestW (2 ^ l.es.length) = none → v = .tuple #[.slice none 0 0, .int .i64 6] ∧ Hn = []))
def Lg.Fits (l : Lg) (lo : Int) (E : List Int) : Prop := E.Pairwise (· < ·) ∧ ∀ x ∈ E, lo < x ∧ x ≤ (l.es.length : Int) ∧ (l.e (x - 1).toNat).kind = 3
def Lg.Val (l : Lg) (T : List Int) : Prop := l.Fits 0 T ∧ (l.wo T).holdsB = true
theorem Lg.Fits.tail {l : Lg} {lo x : Int} {E : List Int} (h : l.Fits lo (x :: E)) : l.Fits x E :=
 ⟨(List.pairwise_cons.1 h.1).2, fun y hy => ⟨(List.pairwise_cons.1 h.1).1 y hy, (h.2 y (List.mem_cons_of_mem _ hy)).2⟩⟩
theorem setL_of (n : Nat) : ∀ T : List Int, T.Pairwise (· < ·) → (∀ x ∈ T, 0 < x ∧ x ≤ (n : Int)) → ∃ s, s < 2 ^ n ∧ setL s n = T := by
 induction n with
 | zero =>
  intro T _ h
  refine ⟨0, by decide, ?_⟩
  cases T with
  | nil => rfl
  | cons x T => have := h x List.mem_cons_self; omega
 | succ n ih =>
  intro T hp h
  have small : (∀ x ∈ T, x ≤ (n : Int)) → ∃ s, s < 2 ^ (n + 1) ∧ setL s (n + 1) = T := fun hs => by
   obtain ⟨s, h1, h2⟩ := ih T hp fun x hx => ⟨(h x hx).1, hs x hx⟩
   refine ⟨s, by rw [Nat.pow_succ]; omega, ?_⟩
   rw [setL_succ, Nat.testBit_lt_two_pow h1]
   exact h2
  rcases List.eq_nil_or_concat T with rfl | ⟨L, x, rfl⟩
  ·exact small fun x hx => by cases hx
  ·rw [List.concat_eq_append] at hp h small ⊢
   have hlt : ∀ y ∈ L, y < x := fun y hy => (List.pairwise_append.1 hp).2.2 y hy x List.mem_cons_self
   have hx := h x (List.mem_append_right _ List.mem_cons_self)
   by_cases hxn : x = (n : Int) + 1
   ·obtain ⟨s, h1, h2⟩ := ih L (List.pairwise_append.1 hp).1 fun y hy => ⟨(h y (List.mem_append_left _ hy)).1, by have := hlt y hy; omega⟩
    refine ⟨2 ^ n + s, by rw [Nat.pow_succ]; omega, ?_⟩
    rw [setL_succ, Nat.testBit_two_pow_add_eq, Nat.testBit_lt_two_pow h1]
    have : setL (2 ^ n + s) n = setL s n := by
     unfold setL
     congr 1
     exact List.filter_congr fun i hi => Nat.testBit_two_pow_add_gt (List.mem_range.1 hi) s
    rw [this, h2, hxn]; rfl
   ·refine small fun y hy => ?_
    rcases List.mem_append.1 hy with hy | hy
    ·have := hlt y hy; omega
    ·rw [List.mem_singleton.1 hy]; omega
theorem Lg.Val.set {l : Lg} {T : List Int} (h : l.Val T) : ∃ s, s < 2 ^ l.es.length ∧ setL s l.es.length = T :=
 setL_of _ T h.1.1 fun x hx => ⟨(h.1.2 x hx).1, (h.1.2 x hx).2.1⟩
def Lg.wrL (l : Lg) : List Int := if l.err = 0 then l.wr.getD [] else []
def Lg.wrE (l : Lg) : Int := if l.err = 0 then (if l.wr.isSome then 0 else 6) else l.err
def WrI (l : Lg) (v : Value) (Hn : List Blk) : Prop :=
 ∃ fa fcap, v = .tuple #[.slice fa l.wrL.length fcap, .int .i64 l.wrE] ∧ ∀ (C : Ctx) (H : List Blk) (w : World), Hn.Sublist H → St C H w → Ints w fa l.wrL.length fcap l.wrL
theorem WrongV.ints {l : Lg} {v : Value} {Hn : List Blk} (h : WrongV l v Hn) : WrI l v Hn := by
 unfold WrI Lg.wrL Lg.wrE
 by_cases h0 : l.err = 0
 ·rw [if_pos h0, if_pos h0]
  cases hw : l.wr with
  | none =>
   obtain ⟨rfl, rfl⟩ := (h.2 h0).2 hw
   exact ⟨none, 0, rfl, fun C H w _ _ => Ints.nil _ _ _⟩
  | some R =>
   obtain ⟨fa, fn, fcap, rfl, hr, rfl⟩ := (h.2 h0).1 R hw
   exact ⟨fa, fcap, rfl, fun C H w hs hw => Row.ints hr rfl hs w hw⟩
 ·rw [if_neg h0, if_neg h0]
  obtain ⟨rfl, rfl⟩ := h.1 h0
  exact ⟨none, 0, rfl, fun C H w _ _ => Ints.nil _ _ _⟩
def Lg.zero : Lg := ⟨⟨[], 0, 0⟩, ⟨0, 0⟩, []⟩
def Lg.addL (l : Lg) (x : En) : Lg := if l.addE x = 0 then l.put x else Lg.zero
def Lg.strL (l : Lg) (D : List Int) : Lg := if l.strE D = 0 then l.wo D else Lg.zero
theorem twin_zero : TwinL Lg.zero zeroLg [] := ⟨none, 0, none, 0, [], [], rfl, ⟨none, 0, rfl, Nat.le_refl _, .inr ⟨rfl, rfl, rfl⟩⟩, ⟨none, 0, rfl, Nat.le_refl _, .inr ⟨rfl, rfl, rfl⟩⟩, rfl⟩
theorem AddV.twin {l : Lg} {x : En} {v : Value} {Hn : List Blk} (h : AddV l x v Hn) : ∃ v0, v = .tuple #[v0, .int .i64 (l.addE x)] ∧ TwinL (l.addL x) v0 Hn := by
 obtain ⟨v0, rfl, h1, h2⟩ := h
 refine ⟨v0, rfl, ?_⟩
 unfold Lg.addL
 by_cases h0 : l.addE x = 0
 ·rw [if_pos h0]; exact h2 h0
 ·obtain ⟨rfl, rfl⟩ := h1 h0
  rw [if_neg h0]; exact twin_zero
theorem StrikeV.twin {l : Lg} {D : List Int} {v : Value} {Hn : List Blk} (h : StrikeV l D v Hn) : ∃ v0, v = .tuple #[v0, .int .i64 (l.strE D)] ∧ TwinL (l.strL D) v0 Hn := by
 obtain ⟨v0, rfl, h1, h2⟩ := h
 refine ⟨v0, rfl, ?_⟩
 unfold Lg.strL
 by_cases h0 : l.strE D = 0
 ·rw [if_pos h0]; exact h2 h0
 ·obtain ⟨rfl, rfl⟩ := h1 h0
  rw [if_neg h0]; exact twin_zero
end Go.Proofs.YtjekjehgmljbgaaGreatDoor.T
namespace Go.Proofs.YtjekjehgmljbgaaGreatDoor.T
open Go.RowKit Go.Eng
structure Cn where
 sz : List Int
 inn : List Int
 st : Int
def Cn.n (c : Cn) : Nat := c.sz.length
def Cn.s (c : Cn) (k : Nat) : Int := c.sz.getD k 0
def Cn.i (c : Cn) (k : Nat) : Int := c.inn.getD k 0
def Cn.fitB (c : Cn) (m : Nat) : Bool := (List.range m).all fun k => inB 0 (c.s k) [c.i k]
def Cn.okB (c : Cn) : Bool := (inB 1 3 [(c.n : Int)] && decide (c.inn.length = c.n)) && (inB 1 20 c.sz && inB 0 600 [c.st]) && c.fitB c.n
theorem Cn.fitB_succ (c : Cn) (m : Nat) : c.fitB (m + 1) = (c.fitB m && inB 0 (c.s m) [c.i m]) := by
 unfold Cn.fitB; rw [List.range_succ, List.all_append]; simp
theorem Cn.fitB_false {c : Cn} {k m : Nat} (h : k < m) (hk : inB 0 (c.s k) [c.i k] = false) : c.fitB m = false := by
 unfold Cn.fitB
 exact List.all_eq_false.2 ⟨k, List.mem_range.2 h, by simp [hk]⟩
theorem inB_all {lo hi : Int} {xs : List Int} : inB lo hi xs = true ↔ ∀ k, k < xs.length → lo ≤ xs.getD k 0 ∧ xs.getD k 0 ≤ hi := by
 unfold inB
 simp only [List.all_eq_true, Bool.not_eq_true', outB_iff]
 constructor
 ·intro h k hk
  have := h xs[k] (List.getElem_mem hk)
  simpa [List.getD_eq_getElem?_getD, hk] using this
 ·intro h x hx
  obtain ⟨k, hk, rfl⟩ := List.getElem_of_mem hx
  simpa [List.getD_eq_getElem?_getD, hk] using h k hk
structure Cn.Ok (c : Cn) : Prop where
 n1 : 1 ≤ c.n
 n3 : c.n ≤ 3
 len : c.inn.length = c.n
 st0 : 0 ≤ c.st
 st1 : c.st ≤ 600
 s : ∀ k, k < c.n → 1 ≤ c.s k ∧ c.s k ≤ 20
 i : ∀ k, k < c.n → 0 ≤ c.i k ∧ c.i k ≤ c.s k
theorem Cn.ok_iff {c : Cn} : c.okB = true ↔ c.Ok := by
 unfold Cn.okB Cn.fitB
 simp only [Bool.and_eq_true, inB1, decide_eq_true_eq, List.all_eq_true, List.mem_range]
 rw [inB_all]
 constructor
 ·rintro ⟨⟨⟨⟨h1, h2⟩, h3⟩, h4, h5, h6⟩, h7⟩
  exact ⟨by omega, by omega, h3, h5, h6, h4, h7⟩
 ·intro h
  have := h.n1
  have := h.n3
  exact ⟨⟨⟨⟨by omega, by omega⟩, h.len⟩, h.s, h.st0, h.st1⟩, h.i⟩
structure Po where
 f : Int
 t : Int
deriving DecidableEq
def Po.cells (p : Po) : List Value := [.int .i64 p.f, .int .i64 p.t]
def Po.z : Po := ⟨0, 0⟩
structure Co where
 a : Int
 b : Int
 c : Int
 d : Int
deriving DecidableEq
def Co.cells (x : Co) : List Value := [.int .i64 x.a, .int .i64 x.b, .int .i64 x.c, .int .i64 x.d]
def Co.z : Co := ⟨0, 0, 0, 0⟩
def Co.g (x : Co) : Nat → Int
 | 0 => x.a
 | 1 => x.b
 | 2 => x.c
 | _ => x.d
def Co.w (x : Co) (k : Nat) (v : Int) : Co :=
 match k with
 | 0 => ⟨v, x.b, x.c, x.d⟩
 | 1 => ⟨x.a, v, x.c, x.d⟩
 | 2 => ⟨x.a, x.b, v, x.d⟩
 | _ => ⟨x.a, x.b, x.c, v⟩
theorem lt4 {k : Nat} (h : k < 4) : k = 0 ∨ k = 1 ∨ k = 2 ∨ k = 3 := by omega
theorem Co.drop (x : Co) {k : Nat} (h : k < 4) : ∃ rest, List.drop (0 + k * 1) x.cells = [.int .i64 (x.g k)] ++ rest := by
 obtain rfl | rfl | rfl | rfl := lt4 h
 all_goals exact ⟨_, rfl⟩
theorem Co.splice (x : Co) (v : Int) {k : Nat} (h : k < 4) : splice x.cells (0 + k * 1) [.int .i64 v] = (x.w k v).cells := by
 obtain rfl | rfl | rfl | rfl := lt4 h
 all_goals rfl
theorem Co.g_w (x : Co) (v : Int) {k j : Nat} (hk : k < 4) (hj : j < 4) : (x.w k v).g j = if j = k then v else x.g j := by
 obtain rfl | rfl | rfl | rfl := lt4 hk <;> obtain rfl | rfl | rfl | rfl := lt4 hj
 all_goals rfl
theorem Co.ext4 {x y : Co} (h : ∀ k, k < 4 → x.g k = y.g k) : x = y := by
 obtain ⟨a, b, c, d⟩ := x
 obtain ⟨a', b', c', d'⟩ := y
 have h0 : a = a' := h 0 dc
 have h1 : b = b' := h 1 dc
 have h2 : c = c' := h 2 dc
 have h3 : d = d' := h 3 dc
 subst h0 h1 h2 h3; rfl
def Cn.co (c : Cn) : Co := ⟨c.st, c.i 0, c.i 1, c.i 2⟩
def Cn.room (c : Cn) (k : Nat) : Int := if k = 0 then 600 else c.s (k - 1)
def Cn.vldB (c : Cn) (p : Po) : Bool := inB 0 (c.n : Int) [p.f, p.t] && decide (p.f ≠ p.t)
def Cn.lack (c : Cn) (x : Co) (t : Nat) : Int := c.room t - x.g t
def Cn.amt (c : Cn) (x : Co) (f t : Nat) : Int := min (x.g f) (c.lack x t)
def Cn.noB (c : Cn) (x : Co) (f t : Nat) : Bool := decide (f = 0) && decide (x.g f < c.lack x t) || decide (t = 0) && decide (c.lack x t < x.g f)
def Cn.to (c : Cn) (x : Co) (f t : Nat) : Co := (x.w f (x.g f - c.amt x f t)).w t (x.g t + c.amt x f t)
def Cn.canB (c : Cn) (x : Co) (f t : Nat) : Bool := !c.noB x f t && decide (0 < c.amt x f t)
def Cn.of (c : Cn) (x : Co) : Cn := ⟨c.sz, [x.b, x.c, x.d].take c.n, x.a⟩
structure Cn.In (c : Cn) (x : Co) : Prop where
 lo : ∀ k, k < 4 → 0 ≤ x.g k
 hi : ∀ k, k ≤ c.n → x.g k ≤ c.room k
 z : ∀ k, c.n < k → k < 4 → x.g k = 0
theorem Cn.room_s (c : Cn) (k : Nat) : c.room (k + 1) = c.s k := rfl
theorem Cn.co_g (c : Cn) (k : Nat) (h : k < 3) : c.co.g (k + 1) = c.i k := by
 obtain rfl | rfl | rfl : k = 0 ∨ k = 1 ∨ k = 2 := by omega
 all_goals rfl
theorem Cn.Ok.co_in {c : Cn} (h : c.Ok) : c.In c.co := by
 have h3 := h.n3
 refine ⟨fun k hk => ?_, fun k hk => ?_, fun k hk hk4 => ?_⟩
 ·cases k with
  | zero => exact h.st0
  | succ k =>
   rw [c.co_g k om0]
   by_cases hkn : k < c.n
   ·exact (h.i k hkn).1
   ·unfold Cn.i
    rw [List.getD_eq_getElem?_getD, List.getElem?_eq_none (by rw [h.len]; omega)]
    exact Int.le_refl _
 ·cases k with
  | zero => exact h.st1
  | succ k => rw [c.co_g k om0]; exact (h.i k om0).2
 ·cases k with
  | zero => omega
  | succ k =>
   rw [c.co_g k om0]
   unfold Cn.i
   rw [List.getD_eq_getElem?_getD, List.getElem?_eq_none (by rw [h.len]; omega)]
   rfl
theorem Cn.to_g (c : Cn) (x : Co) {f t k : Nat} (hf : f < 4) (ht : t < 4) (hk : k < 4) : (c.to x f t).g k = if k = t then x.g t + c.amt x f t else if k = f then x.g f - c.amt x f t else x.g k := by
 unfold Cn.to
 rw [Co.g_w _ _ ht hk, Co.g_w _ _ hf hk]
theorem Cn.In.to {c : Cn} {x : Co} {f t : Nat} (h : c.In x) (hn : c.n ≤ 3) (hf : f ≤ c.n) (ht : t ≤ c.n) (ha : 0 ≤ c.amt x f t) : c.In (c.to x f t) := by
 have hm : c.amt x f t ≤ x.g f ∧ c.amt x f t ≤ c.room t - x.g t := by unfold Cn.amt Cn.lack; omega
 have h0 := h.lo t om0
 refine ⟨fun k hk => ?_, fun k hk => ?_, fun k hk hk4 => ?_⟩
 ·rw [c.to_g x om0 om0 hk]
  have := h.lo k hk
  split
  ·omega
  ·split <;> omega
 ·rw [c.to_g x om0 om0 om0]
  split
  ·rename_i hkt; subst hkt; omega
  ·split
   ·rename_i hkf
    subst hkf
    have := h.hi k hk
    omega
   ·exact h.hi k hk
 ·rw [c.to_g x om0 om0 hk4, if_neg om0, if_neg om0]
  exact h.z k hk hk4
theorem Cn.canB_iff {c : Cn} {x : Co} {f t : Nat} : c.canB x f t = true ↔ (¬ (f = 0 ∧ x.g f < c.lack x t) ∧ ¬ (t = 0 ∧ c.lack x t < x.g f)) ∧ 0 < c.amt x f t := by
 unfold Cn.canB Cn.noB
 simp only [Bool.and_eq_true, Bool.not_eq_true', Bool.or_eq_false_iff, Bool.and_eq_false_iff, decide_eq_true_eq, decide_eq_false_iff_not]
 constructor
 ·rintro ⟨⟨h1, h2⟩, h3⟩; exact ⟨⟨by omega, by omega⟩, h3⟩
 ·rintro ⟨⟨h1, h2⟩, h3⟩; exact ⟨⟨by omega, by omega⟩, h3⟩
theorem Cn.of_i (c : Cn) (x : Co) (k : Nat) (h : k < c.n) (hn : c.n ≤ 3) : (c.of x).i k = x.g (k + 1) := by
 unfold Cn.i Cn.of
 obtain rfl | rfl | rfl : k = 0 ∨ k = 1 ∨ k = 2 := by omega
 all_goals
  obtain h1 | h1 | h1 : c.n = 1 ∨ c.n = 2 ∨ c.n = 3 := by omega
  all_goals first | omega | (simp only [h1]; rfl)
theorem Cn.of_len (c : Cn) (x : Co) (hn : c.n ≤ 3) : (c.of x).inn.length = c.n := by
 unfold Cn.of
 simp only [List.length_take, List.length_cons, List.length_nil]
 omega
theorem Cn.Ok.of {c : Cn} (h : c.Ok) {x : Co} (hx : c.In x) : (c.of x).Ok := by
 refine ⟨h.n1, h.n3, c.of_len x h.n3, hx.lo 0 dc, hx.hi 0 (Nat.zero_le _), h.s, fun k hk => ?_⟩
 have hk' : k < c.n := hk
 have := h.n3
 rw [c.of_i x k hk h.n3]
 exact ⟨hx.lo (k + 1) om0, hx.hi (k + 1) om0⟩
theorem Cn.Ok.of_co {c : Cn} (h : c.Ok) {x : Co} (hx : c.In x) : (c.of x).co = x := by
 have h3 := h.n3
 have hi := (h.of hx).co_in
 refine Co.ext4 fun k hk => ?_
 cases k with
 | zero => rfl
 | succ k =>
  by_cases hkn : k < c.n
  ·rw [(c.of x).co_g k om0, c.of_i x k hkn h3]
  ·rw [hi.z (k + 1) (show c.n < k + 1 by omega) hk, hx.z (k + 1) om0 hk]
theorem Cn.Ok.co_of {c : Cn} (h : c.Ok) : c.of c.co = c := by
 obtain ⟨s, i, t⟩ := c
 have h1 := h.n1
 have h3 := h.n3
 have hl := h.len
 change i.length = s.length at hl
 unfold Cn.of Cn.co Cn.n Cn.i
 simp only [Cn.mk.injEq, and_true, true_and]
 rw [← hl]
 change s.length ≤ 3 at h3
 match i, hl with
 | [], _ => rfl
 | [_], _ => rfl
 | [_, _], _ => rfl
 | [_, _, _], _ => rfl
 | _ :: _ :: _ :: _ :: _, hl => simp only [List.length_cons] at hl; omega
def Cn.stp (c : Cn) (x : Co) (p : Po) : Co := c.to x p.f.toNat p.t.toNat
def Cn.pE (c : Cn) (x : Co) (p : Po) : Int := if c.vldB p then if c.canB x p.f.toNat p.t.toNat then 0 else 6 else 81
def Cn.runK (c : Cn) (l : List Po) : Nat → Co
 | 0 => c.co
 | k + 1 => c.stp (c.runK l k) (l.getD k Po.z)
def bk (x y : Co) : Int := max 0 (y.a - x.a)
def Cn.backK (c : Cn) (l : List Po) : Nat → Int
 | 0 => 0
 | k + 1 => c.backK l k + bk (c.runK l k) (c.runK l (k + 1))
def Cn.badK (c : Cn) (l : List Po) : Nat → Nat → Option Nat
 | _, 0 => none
 | k, m + 1 => if c.pE (c.runK l k) (l.getD k Po.z) = 0 then c.badK l (k + 1) m else some k
def Cn.zero : Cn := ⟨[], [], 0⟩
def Cn.err (c : Cn) : Int := if c.okB then 0 else 80
def Cn.bad (c : Cn) (l : List Po) : Option Nat := c.badK l 0 l.length
def Cn.plC (c : Cn) (l : List Po) : Cn := if c.okB then match c.bad l with | none => c.of (c.runK l l.length) | some _ => Cn.zero else Cn.zero
def Cn.plB (c : Cn) (l : List Po) : Int := if c.okB then match c.bad l with | none => c.backK l l.length | some _ => 0 else 0
def Cn.plA (c : Cn) (l : List Po) : Int := if c.okB then match c.bad l with | none => 0 | some k => (k : Int) else 0
def Cn.plE (c : Cn) (l : List Po) : Int := if c.okB then match c.bad l with | none => 0 | some k => c.pE (c.runK l k) (l.getD k Po.z) else 80
def Cn.poC (c : Cn) (p : Po) : Cn := if c.okB then if c.pE c.co p = 0 then c.of (c.stp c.co p) else Cn.zero else Cn.zero
def Cn.poE (c : Cn) (p : Po) : Int := if c.okB then c.pE c.co p else 80
theorem Cn.vld_iff {c : Cn} {p : Po} : c.vldB p = true ↔ (0 ≤ p.f ∧ p.f ≤ c.n) ∧ (0 ≤ p.t ∧ p.t ≤ c.n) ∧ p.f ≠ p.t := by
 unfold Cn.vldB
 simp only [Bool.and_eq_true, inB2, decide_eq_true_eq]
 constructor
 ·rintro ⟨⟨h1, h2⟩, h3⟩; exact ⟨h1, h2, h3⟩
 ·rintro ⟨h1, h2, h3⟩; exact ⟨⟨h1, h2⟩, h3⟩
theorem Cn.pE_zero {c : Cn} {x : Co} {p : Po} : c.pE x p = 0 ↔ c.vldB p = true ∧ c.canB x p.f.toNat p.t.toNat = true := by
 unfold Cn.pE
 split
 ·rename_i h; split
  ·rename_i h2; simp [h, h2]
  ·rename_i h2; simp [h2]
 ·rename_i h; simp [h]
theorem Cn.In.stp {c : Cn} {x : Co} {p : Po} (h : c.In x) (hn : c.n ≤ 3) (hp : c.pE x p = 0) : c.In (c.stp x p) := by
 obtain ⟨h1, h2⟩ := Cn.pE_zero.1 hp
 rw [Cn.vld_iff] at h1
 exact h.to hn om0 om0 (Int.le_of_lt (Cn.canB_iff.1 h2).2)
end Go.Proofs.YtjekjehgmljbgaaGreatDoor.T
namespace Go.Proofs.YtjekjehgmljbgaaGreatDoor.T
open Go.RowKit Go.Proofs Go.Eng
set_option maxRecDepth 100000
set_option maxHeartbeats 1000000
theorem fa158_0 : ∀ b o w, (Instr.fieldAt 158 (.pointer (some ⟨b, o, none⟩)) 0).run Tryz.prog w = .ok (.pointer (some ⟨b, o + 0, none⟩)) w := fun b o w => by kernel_rfl
theorem fa24_0 : ∀ b o w, (Instr.fieldAt 24 (.pointer (some ⟨b, o, none⟩)) 0).run Tryz.prog w = .ok (.pointer (some ⟨b, o + 0, none⟩)) w := fun b o w => by kernel_rfl
theorem fa24_1 : ∀ b o w, (Instr.fieldAt 24 (.pointer (some ⟨b, o, none⟩)) 1).run Tryz.prog w = .ok (.pointer (some ⟨b, o + 1, none⟩)) w := fun b o w => by kernel_rfl
theorem fa24_2 : ∀ b o w, (Instr.fieldAt 24 (.pointer (some ⟨b, o, none⟩)) 2).run Tryz.prog w = .ok (.pointer (some ⟨b, o + 2, none⟩)) w := fun b o w => by kernel_rfl
def firstP (p : Int → Bool) : List Int → Nat → Int
 | [], _ => -1
 | x :: l, k => if p x then (k : Int) else firstP p l (k + 1)
theorem firstP_step {p : Int → Bool} {xs : List Int} {k : Nat} (h : k < xs.length) :
  firstP p (xs.drop k) k = if p (xs.getD k 0) then (k : Int) else firstP p (xs.drop (k + 1)) (k + 1) := by
 rw [List.drop_eq_getElem_cons h]; simp [firstP, h, List.getD_eq_getElem?_getD]
theorem firstP_lt {p : Int → Bool} : ∀ {xs : List Int} {k : Nat}, decide (0 ≤ firstP p xs k) = xs.any p
 | [], _ => by simp [firstP]
 | x :: l, k => by
  have ih := firstP_lt (p := p) (xs := l) (k := k + 1)
  unfold firstP
  cases hx : p x
  ·simp only [Bool.false_eq_true, if_false, List.any_cons, hx, Bool.false_or, ih]
  ·simp [hx]
structure Tells (P : Program) (w : World) (fid : FuncId) (caps : List Value) (p : Int → Bool) : Prop where
 enter : ∀ args w, (callFunc fid args).run P w = .ok (.enter fid args) w
 call : ∀ x w', Below w.heap.size w w' → Ct P fid (Value.int .i64 x :: caps).toArray w' fun v _ => v = .bool (p x)
theorem Tells.st {C : Ctx} {H : List Blk} {fid : FuncId} {caps : List Value} {p : Int → Bool} (h : Tells C.P C.w0 fid caps p) (w : World) (hw : St C H w) : Tells C.P w fid caps p :=
 ⟨h.enter, fun x w' hb => h.call x w' (hw.1.trans (hb.mono hw.1.size))⟩
theorem ixP_any (fid : FuncId) (caps : List Value) (p : Int → Bool) (a : Option Addr) (n cap : Nat) (xs : List Int) (w : World) (hn : (n : Int) ≤ 9223372036854775806) (hx : Ints w a n cap xs) (hp : Tells Tryz.prog w fid caps p) :
  Ct Tryz.prog 124 #[.slice a n cap, .func (.func fid) #[] caps.toArray] w fun v _ => v = .int .i64 (firstP p xs 0) := by
 have hl := hx.len
 have hF := wide_wide
 refine Ct_start (args := [_, _]) Tryz.func124 rf Tryz.ntmps124 rf ?_
 refine zR fun ds => ?_
 refine za (.int .i64 _) hF ?_
 refine zO ?_
 refine zR fun ds => ?_
 refine zm (.slice _ _ _) hF ?_
 refine zD hF (y_len rf Tryz.runUnderlying22) ?_
 refine zm (.int .i64 _) hF ?_
 refine zN ?_
 refine W_block ?_
 refine W_loop (γ := Nat) (fun k => k ≤ n ∧ firstP p (xs.drop k) k = firstP p xs 0) (fun k => [(8, .int .i64 (k : Int)), (7, .int .i64 (n : Int)), (0, .slice a n cap), (1, .func (.func fid) #[] caps.toArray)]) (fun _ => _) (fun k => n - k) (0) ⟨Nat.zero_le _, by simp⟩ s10 (List.Sublist.refl _) ?_
 intro k e hk
 refine zR fun ds => ?_
 refine zD hF (y_lss rf rf) ?_
 refine zO ?_
 refine W_cond rf (fun c2 => ?_) (fun c2 => ?_)
 ·
  try simp only [qz1, qz2, qz3, qz4, qz5, qz6, qz7, qz8] at c2
  obtain ⟨b, o, rfl, hc⟩ := hx.cell k om0
  refine zU ?_
  refine W_seq ?_
  refine W_block ?_
  refine zR fun ds => ?_
  refine zm (.int .i64 _) hF ?_
  refine za (.int .i64 _) hF ?_
  refine zP fun ds => ?_
  refine zm (_) hF ?_
  refine zm (.slice _ _ _) hF ?_
  refine zm (.int .i64 _) hF ?_
  refine zD hF (y_index (k := k) rf rf r10 d10 Tryz.runUnderlying22 Tryz.sizeOf3) ?_
  refine zD hF (y_load1 rf Tryz.isAgg3 zo) ?_
  refine zD hF (y_callL (first := []) (captured := caps) rf rf hp.enter (fun w hw => hp.call _ w hw.1)) ?_
  refine zN ?_
  refine W_cond rf (fun c4 => ?_) (fun c4 => ?_)
  ·
   try simp only [qz1, qz2, qz3, qz4, qz5, qz6, qz7, qz8] at c4
   refine zR fun ds => ?_
   refine zm (.int .i64 _) hF ?_
   refine za (.int .i64 _) hF ?_
   refine zN ?_
   refine W_ret ?_
   refine InB_ret ?_
   refine Then_ret ?_
   refine Loop_ret ?_
   refine InB_ret ?_
   refine Then_ret ?_
   refine Fin_ret [.int .i64 _] [] Tryz.results124 ⟨by rfl, trivial⟩ HSub.nil ?_
   show _ = _
   rw [firstP_step om0, c4] at hk
   simp [tupOf, ← hk.2]
  ·
   try simp only [qz1, qz2, qz3, qz4, qz5, qz6, qz7, qz8] at c4
   refine W_skip ?_
   refine InB_normal ?_
   refine zT fun ds => ?_
   refine zD hF (y_add rf rf ui) ?_
   refine zm (.int .i64 _) hF ?_
   refine WS_nil ?_
   exact Loop_next (k + 1) ⟨by omega, by rw [firstP_step om0, c4] at hk; exact hk.2⟩ s10 s20 om0
 ·
  try simp only [qz1, qz2, qz3, qz4, qz5, qz6, qz7, qz8] at c2
  refine W_exit ?_
  refine Then_exit ?_
  refine Loop_exit ?_
  refine InB_same ?_
  refine zS fun ds => ?_
  refine za (.int .i64 _) hF ?_
  refine zN ?_
  refine W_ret ?_
  refine Fin_ret [.int .i64 _] [] Tryz.results124 ⟨by rfl, trivial⟩ HSub.nil ?_
  show _ = _
  obtain rfl : k = n := by omega
  rw [← hk.2, ← hl]; simp [tupOf, firstP]
theorem ctP_any (fid : FuncId) (caps : List Value) (p : Int → Bool) (a : Option Addr) (n cap : Nat) (xs : List Int) (w : World) (hn : (n : Int) ≤ 9223372036854775806) (hx : Ints w a n cap xs) (hp : Tells Tryz.prog w fid caps p) :
  Ct Tryz.prog 97 #[.slice a n cap, .func (.func fid) #[] caps.toArray] w fun v _ => v = .bool (xs.any p) := by
 have hF := wide_wide
 refine Ct_start (args := [_, _]) Tryz.func97 rf Tryz.ntmps97 rf ?_
 refine zR fun ds => ?_
 refine za (.bool _) hF ?_
 refine zP fun ds => ?_
 refine zm (.slice _ _ _) hF ?_
 refine zm (_) hF ?_
 refine zD hF (y_callL rf rf Tryz.call124 (fun w hw => ixP_any fid caps p a n cap xs w hn (hx.st w hw) (hp.st w hw))) ?_
 refine zD hF (y_geq rf rf) ?_
 refine za (.bool _) hF ?_
 refine zN ?_
 refine W_ret ?_
 refine Fin_ret [.bool _] [] Tryz.results97 ⟨by rfl, trivial⟩ HSub.nil ?_
 show Value.bool _ = _
 rw [firstP_lt]
theorem cin1_any (n lo hi : Int) (p q o1 o2 : Nat) (w : World) (h1 : At w p o1 [.int .i64 lo]) (h2 : At w q o2 [.int .i64 hi]) :
  Ct Tryz.prog 98 #[.int .i64 n, .pointer (some ⟨p, o1, none⟩), .pointer (some ⟨q, o2, none⟩)] w fun v _ => v = .bool (outB lo hi n) := by
 have hF := wide_wide
 refine Ct_start (args := [_, _, _]) Tryz.func98 rf Tryz.ntmps98 rf ?_
 refine zR fun ds => ?_
 refine za (.bool _) hF ?_
 refine zP fun ds => ?_
 refine zm (.int .i64 _) hF ?_
 refine zD hF (y_load1 rf Tryz.isAgg3 zo) ?_
 refine zD hF (y_lss rf rf) ?_
 refine zm (.bool _) hF ?_
 refine WS_split 8 rf (fun g1_3 => ?_) (fun g1_3 => ?_)
 ·
  try simp only [qz1, qz2, qz3, qz4, qz5, qz6, qz7, qz8] at g1_3
  refine zno hF ?_
  refine zno hF ?_
  refine zno hF ?_
  refine zD hF (zpk (.bool _)) ?_
  refine za (.bool _) hF ?_
  refine zN ?_
  refine W_ret ?_
  refine Fin_ret [.bool _] [] Tryz.results98 ⟨by rfl, trivial⟩ HSub.nil ?_
  show _ = _
  simp [tupOf, outB, *] <;> omega
 ·
  try simp only [qz1, qz2, qz3, qz4, qz5, qz6, qz7, qz8] at g1_3
  refine zm (.int .i64 _) hF ?_
  refine zD hF (y_load1 rf Tryz.isAgg3 zo) ?_
  refine zD hF (y_gtr rf rf) ?_
  refine zD hF (zpk (.bool _)) ?_
  refine za (.bool _) hF ?_
  refine zN ?_
  refine W_ret ?_
  refine Fin_ret [.bool _] [] Tryz.results98 ⟨by rfl, trivial⟩ HSub.nil ?_
  show _ = _
  simp [tupOf, outB, *] <;> omega
theorem cin_any (a : Option Addr) (n cap : Nat) (xs : List Int) (lo hi : Int) (w : World) (hn : (n : Int) ≤ 9223372036854775806) (hx : Ints w a n cap xs) :
  Ct Tryz.prog 52 #[.int .i64 lo, .int .i64 hi, .slice a n cap] w fun v _ => v = .bool (inB lo hi xs) := by
 have hF := wide_wide
 refine Ct_start (args := [_, _, _]) Tryz.func52 rf Tryz.ntmps52 rf ?_
 refine zR fun ds => ?_
 refine WS_new hF rf (y_box rf) (fun b1 => ?_)
 refine WS_new hF rf (y_box rf) (fun b2 => ?_)
 refine za (.bool _) hF ?_
 refine zP fun ds => ?_
 refine zm (.slice _ _ _) hF ?_
 refine zD hF (y_makeFuncL rf rf) ?_
 refine zD hF (y_callL rf rf Tryz.call97 (fun w hw => ctP_any 98 [_, _] (outB lo hi) a n cap xs w hn (hx.st w hw) ⟨Tryz.call98, fun x w' hb => cin1_any x lo hi _ _ 0 0 w' (At.old hb (Mem.own1 1 rfl rfl w hw)) (At.old hb (Mem.own1 0 rfl rfl w hw))⟩)) ?_
 refine zD hF (y_not rf) ?_
 refine za (.bool _) hF ?_
 refine zN ?_
 refine W_ret ?_
 refine Fin_ret [.bool _] [] Tryz.results52 ⟨by rfl, trivial⟩ HSub.nil ?_
 show Value.bool _ = _
 rw [inB_any]
def Cn.chkB (c : Cn) : Nat → Bool
 | 0 => inB 1 3 [(c.n : Int)] && decide (c.inn.length = c.n)
 | 1 => inB 1 20 c.sz && inB 0 600 [c.st]
 | _ => c.fitB c.n
theorem chk1_any (c : Cn) (a1 : Option Addr) (p1 : Nat) (a2 : Option Addr) (p2 : Nat) (w : World) (hn : c.n ≤ 1000000) (hm : c.inn.length ≤ 1000000) (h1 : Ints w a1 c.n p1 c.sz) (h2 : Ints w a2 c.inn.length p2 c.inn) : Ct Tryz.prog 190 #[.agg #[.slice a1 c.n p1, .slice a2 c.inn.length p2, .int .i64 c.st]] w fun v _ => v = .bool (c.chkB 0) := by
 have hF := wide_wide
 refine Ct_start (args := [_]) Tryz.func190 rf Tryz.ntmps190 rf ?_
 refine zR fun ds => ?_
 refine WS_new hF rf (y_box rf) (fun b1 => ?_)
 refine za (.bool _) hF ?_
 refine zP fun ds => ?_
 refine zD hF (y_fieldAddr rf fa24_0) ?_
 refine zD hF (y_load1 rf Tryz.isAgg22 (Mem.own1 0 rf rf)) ?_
 refine zD hF (y_len rf Tryz.runUnderlying22) ?_
 refine WS_newS hF rf (y_buildSliceL bs22_1_0 rf) (fun b2 => ?_)
 refine zD hF (y_callL rf rf Tryz.call52 (fun w hw => cin_any _ _ _ _ _ _ w dc (by first | exact Ints.one 0 rfl w hw | exact Ints.two 0 rfl w hw))) ?_
 refine zm (.bool _) hF ?_
 refine WS_split 8 rf (fun g1_5 => ?_) (fun g1_5 => ?_)
 ·
  try simp only [qz1, qz2, qz3, qz4, qz5, qz6, qz7, qz8] at g1_5
  refine zD hF (y_fieldAddr rf fa24_1) ?_
  refine zD hF (y_load1 rf Tryz.isAgg22 (Mem.own1 1 rf rf)) ?_
  refine zD hF (y_len rf Tryz.runUnderlying22) ?_
  refine zD hF (y_fieldAddr rf fa24_0) ?_
  refine zD hF (y_load1 rf Tryz.isAgg22 (Mem.own1 1 rf rf)) ?_
  refine zD hF (y_len rf Tryz.runUnderlying22) ?_
  refine zD hF (y_eql rf rf) ?_
  refine zD hF (zpk (.bool _)) ?_
  refine za (.bool _) hF ?_
  refine zN ?_
  refine W_ret ?_
  refine Fin_ret [.bool _] [] Tryz.results190 ⟨by rfl, trivial⟩ HSub.nil ?_
  show Value.bool _ = _
  unfold Cn.chkB
  simp [*] <;> omega
 ·
  try simp only [qz1, qz2, qz3, qz4, qz5, qz6, qz7, qz8] at g1_5
  refine zno hF ?_
  refine zno hF ?_
  refine zno hF ?_
  refine zno hF ?_
  refine zno hF ?_
  refine zno hF ?_
  refine zno hF ?_
  refine zD hF (zpk (.bool _)) ?_
  refine za (.bool _) hF ?_
  refine zN ?_
  refine W_ret ?_
  refine Fin_ret [.bool _] [] Tryz.results190 ⟨by rfl, trivial⟩ HSub.nil ?_
  show Value.bool _ = _
  unfold Cn.chkB
  simp [*] <;> omega
theorem chk2_any (c : Cn) (a1 : Option Addr) (p1 : Nat) (a2 : Option Addr) (p2 : Nat) (w : World) (hn : c.n ≤ 1000000) (hm : c.inn.length ≤ 1000000) (h1 : Ints w a1 c.n p1 c.sz) (h2 : Ints w a2 c.inn.length p2 c.inn) : Ct Tryz.prog 191 #[.agg #[.slice a1 c.n p1, .slice a2 c.inn.length p2, .int .i64 c.st]] w fun v _ => v = .bool (c.chkB 1) := by
 have hF := wide_wide
 refine Ct_start (args := [_]) Tryz.func191 rf Tryz.ntmps191 rf ?_
 refine zR fun ds => ?_
 refine WS_new hF rf (y_box rf) (fun b1 => ?_)
 refine za (.bool _) hF ?_
 refine zP fun ds => ?_
 refine zD hF (y_fieldAddr rf fa24_0) ?_
 refine zD hF (y_load1 rf Tryz.isAgg22 (Mem.own1 0 rf rf)) ?_
 refine zD hF (y_callL rf rf Tryz.call52 (fun w hw => cin_any _ _ _ _ _ _ w om0 (h1.st w hw))) ?_
 refine zm (.bool _) hF ?_
 refine WS_split 6 rf (fun g1_3 => ?_) (fun g1_3 => ?_)
 ·
  try simp only [qz1, qz2, qz3, qz4, qz5, qz6, qz7, qz8] at g1_3
  refine zD hF (y_fieldAddr rf fa24_2) ?_
  refine zD hF (y_load1 rf Tryz.isAgg3 (Mem.own1 0 rf rf)) ?_
  refine WS_newS hF rf (y_buildSliceL bs22_1_0 rf) (fun b2 => ?_)
  refine zD hF (y_callL rf rf Tryz.call52 (fun w hw => cin_any _ _ _ _ _ _ w dc (by first | exact Ints.one 0 rfl w hw | exact Ints.two 0 rfl w hw))) ?_
  refine zD hF (zpk (.bool _)) ?_
  refine za (.bool _) hF ?_
  refine zN ?_
  refine W_ret ?_
  refine Fin_ret [.bool _] [] Tryz.results191 ⟨by rfl, trivial⟩ HSub.nil ?_
  show Value.bool _ = _
  unfold Cn.chkB
  simp [*]
 ·
  try simp only [qz1, qz2, qz3, qz4, qz5, qz6, qz7, qz8] at g1_3
  refine zno hF ?_
  refine zno hF ?_
  refine zno hF ?_
  refine zno hF ?_
  refine zD hF (zpk (.bool _)) ?_
  refine za (.bool _) hF ?_
  refine zN ?_
  refine W_ret ?_
  refine Fin_ret [.bool _] [] Tryz.results191 ⟨by rfl, trivial⟩ HSub.nil ?_
  show Value.bool _ = _
  unfold Cn.chkB
  simp [*]
theorem chk3_any (c : Cn) (a1 : Option Addr) (p1 : Nat) (a2 : Option Addr) (p2 : Nat) (w : World) (hl : c.inn.length = c.n) (hn : c.n ≤ 1000000) (hm : c.inn.length ≤ 1000000) (h1 : Ints w a1 c.n p1 c.sz) (h2 : Ints w a2 c.inn.length p2 c.inn) : Ct Tryz.prog 192 #[.agg #[.slice a1 c.n p1, .slice a2 c.inn.length p2, .int .i64 c.st]] w fun v _ => v = .bool (c.chkB 2) := by
 have hF := wide_wide
 refine Ct_start (args := [_]) Tryz.func192 rf Tryz.ntmps192 rf ?_
 refine zR fun ds => ?_
 refine WS_new hF rf (y_box rf) (fun b1 => ?_)
 refine za (.bool _) hF ?_
 refine zO ?_
 refine zR fun ds => ?_
 refine zD hF (y_fieldAddr rf fa24_0) ?_
 refine zD hF (y_load1 rf Tryz.isAgg22 (Mem.own1 0 rf rf)) ?_
 refine zD hF (y_len rf Tryz.runUnderlying22) ?_
 refine zm (.int .i64 _) hF ?_
 refine zN ?_
 refine W_block ?_
 refine W_loop (γ := Nat) (fun k => k ≤ c.n ∧ c.fitB k = true) (fun k => [(1, .pointer (some ⟨b1, 0, none⟩)), (6, .slice a1 c.n p1), (7, .int .i64 (c.n : Int)), (8, .int .i64 (k : Int))]) (fun _ => _) (fun k => c.n - k) (0) ⟨Nat.zero_le _, rfl⟩ s10 (List.Sublist.refl _) ?_
 rintro k e ⟨hk, hfit⟩
 refine zR fun ds => ?_
 refine zD hF (y_lss rf rf) ?_
 refine zO ?_
 refine W_cond rf (fun c2 => ?_) (fun c2 => ?_)
 ·
  try simp only [qz1, qz2, qz3, qz4, qz5, qz6, qz7, qz8] at c2
  obtain ⟨b, o, rfl, hc⟩ := h1.cell k om0
  obtain ⟨b', o', rfl, hc'⟩ := h2.cell k om0
  change At w b _ [.int .i64 (c.s k)] at hc
  change At w b' _ [.int .i64 (c.i k)] at hc'
  refine zU ?_
  refine W_seq ?_
  refine W_block ?_
  refine zR fun ds => ?_
  refine zm (.int .i64 _) hF ?_
  refine zD hF (y_index (k := k) rf rf r10 d10 Tryz.runUnderlying22 Tryz.sizeOf3) ?_
  refine zD hF (y_load1 rf Tryz.isAgg3 zo) ?_
  refine za (.int .i64 _) hF ?_
  refine za (.int .i64 _) hF ?_
  refine zP fun ds => ?_
  refine zm (.int .i64 _) hF ?_
  refine zD hF (y_fieldAddr rf fa24_1) ?_
  refine zD hF (y_load1 rf Tryz.isAgg22 (Mem.own1 0 rf rf)) ?_
  refine zm (.int .i64 _) hF ?_
  refine zD hF (y_index (k := k) rf rf r10 d10 Tryz.runUnderlying22 Tryz.sizeOf3) ?_
  refine zD hF (y_load1 rf Tryz.isAgg3 zo) ?_
  refine WS_newS hF rf (y_buildSliceL bs22_1_0 rf) (fun b2 => ?_)
  refine zD hF (y_callL rf rf Tryz.call52 (fun w hw => cin_any _ _ _ _ _ _ w dc (by first | exact Ints.one 0 rfl w hw | exact Ints.two 0 rfl w hw))) ?_
  refine zD hF (y_not rf) ?_
  refine zN ?_
  refine W_cond rf (fun c4 => ?_) (fun c4 => ?_)
  ·
   try simp only [qz1, qz2, qz3, qz4, qz5, qz6, qz7, qz8] at c4
   refine zR fun ds => ?_
   refine za (.bool _) hF ?_
   refine zN ?_
   refine W_ret ?_
   refine InB_ret ?_
   refine Then_ret ?_
   refine Loop_ret ?_
   refine InB_ret ?_
   refine Then_ret ?_
   refine Fin_ret [.bool _] [] Tryz.results192 ⟨by rfl, trivial⟩ HSub.nil ?_
   show Value.bool _ = _
   exact congrArg Value.bool (Cn.fitB_false (k := k) om0 c4).symm
  ·
   try simp only [qz1, qz2, qz3, qz4, qz5, qz6, qz7, qz8] at c4
   refine W_skip ?_
   refine InB_normal ?_
   refine zT fun ds => ?_
   refine zD hF (y_add rf rf ui) ?_
   refine zm (.int .i64 _) hF ?_
   refine WS_nil ?_
   exact Loop_next (k + 1) ⟨by omega, by rw [c.fitB_succ, hfit, c4]; rfl⟩ s10 s20 om0
 ·
  try simp only [qz1, qz2, qz3, qz4, qz5, qz6, qz7, qz8] at c2
  refine W_exit ?_
  refine Then_exit ?_
  refine Loop_exit ?_
  refine InB_same ?_
  refine zS fun ds => ?_
  refine za (.bool _) hF ?_
  refine zN ?_
  refine W_ret ?_
  refine Fin_ret [.bool _] [] Tryz.results192 ⟨by rfl, trivial⟩ HSub.nil ?_
  show Value.bool _ = _
  obtain rfl : k = c.n := by omega
  exact congrArg Value.bool hfit.symm
def chkF : Nat → FuncId
 | 0 => 190
 | 1 => 191
 | _ => 192
def chkV : List Value := [.func (.func 190) #[] #[], .func (.func 191) #[] #[], .func (.func 192) #[] #[]]
def Gv (w : World) : Prop := At w 0 0 chkV
theorem Gv.st {C : Ctx} {H : List Blk} (h : Gv C.w0) (w : World) (hw : St C H w) : Gv w := At.old hw.1 h
theorem chk_enter (k : Nat) : ∀ args w, (callFunc (chkF k) args).run Tryz.prog w = .ok (.enter (chkF k) args) w := by
 match k with
 | 0 => exact Tryz.call190
 | 1 => exact Tryz.call191
 | _ + 2 => exact Tryz.call192
theorem chk_part (k : Nat) (hk : k < 3) : ∀ w, (part 158 chkV.toArray (k * 1)).run Tryz.prog w = .ok (.agg #[.func (.func (chkF k)) #[] #[]]) w := by
 obtain rfl | rfl | rfl : k = 0 ∨ k = 1 ∨ k = 2 := by omega
 all_goals exact fun w => by kernel_rfl
theorem chk_any (k : Nat) (hk : k < 3) (c : Cn) (a1 : Option Addr) (p1 : Nat) (a2 : Option Addr) (p2 : Nat) (w : World) (hj : ∀ j, j < k → c.chkB j = true) (hn : c.n ≤ 1000000) (hm : c.inn.length ≤ 1000000) (h1 : Ints w a1 c.n p1 c.sz) (h2 : Ints w a2 c.inn.length p2 c.inn) : Ct Tryz.prog (chkF k) #[.agg #[.slice a1 c.n p1, .slice a2 c.inn.length p2, .int .i64 c.st]] w fun v _ => v = .bool (c.chkB k) := by
 obtain rfl | rfl | rfl : k = 0 ∨ k = 1 ∨ k = 2 := by omega
 ·exact chk1_any c a1 p1 a2 p2 w hn hm h1 h2
 ·exact chk2_any c a1 p1 a2 p2 w hn hm h1 h2
 ·refine chk3_any c a1 p1 a2 p2 w ?_ hn hm h1 h2
  have := hj 0 dc
  unfold Cn.chkB at this
  simp only [Bool.and_eq_true, decide_eq_true_eq] at this
  exact this.2
theorem Cn.okB_no {c : Cn} (h : ¬ c.Ok) : Value.bool false = Value.bool c.okB := by
 cases hb : c.okB with
 | false => rfl
 | true => exact absurd (Cn.ok_iff.1 hb) h
theorem Cn.okB_yes {c : Cn} (h : c.Ok) : Value.bool true = Value.bool c.okB := by rw [Cn.ok_iff.2 h]
theorem Cn.okB_chk (c : Cn) : c.okB = (c.chkB 0 && c.chkB 1 && c.chkB 2) := rfl
theorem Cn.err_bad {c : Cn} {k : Nat} (hk : k < 3) (h : c.chkB k = false) : c.err = 80 := by
 unfold Cn.err
 rw [c.okB_chk]
 obtain rfl | rfl | rfl : k = 0 ∨ k = 1 ∨ k = 2 := by omega
 all_goals simp [h]
theorem Cn.err_ok {c : Cn} (h : ∀ j, j < 3 → c.chkB j = true) : c.err = 0 := by
 unfold Cn.err
 rw [c.okB_chk, h 0 dc, h 1 dc, h 2 dc]
 rfl
theorem ccheck_any (c : Cn) (a1 : Option Addr) (p1 : Nat) (a2 : Option Addr) (p2 : Nat) (w : World) (hG : Gv w) (hn : c.n ≤ 1000000) (hm : c.inn.length ≤ 1000000) (h1 : Ints w a1 c.n p1 c.sz) (h2 : Ints w a2 c.inn.length p2 c.inn) : Ct Tryz.prog 47 #[.agg #[.slice a1 c.n p1, .slice a2 c.inn.length p2, .int .i64 c.st]] w fun v _ => v = .int .i64 c.err := by
 have hG0 : At w 0 0 chkV := hG
 have hF := wide_wide
 refine Ct_start (args := [_]) Tryz.func47 rf Tryz.ntmps47 rf ?_
 refine zR fun ds => ?_
 refine WS_new hF rf (y_box rf) (fun b1 => ?_)
 refine za (.int .i64 _) hF ?_
 refine zO ?_
 refine zR fun ds => ?_
 refine zD hF (y_loadN rf Tryz.isAgg159 Tryz.sizeOf159 (zq [_, _, _]) rf) ?_
 refine zm (.int .i64 _) hF ?_
 refine zN ?_
 refine W_block ?_
 refine W_loop (γ := Nat) (fun k => k ≤ 3 ∧ ∀ j, j < k → c.chkB j = true) (fun k => [(1, .pointer (some ⟨b1, 0, none⟩)), (5, .agg chkV.toArray), (6, .int .i64 (k : Int))]) (fun _ => _) (fun k => 3 - k) (0) ⟨Nat.zero_le _, fun j h => absurd h (Nat.not_lt_zero _)⟩ s10 (List.Sublist.refl _) ?_
 rintro k e ⟨hk, hj⟩
 refine zR fun ds => ?_
 refine zD hF (y_lss rf rf) ?_
 refine zO ?_
 refine W_cond rf (fun c2 => ?_) (fun c2 => ?_)
 ·
  try simp only [qz1, qz2, qz3, qz4, qz5, qz6, qz7, qz8] at c2
  refine zU ?_
  refine W_seq ?_
  refine W_block ?_
  refine zR fun ds => ?_
  refine zD hF (y_indexV (k := k) rf rf rf om0 Tryz.runUnderlying159 Tryz.sizeOf158 (chk_part k om0)) ?_
  refine WS_new hF rf (y_alloc Tryz.zeroValue158 rf) (fun b2 => ?_)
  refine WS_store hF (i := 0) rf rf Tryz.sizeOf158 rf rf rf d20 ?_
  refine zP fun ds => ?_
  refine zD hF (y_fieldAddr rf fa158_0) ?_
  refine zD hF (y_load1 rf Tryz.isAgg27 (Mem.own1 0 rf rf)) ?_
  refine zD hF (y_loadN rf Tryz.isAgg24 Tryz.sizeOf24 (Mem.own (us := [.slice _ _ _, .slice _ _ _, .int .i64 _]) 1 rf rf) rf) ?_
  refine zD hF (y_callL (first := []) (captured := []) rf rf (chk_enter k) (fun w hw => chk_any k om0 c a1 p1 a2 p2 w hj hn hm (h1.st w hw) (h2.st w hw))) ?_
  refine zD hF (y_not rf) ?_
  refine zN ?_
  refine W_cond rf (fun c4 => ?_) (fun c4 => ?_)
  ·
   try simp only [qz1, qz2, qz3, qz4, qz5, qz6, qz7, qz8] at c4
   refine zR fun ds => ?_
   refine za (.int .i64 _) hF ?_
   refine zN ?_
   refine W_ret ?_
   refine InB_ret ?_
   refine Then_ret ?_
   refine Loop_ret ?_
   refine InB_ret ?_
   refine Then_ret ?_
   refine Fin_ret [.int .i64 _] [] Tryz.results47 ⟨by rfl, trivial⟩ HSub.nil ?_
   show Value.int _ _ = _
   rw [Cn.err_bad om0 c4]
  ·
   try simp only [qz1, qz2, qz3, qz4, qz5, qz6, qz7, qz8] at c4
   refine W_skip ?_
   refine InB_normal ?_
   refine zT fun ds => ?_
   refine zD hF (y_add rf rf ui) ?_
   refine zm (.int .i64 _) hF ?_
   refine WS_nil ?_
   exact Loop_next (k + 1) ⟨by omega, fun j hj2 => by by_cases h : j = k; (subst h; exact c4); exact hj j om0⟩ s10 s20 om0
 ·
  try simp only [qz1, qz2, qz3, qz4, qz5, qz6, qz7, qz8] at c2
  refine W_exit ?_
  refine Then_exit ?_
  refine Loop_exit ?_
  refine InB_same ?_
  refine zS fun ds => ?_
  refine za (.int .i64 _) hF ?_
  refine zN ?_
  refine W_ret ?_
  refine Fin_ret [.int .i64 _] [] Tryz.results47 ⟨by rfl, trivial⟩ HSub.nil ?_
  show Value.int _ _ = _
  rw [Cn.err_ok fun j h => hj j om0]
theorem bd24_0_1_2 {x0a : Option Addr} {x0l x0c : Nat} {x1a : Option Addr} {x1l x1c : Nat} {x2 : Int} : ∀ w, (Instr.build 24 #[(0, .slice x0a x0l x0c), (1, .slice x1a x1l x1c), (2, .int .i64 x2)]).run Tryz.prog w = .ok (.agg #[.slice x0a x0l x0c, .slice x1a x1l x1c, .int .i64 x2]) w := fun w => by kernel_rfl
theorem fa47_0 : ∀ b o w, (Instr.fieldAt 47 (.pointer (some ⟨b, o, none⟩)) 0).run Tryz.prog w = .ok (.pointer (some ⟨b, o + 0, none⟩)) w := fun b o w => by kernel_rfl
theorem fa47_1 : ∀ b o w, (Instr.fieldAt 47 (.pointer (some ⟨b, o, none⟩)) 1).run Tryz.prog w = .ok (.pointer (some ⟨b, o + 1, none⟩)) w := fun b o w => by kernel_rfl
theorem sameInts2_any (a a' : Option Addr) (n n' cap cap' : Nat) (xs ys : List Int) (w : World) (hn : n ≤ 1000000) (hx : Ints w a n cap xs) (hy : Ints w a' n' cap' ys) :
  Ct Tryz.prog 23 #[.slice a n cap, .slice a' n' cap'] w fun v _ => v = .bool (decide (xs = ys)) := by
 have hF := wide_wide
 refine Ct_start (args := [_, _]) Tryz.func23 rf Tryz.ntmps23 rf ?_
 refine zR fun ds => ?_
 refine za (.bool _) hF ?_
 refine zO ?_
 refine zR fun ds => ?_
 refine zm (.slice _ _ _) hF ?_
 refine zD hF (y_len rf Tryz.runUnderlying22) ?_
 refine zm (.slice _ _ _) hF ?_
 refine zD hF (y_len rf Tryz.runUnderlying22) ?_
 refine zD hF (y_neq rf rf) ?_
 refine zN ?_
 refine W_cond rf (fun c1 => ?_) (fun c1 => ?_)
 ·
  try simp only [qz1, qz2, qz3, qz4, qz5, qz6, qz7, qz8] at c1
  refine zR fun ds => ?_
  refine za (.bool _) hF ?_
  refine zN ?_
  refine W_ret ?_
  refine Then_ret ?_
  refine Fin_ret [.bool _] [] Tryz.results23 ⟨by rfl, trivial⟩ HSub.nil ?_
  show Value.bool _ = _
  rw [decide_eq_false]
  intro h
  have h1 := hx.len
  have h2 := hy.len
  rw [h] at h1
  omega
 ·
  try simp only [qz1, qz2, qz3, qz4, qz5, qz6, qz7, qz8] at c1
  obtain rfl : n = n' := by omega
  refine zU ?_
  refine W_seq ?_
  refine zR fun ds => ?_
  refine za (.int .i64 _) hF ?_
  refine zN ?_
  refine W_block ?_
  refine W_loop (γ := Nat) (fun k => k ≤ n ∧ ∀ j, j < k → xs.getD j 0 = ys.getD j 0) (fun k => [(5, .int .i64 (k : Int)), (0, .slice a n cap), (1, .slice a' n cap')]) (fun _ => _) (fun k => n - k) (0) ⟨Nat.zero_le _, fun j h => absurd h (Nat.not_lt_zero _)⟩ s10 (List.Sublist.refl _) ?_
  rintro k e ⟨hk, hj⟩
  refine W_seq ?_
  refine zR fun ds => ?_
  refine zm (.int .i64 _) hF ?_
  refine zm (.slice _ _ _) hF ?_
  refine zD hF (y_len rf Tryz.runUnderlying22) ?_
  refine zD hF (y_lss rf rf) ?_
  refine zN ?_
  refine W_cond rf (fun c4 => ?_) (fun c4 => ?_)
  ·
   try simp only [qz1, qz2, qz3, qz4, qz5, qz6, qz7, qz8] at c4
   obtain ⟨b, o, rfl, h1⟩ := hx.cell k om0
   obtain ⟨b', o', rfl, h2⟩ := hy.cell k om0
   refine zU ?_
   refine W_seq ?_
   refine W_block ?_
   refine W_seq ?_
   refine W_draw0 hF Tryzmixed [] dk0 (fun ds => ?_)
   refine P_det rf (Over_nil (y_move (c := .slice _ _ _) rf)) ?_
   refine P_det rf (Over_nil (y_move (c := .int .i64 _) rf)) ?_
   refine P_det rf (Over_nil (y_index (k := k) rf rf r10 d10 Tryz.runUnderlying22 Tryz.sizeOf3)) ?_
   refine P_det rf (Over_nil (y_load1 rf Tryz.isAgg3 zo)) ?_
   refine P_det rf (Over_nil (y_move (c := .slice _ _ _) rf)) ?_
   refine P_det rf (Over_nil (y_move (c := .int .i64 _) rf)) ?_
   refine P_det rf (Over_nil (y_index (k := k) rf rf r10 d10 Tryz.runUnderlying22 Tryz.sizeOf3)) ?_
   refine P_det rf (Over_nil (y_load1 rf Tryz.isAgg3 zo)) ?_
   refine P_det rf (Over_nil (y_neq rf rf)) ?_
   refine PW_end rf ?_
   refine OverAll_nil ?_
   rintro -
   refine Then_normal ?_
   refine W_cond rf (fun c6 => ?_) (fun c6 => ?_)
   ·
    try simp only [qz1, qz2, qz3, qz4, qz5, qz6, qz7, qz8] at c6
    refine zR fun ds => ?_
    refine za (.bool _) hF ?_
    refine zN ?_
    refine W_ret ?_
    refine InB_ret ?_
    refine Then_ret ?_
    refine Loop_ret ?_
    refine InB_ret ?_
    refine Then_ret ?_
    refine Fin_ret [.bool _] [] Tryz.results23 ⟨by rfl, trivial⟩ HSub.nil ?_
    show Value.bool _ = _
    rw [decide_eq_false]
    intro h
    exact c6 (by rw [h])
   ·
    try simp only [qz1, qz2, qz3, qz4, qz5, qz6, qz7, qz8] at c6
    refine W_skip ?_
    refine InB_normal ?_
    refine zT fun ds => ?_
    refine zm (.int .i64 _) hF ?_
    refine zD hF (y_add rf rf ui) ?_
    refine za (.int .i64 _) hF ?_
    refine WS_nil ?_
    exact Loop_next (k + 1) ⟨by omega, fun j h => by by_cases hjk : j = k; (subst hjk; exact c6); exact hj j om0⟩ s10 s20 om0
  ·
   try simp only [qz1, qz2, qz3, qz4, qz5, qz6, qz7, qz8] at c4
   refine W_exit ?_
   refine Then_exit ?_
   refine Loop_exit ?_
   refine InB_same ?_
   refine zS fun ds => ?_
   refine za (.bool _) hF ?_
   refine zN ?_
   refine W_ret ?_
   refine Fin_ret [.bool _] [] Tryz.results23 ⟨by rfl, trivial⟩ HSub.nil ?_
   show Value.bool _ = _
   rw [decide_eq_true]
   have hkn : k = n := by omega
   subst hkn
   refine List.ext_getElem (hx.len.trans hy.len.symm) fun j h1 h2 => ?_
   have := hj j (by rw [← hx.len]; exact h1)
   simpa [List.getD_eq_getElem?_getD, h1, h2] using this
theorem rwi_any (n lo hi : Int) (w : World) : Ct Tryz.prog 76 #[.int .i64 n, .int .i64 lo, .int .i64 hi] w fun v _ => v = .bool (inB lo hi [n]) := by
 have hF := wide_wide
 refine Ct_start (args := [_, _, _]) Tryz.func76 rf Tryz.ntmps76 rf ?_
 refine zR fun ds => ?_
 refine za (.bool _) hF ?_
 refine zP fun ds => ?_
 refine zm (.int .i64 _) hF ?_
 refine zm (.int .i64 _) hF ?_
 refine zD hF (y_geq rf rf) ?_
 refine zm (.bool _) hF ?_
 refine WS_split 10 rf (fun g1_3 => ?_) (fun g1_3 => ?_)
 ·
  try simp only [qz1, qz2, qz3, qz4, qz5, qz6, qz7, qz8] at g1_3
  refine zm (.int .i64 _) hF ?_
  refine zm (.int .i64 _) hF ?_
  refine zD hF (y_leq rf rf) ?_
  refine zD hF (zpk (.bool _)) ?_
  refine za (.bool _) hF ?_
  refine zN ?_
  refine W_ret ?_
  refine Fin_ret [.bool _] [] Tryz.results76 ⟨by rfl, trivial⟩ HSub.nil ?_
  show Value.bool _ = .bool (inB lo hi [n])
  congr 1
  rw [Bool.eq_iff_iff, inB1]
  try simp only [decide_eq_true_eq, Bool.false_eq_true, false_iff]
  omega
 ·
  try simp only [qz1, qz2, qz3, qz4, qz5, qz6, qz7, qz8] at g1_3
  refine zno hF ?_
  refine zno hF ?_
  refine zno hF ?_
  refine zD hF (zpk (.bool _)) ?_
  refine za (.bool _) hF ?_
  refine zN ?_
  refine W_ret ?_
  refine Fin_ret [.bool _] [] Tryz.results76 ⟨by rfl, trivial⟩ HSub.nil ?_
  show Value.bool _ = .bool (inB lo hi [n])
  congr 1
  rw [Bool.eq_iff_iff, inB1]
  try simp only [decide_eq_true_eq, Bool.false_eq_true, false_iff]
  omega
theorem rcans_any (c : Cn) (a1 : Option Addr) (p1 : Nat) (a2 : Option Addr) (p2 : Nat) (w : World) (hn : c.n ≤ 1000000) (hm : c.inn.length ≤ 1000000) (h1 : Ints w a1 c.n p1 c.sz) (h2 : Ints w a2 c.inn.length p2 c.inn) : Ct Tryz.prog 31 #[.agg #[.slice a1 c.n p1, .slice a2 c.inn.length p2, .int .i64 c.st]] w fun v _ => v = .bool c.okB := by
 have hF := wide_wide
 refine Ct_start (args := [_]) Tryz.func31 rf Tryz.ntmps31 rf ?_
 refine zR fun ds => ?_
 refine WS_new hF rf (y_box rf) (fun b1 => ?_)
 refine za (.bool _) hF ?_
 refine zO ?_
 refine zR fun ds => ?_
 refine zD hF (y_fieldAddr rf fa24_0) ?_
 refine zD hF (y_load1 rf Tryz.isAgg22 (Mem.own1 0 rf rf)) ?_
 refine zD hF (y_len rf Tryz.runUnderlying22) ?_
 refine zD hF (y_callL rf rf Tryz.call76 (fun w hw => rwi_any _ _ _ w)) ?_
 refine zD hF (y_not rf) ?_
 refine zm (.bool _) hF ?_
 refine WS_split 9 rf (fun g1_5 => ?_) (fun g1_5 => ?_)
 ·
  try simp only [qz1, qz2, qz3, qz4, qz5, qz6, qz7, qz8] at g1_5
  refine zno hF ?_
  refine zno hF ?_
  refine zno hF ?_
  refine zno hF ?_
  refine zno hF ?_
  refine zno hF ?_
  refine zno hF ?_
  refine zD hF (zpk (.bool _)) ?_
  refine zm (.bool _) hF ?_
  refine zno hF ?_
  refine zno hF ?_
  refine zno hF ?_
  refine zno hF ?_
  refine zD hF (zpk (.bool _)) ?_
  refine zN ?_
  refine W_cond rf (fun c1 => ?_) (fun c1 => ?_)
  ·
   try simp only [qz1, qz2, qz3, qz4, qz5, qz6, qz7, qz8] at c1
   refine zR fun ds => ?_
   refine za (.bool _) hF ?_
   refine zN ?_
   refine W_ret ?_
   refine Then_ret ?_
   refine Fin_ret [.bool _] [] Tryz.results31 ⟨by rfl, trivial⟩ HSub.nil ?_
   refine Cn.okB_no fun h => ?_
   have := h.n1
   have := h.n3
   have := h.len
   first
    | exact absurd ⟨by omega, by omega⟩ (inB1f.1 g1_5)
    | exact absurd h.len om0
    | exact absurd ⟨h.st0, h.st1⟩ (inB1f.1 c1)
    | exact absurd (h.s k om0) (inB1f.1 g6_7)
    | exact absurd (h.i k om0) (inB1f.1 c6)
  ·cases c1
 ·
  try simp only [qz1, qz2, qz3, qz4, qz5, qz6, qz7, qz8] at g1_5
  refine zD hF (y_fieldAddr rf fa24_1) ?_
  refine zD hF (y_load1 rf Tryz.isAgg22 (Mem.own1 0 rf rf)) ?_
  refine zD hF (y_len rf Tryz.runUnderlying22) ?_
  refine zD hF (y_fieldAddr rf fa24_0) ?_
  refine zD hF (y_load1 rf Tryz.isAgg22 (Mem.own1 0 rf rf)) ?_
  refine zD hF (y_len rf Tryz.runUnderlying22) ?_
  refine zD hF (y_neq rf rf) ?_
  refine zD hF (zpk (.bool _)) ?_
  refine zm (.bool _) hF ?_
  refine WS_split 18 rf (fun g1_14 => ?_) (fun g1_14 => ?_)
  ·
   try simp only [qz1, qz2, qz3, qz4, qz5, qz6, qz7, qz8] at g1_14
   refine zno hF ?_
   refine zno hF ?_
   refine zno hF ?_
   refine zno hF ?_
   refine zD hF (zpk (.bool _)) ?_
   refine zN ?_
   refine W_cond rf (fun c1 => ?_) (fun c1 => ?_)
   ·
    try simp only [qz1, qz2, qz3, qz4, qz5, qz6, qz7, qz8] at c1
    refine zR fun ds => ?_
    refine za (.bool _) hF ?_
    refine zN ?_
    refine W_ret ?_
    refine Then_ret ?_
    refine Fin_ret [.bool _] [] Tryz.results31 ⟨by rfl, trivial⟩ HSub.nil ?_
    refine Cn.okB_no fun h => ?_
    have := h.n1
    have := h.n3
    have := h.len
    first
     | exact absurd ⟨by omega, by omega⟩ (inB1f.1 g1_5)
     | exact absurd h.len om0
     | exact absurd ⟨h.st0, h.st1⟩ (inB1f.1 c1)
     | exact absurd (h.s k om0) (inB1f.1 g6_7)
     | exact absurd (h.i k om0) (inB1f.1 c6)
   ·cases c1
  ·
   try simp only [qz1, qz2, qz3, qz4, qz5, qz6, qz7, qz8] at g1_14
   refine zD hF (y_fieldAddr rf fa24_2) ?_
   refine zD hF (y_load1 rf Tryz.isAgg3 (Mem.own1 0 rf rf)) ?_
   refine zD hF (y_callL rf rf Tryz.call76 (fun w hw => rwi_any _ _ _ w)) ?_
   refine zD hF (y_not rf) ?_
   refine zD hF (zpk (.bool _)) ?_
   refine zN ?_
   refine W_cond rf (fun c1 => ?_) (fun c1 => ?_)
   ·
    try simp only [qz1, qz2, qz3, qz4, qz5, qz6, qz7, qz8] at c1
    refine zR fun ds => ?_
    refine za (.bool _) hF ?_
    refine zN ?_
    refine W_ret ?_
    refine Then_ret ?_
    refine Fin_ret [.bool _] [] Tryz.results31 ⟨by rfl, trivial⟩ HSub.nil ?_
    refine Cn.okB_no fun h => ?_
    have := h.n1
    have := h.n3
    have := h.len
    first
     | exact absurd ⟨by omega, by omega⟩ (inB1f.1 g1_5)
     | exact absurd h.len om0
     | exact absurd ⟨h.st0, h.st1⟩ (inB1f.1 c1)
     | exact absurd (h.s k om0) (inB1f.1 g6_7)
     | exact absurd (h.i k om0) (inB1f.1 c6)
   ·
    try simp only [qz1, qz2, qz3, qz4, qz5, qz6, qz7, qz8] at c1
    have hlen : c.inn.length = c.n := by omega
    refine zU ?_
    refine W_seq ?_
    refine zR fun ds => ?_
    refine za (.int .i64 _) hF ?_
    refine zN ?_
    refine W_block ?_
    refine W_loop (γ := Nat) (fun k => k ≤ c.n ∧ ∀ j, j < k → (1 ≤ c.s j ∧ c.s j ≤ 20) ∧ 0 ≤ c.i j ∧ c.i j ≤ c.s j) (fun k => [(1, .pointer (some ⟨b1, 0, none⟩)), (3, .int .i64 (k : Int))]) (fun _ => _) (fun k => c.n - k) (0) ⟨Nat.zero_le _, fun j h => absurd h (Nat.not_lt_zero _)⟩ s10 (List.Sublist.refl _) ?_
    rintro k e ⟨hk, hj⟩
    refine W_seq ?_
    refine zR fun ds => ?_
    refine zm (.int .i64 _) hF ?_
    refine zD hF (y_fieldAddr rf fa24_0) ?_
    refine zD hF (y_load1 rf Tryz.isAgg22 (Mem.own1 0 rf rf)) ?_
    refine zD hF (y_len rf Tryz.runUnderlying22) ?_
    refine zD hF (y_lss rf rf) ?_
    refine zN ?_
    refine W_cond rf (fun c4 => ?_) (fun c4 => ?_)
    ·
     try simp only [qz1, qz2, qz3, qz4, qz5, qz6, qz7, qz8] at c4
     obtain ⟨b, o, rfl, hc⟩ := h1.cell k om0
     obtain ⟨b', o', rfl, hc'⟩ := h2.cell k om0
     change At w b _ [.int .i64 (c.s k)] at hc
     change At w b' _ [.int .i64 (c.i k)] at hc'
     refine zU ?_
     refine W_seq ?_
     refine W_block ?_
     refine W_seq ?_
     refine W_draw0 hF Tryzmixed [] dk0 (fun ds => ?_)
     refine P_det rf (Over_nil (y_fieldAddr rf fa24_0)) ?_
     refine P_det rf (Over_nil (y_load1 rf Tryz.isAgg22 (Mem.own1 0 rf rf))) ?_
     refine P_det rf (Over_nil (y_move (c := .int .i64 _) rf)) ?_
     refine P_det rf (Over_nil (y_index (k := k) rf rf r10 d10 Tryz.runUnderlying22 Tryz.sizeOf3)) ?_
     refine P_det rf (Over_nil (y_load1 rf Tryz.isAgg3 zo)) ?_
     refine P_det rf (Over_nil (y_callL rf rf Tryz.call76 (fun w hw => rwi_any _ _ _ w))) ?_
     refine P_det rf (Over_nil (y_not rf)) ?_
     refine P_det rf (Over_nil (y_move (c := .bool _) rf)) ?_
     refine P_split 38 rf (fun g6_7 => ?_) (fun g6_7 => ?_)
     ·
      try simp only [qz1, qz2, qz3, qz4, qz5, qz6, qz7, qz8] at g6_7
      refine P_no rf ?_
      refine P_no rf ?_
      refine P_no rf ?_
      refine P_no rf ?_
      refine P_no rf ?_
      refine P_no rf ?_
      refine P_no rf ?_
      refine P_no rf ?_
      refine P_no rf ?_
      refine P_no rf ?_
      refine P_no rf ?_
      refine P_no rf ?_
      refine P_det rf (Over_nil (by first | exact y_pick_t (c := .bool _) rf rf | exact y_pick_f (c := .bool _) rf rf)) ?_
      refine PW_end rf ?_
      refine OverAll_nil ?_
      rintro -
      refine Then_normal ?_
      refine W_cond rf (fun c6 => ?_) (fun c6 => ?_)
      ·
       try simp only [qz1, qz2, qz3, qz4, qz5, qz6, qz7, qz8] at c6
       refine zR fun ds => ?_
       refine za (.bool _) hF ?_
       refine zN ?_
       refine W_ret ?_
       refine InB_ret ?_
       refine Then_ret ?_
       refine Loop_ret ?_
       refine InB_ret ?_
       refine Then_ret ?_
       refine Fin_ret [.bool _] [] Tryz.results31 ⟨by rfl, trivial⟩ HSub.nil ?_
       refine Cn.okB_no fun h => ?_
       have := h.n1
       have := h.n3
       have := h.len
       first
        | exact absurd ⟨by omega, by omega⟩ (inB1f.1 g1_5)
        | exact absurd h.len om0
        | exact absurd ⟨h.st0, h.st1⟩ (inB1f.1 c1)
        | exact absurd (h.s k om0) (inB1f.1 g6_7)
        | exact absurd (h.i k om0) (inB1f.1 c6)
      ·cases c6
     ·
      try simp only [qz1, qz2, qz3, qz4, qz5, qz6, qz7, qz8] at g6_7
      refine P_det rf (Over_nil (y_fieldAddr rf fa24_1)) ?_
      refine P_det rf (Over_nil (y_load1 rf Tryz.isAgg22 (Mem.own1 0 rf rf))) ?_
      refine P_det rf (Over_nil (y_move (c := .int .i64 _) rf)) ?_
      refine P_det rf (Over_nil (y_index (k := k) rf rf r10 d10 Tryz.runUnderlying22 Tryz.sizeOf3)) ?_
      refine P_det rf (Over_nil (y_load1 rf Tryz.isAgg3 zo)) ?_
      refine P_det rf (Over_nil (y_fieldAddr rf fa24_0)) ?_
      refine P_det rf (Over_nil (y_load1 rf Tryz.isAgg22 (Mem.own1 0 rf rf))) ?_
      refine P_det rf (Over_nil (y_move (c := .int .i64 _) rf)) ?_
      refine P_det rf (Over_nil (y_index (k := k) rf rf r10 d10 Tryz.runUnderlying22 Tryz.sizeOf3)) ?_
      refine P_det rf (Over_nil (y_load1 rf Tryz.isAgg3 zo)) ?_
      refine P_det rf (Over_nil (y_callL rf rf Tryz.call76 (fun w hw => rwi_any _ _ _ w))) ?_
      refine P_det rf (Over_nil (y_not rf)) ?_
      refine P_det rf (Over_nil (by first | exact y_pick_t (c := .bool _) rf rf | exact y_pick_f (c := .bool _) rf rf)) ?_
      refine PW_end rf ?_
      refine OverAll_nil ?_
      rintro -
      refine Then_normal ?_
      refine W_cond rf (fun c6 => ?_) (fun c6 => ?_)
      ·
       try simp only [qz1, qz2, qz3, qz4, qz5, qz6, qz7, qz8] at c6
       refine zR fun ds => ?_
       refine za (.bool _) hF ?_
       refine zN ?_
       refine W_ret ?_
       refine InB_ret ?_
       refine Then_ret ?_
       refine Loop_ret ?_
       refine InB_ret ?_
       refine Then_ret ?_
       refine Fin_ret [.bool _] [] Tryz.results31 ⟨by rfl, trivial⟩ HSub.nil ?_
       refine Cn.okB_no fun h => ?_
       have := h.n1
       have := h.n3
       have := h.len
       first
        | exact absurd ⟨by omega, by omega⟩ (inB1f.1 g1_5)
        | exact absurd h.len om0
        | exact absurd ⟨h.st0, h.st1⟩ (inB1f.1 c1)
        | exact absurd (h.s k om0) (inB1f.1 g6_7)
        | exact absurd (h.i k om0) (inB1f.1 c6)
      ·
       try simp only [qz1, qz2, qz3, qz4, qz5, qz6, qz7, qz8] at c6
       have hs : 1 ≤ c.s k ∧ c.s k ≤ 20 := inB1.1 g6_7
       have hi : 0 ≤ c.i k ∧ c.i k ≤ c.s k := inB1.1 c6
       refine W_skip ?_
       refine InB_normal ?_
       refine zT fun ds => ?_
       refine zm (.int .i64 _) hF ?_
       refine zD hF (y_add rf rf ui) ?_
       refine za (.int .i64 _) hF ?_
       refine WS_nil ?_
       exact Loop_next (k + 1) ⟨by omega, fun j h => by by_cases hjk : j = k; (subst hjk; exact ⟨hs, hi⟩); exact hj j om0⟩ s10 s20 om0
    ·
     try simp only [qz1, qz2, qz3, qz4, qz5, qz6, qz7, qz8] at c4
     refine W_exit ?_
     refine Then_exit ?_
     refine Loop_exit ?_
     refine InB_same ?_
     refine zS fun ds => ?_
     refine za (.bool _) hF ?_
     refine zN ?_
     refine W_ret ?_
     refine Fin_ret [.bool _] [] Tryz.results31 ⟨by rfl, trivial⟩ HSub.nil ?_
     refine Cn.okB_yes ⟨?_, ?_, hlen, (inB1.1 c1).1, (inB1.1 c1).2, fun j h => (hj j om0).1, fun j h => (hj j om0).2⟩
     ·have := inB1.1 g1_5; omega
     ·have := inB1.1 g1_5; omega
def TwinC (c : Cn) (v : Value) (Hn : List Blk) : Prop :=
 ∃ b1 q1 b2 q2 H1 H2, v = .agg #[.slice b1 c.n q1, .slice b2 c.inn.length q2, .int .i64 c.st] ∧ NewRow 3 1 c.n (iv c.sz) (.slice b1 c.n q1) H1 ∧ NewRow 3 1 c.inn.length (iv c.inn) (.slice b2 c.inn.length q2) H2 ∧ Hn = H1 ++ H2
theorem iv_len (xs : List Int) : (iv xs).length = xs.length * 1 := by rw [Nat.mul_one]; exact List.length_map _
theorem rctwin_any (c : Cn) (a1 : Option Addr) (p1 : Nat) (a2 : Option Addr) (p2 : Nat) (w : World) (hn : c.n ≤ 1000000) (hm : c.inn.length ≤ 1000000) (h1 : Ints w a1 c.n p1 c.sz) (h2 : Ints w a2 c.inn.length p2 c.inn) : Ct Tryz.prog 65 #[.agg #[.slice a1 c.n p1, .slice a2 c.inn.length p2, .int .i64 c.st]] w (TwinC c) := by
 have hn' : c.sz.length ≤ 1000000 := hn
 have hF := wide_wide
 refine Ct_start (args := [_]) Tryz.func65 rf Tryz.ntmps65 rf ?_
 refine zR fun ds => ?_
 refine WS_new hF rf (y_box rf) (fun b1 => ?_)
 refine WS_new hF rf (y_alloc Tryz.zeroValue24 rf) (fun b2 => ?_)
 refine zO ?_
 apply W_draw1D hF Tryzmixed [1000000] 13 _ (i := 0) rf dk0
 intro ds
 refine P_new rf rf (Over_out rf (Over_nil (y_buildSliceL bs22_0 rf))) ?_
 refine P_det rf (Over_out rf (Over_out rf (Over_nil (y_fieldAddr rf fa24_0)))) ?_
 refine P_det rf (Over_out rf (Over_out rf (Over_nil (y_load1 rf Tryz.isAgg22 (Mem.own1 0 rf rf))))) ?_
 refine P_new rf rf (Over_in rf (Over_out rf (Over_nil (by rintro _ _ ⟨b4, rfl, rfl⟩; exact (y_append0 rf rf Tryz.underlying22 infInt rf h1.src (iv_len c.sz) om0 om0))))) ?_
 refine P_new rf rf (Over_out rf (Over_out rf (Over_out rf (Over_nil (y_buildSliceL bs22_0 rf))))) ?_
 refine P_det rf (Over_out rf (Over_out rf (Over_out rf (Over_out rf (Over_nil (y_fieldAddr rf fa24_1)))))) ?_
 refine P_det rf (Over_out rf (Over_out rf (Over_out rf (Over_out rf (Over_nil (y_load1 rf Tryz.isAgg22 (Mem.own1 0 rf rf))))))) ?_
 refine P_new rf rf (Over_in rf (Over_out rf (Over_out rf (Over_out rf (Over_nil (by rintro _ _ ⟨b7, rfl, rfl⟩; exact (y_append0 rf rf Tryz.underlying22 infInt rf h2.src (iv_len c.inn) om0 om0))))))) ?_
 refine P_det rf (Over_out rf (Over_out rf (Over_out rf (Over_out rf (Over_out rf (Over_nil (y_fieldAddr rf fa24_2))))))) ?_
 refine P_det rf (Over_out rf (Over_out rf (Over_out rf (Over_out rf (Over_out rf (Over_nil (y_load1 rf Tryz.isAgg3 (Mem.own1 0 rf rf)))))))) ?_
 refine P_ali [10, 6] (aggP [.inr 6, .inr 10, .inl _]) rf rf rf (aggP_congr rf) (Over_in rf (Over_out rf (Over_in rf (Over_out rf (Over_out rf (Over_nil (by rintro _ l6 ⟨ab9, cb9, rfl, hleb9, hrowb9⟩; rintro _ l10 ⟨ab10, cb10, rfl, hleb10, hrowb10⟩; exact (YD0_of (y_buildL bd24_0_1_2 rf))))))))) ?_
 refine P_st 1000000 5 rf rf rf rf rf (Over_in rf (Over_in rf (Over_out rf (Over_in rf (Over_out rf (Over_nil (by rintro _ l6 ⟨ab12, cb12, rfl, hleb12, hrowb12⟩; rintro _ l10 ⟨ab13, cb13, rfl, hleb13, hrowb13⟩; rintro vb14 _ ⟨hvb14, rfl⟩; replace hvb14 : vb14 = .agg #[.slice _ _ _, .slice _ _ _, .int .i64 _] := hvb14; subst hvb14; exact (st_preD (fun _ => by rfl) rf rf Tryz.sizeOf24 rf rf d20)))))))) ?_
 refine PW_end rf ?_
 refine OverAll_cons (fun w13 l13 => ?_)
 refine OverAll_cons (fun w10 l10 => ?_)
 refine OverAll_cons (fun w7 l7 => ?_)
 refine OverAll_cons (fun w6 l6 => ?_)
 refine OverAll_cons (fun w3 l3 => ?_)
 refine OverAll_cons (fun w1000000 l1000000 => ?_)
 refine OverAll_nil ?_
 rintro ⟨⟨⟨⟨⟨⟨-, h13⟩, h10⟩, h7⟩, h6⟩, h3⟩, h1000000⟩
 obtain ⟨b3, rfl, rfl⟩ := h3
 obtain ⟨ab5, cb5, rfl, hleb5, hrowb5⟩ := h6
 obtain ⟨b6, rfl, rfl⟩ := h7
 obtain ⟨ab8, cb8, rfl, hleb8, hrowb8⟩ := h10
 obtain ⟨h13, rfl⟩ := h13
 replace h13 : w13 = .agg #[.slice _ _ _, .slice _ _ _, .int .i64 _] := h13
 subst h13
 obtain rfl := h1000000
 refine Then_normal ?_
 refine W_ret ?_
 refine Fin_ret [_] (l6 ++ l10) Tryz.results65 ⟨lvN rf Tryz.isAgg24 Tryz.sizeOf24 (Mem.own (us := [.slice _ _ _, .slice _ _ _, .int .i64 _]) 0 rf rf) rf, trivial⟩ (HSub.sub sbA) ?_
 exact ⟨_, _, _, _, l6, l10, rfl, ⟨_, _, rfl, by assumption, by assumption⟩, ⟨_, _, rfl, by assumption, by assumption⟩, rfl⟩
def Cn.has (c : Cn) : Nat → Int
 | 0 => c.st
 | k + 1 => c.i k
theorem Cn.has_co (c : Cn) (k : Nat) (h : k ≤ 3) : c.has k = c.co.g k := by
 cases k with
 | zero => rfl
 | succ k => exact (c.co_g k om0).symm
def Cn.put (c : Cn) (k : Nat) (v : Int) : Cn :=
 match k with
 | 0 => ⟨c.sz, c.inn, v⟩
 | k + 1 => ⟨c.sz, c.inn.set k v, c.st⟩
theorem Cn.of_put (c : Cn) (x : Co) (k : Nat) (v : Int) (hn : c.n ≤ 3) (hk : k ≤ c.n) : (c.of x).put k v = c.of (x.w k v) := by
 obtain rfl | rfl | rfl | rfl : k = 0 ∨ k = 1 ∨ k = 2 ∨ k = 3 := by omega
 ·rfl
 all_goals
  unfold Cn.of Cn.put
  simp only [Cn.mk.injEq, true_and]
  obtain h1 | h1 | h1 : c.n = 1 ∨ c.n = 2 ∨ c.n = 3 := by omega
  all_goals first | omega | (rw [h1]; exact ⟨rfl, rfl⟩)
def Cn.pou (c : Cn) (f t : Nat) (m : Int) : Cn := (c.put f (c.has f - m)).put t (c.has t + m)
theorem Cn.Ok.pou {c : Cn} (h : c.Ok) {f t : Nat} (hf : f ≤ c.n) (ht : t ≤ c.n) (m : Int) : c.pou f t m = c.of ((c.co.w f (c.co.g f - m)).w t (c.co.g t + m)) := by
 have h3 := h.n3
 unfold Cn.pou
 rw [c.has_co f om0, c.has_co t om0]
 conv => lhs; arg 1; arg 1; rw [← h.co_of]
 rw [Cn.of_put _ _ _ _ h3 hf, Cn.of_put _ _ _ _ h3 ht]
theorem splice_iv (xs : List Int) (junk : List Value) (v : Int) (k : Nat) (h : k < xs.length) : splice (iv xs ++ junk) (0 + k * 1) [.int .i64 v] = iv (xs.set k v) ++ junk := by
 unfold splice iv
 rw [Nat.zero_add, Nat.mul_one, List.map_set, List.length_singleton, List.take_append_of_le_length (by simp; omega), List.drop_append_of_le_length (by simp; omega), List.set_eq_take_append_cons_drop, if_pos (by simpa using h)]
 simp
theorem getD_set_ne {xs : List Int} {i j : Nat} {v : Int} (h : i ≠ j) : (xs.set j v).getD i 0 = xs.getD i 0 := by
 simp [List.getD_eq_getElem?_getD, List.getElem?_set, Ne.symm h]
theorem drop_iv {xs : List Int} {junk : List Value} {k : Nat} {v : Int} (h : k < xs.length) (hv : xs.getD k 0 = v) : List.drop (0 + k * 1) (iv xs ++ junk) = [.int .i64 v] ++ List.drop (k + 1) (iv xs ++ junk) := by
 subst hv
 have hlt : k < (iv xs ++ junk).length := by simp [iv]; omega
 rw [show 0 + k * 1 = k by omega, List.drop_eq_getElem_cons hlt]
 simp [iv, h, List.getD_eq_getElem?_getD]
theorem fit_iv {xs : List Int} {junk : List Value} {k : Nat} {v : Value} (h : k < xs.length) : 0 + k * 1 + [v].length ≤ (iv xs ++ junk).length := by simp [iv]; omega
def Cn.amtR (c : Cn) (f t : Nat) : Int := if f = 0 then (if c.lack c.co t ≤ c.st then c.lack c.co t else 0) else if t = 0 then c.co.g f else c.amt c.co f t
theorem TwinC.mk2 {c c' : Cn} {z1 : Option Addr} {q1 pb q2 : Nat} {H1 : List Blk} {pj : List Value} (hs : c'.sz = c.sz) (hl : c'.inn.length = c.inn.length) (hr1 : NewRow 3 1 c.n (iv c.sz) (.slice z1 c.n q1) H1) (pl : (iv c.inn ++ pj).length = q2 * 1) (ple : c.inn.length ≤ q2) (h0 : 0 < c.inn.length) :
  TwinC c' (.agg #[.slice z1 c.n q1, .slice (some ⟨pb, 0, none⟩) c.inn.length q2, .int .i64 c'.st]) (H1 ++ [(pb, CB (iv c'.inn ++ pj) 3)]) := by
 have hn : c'.n = c.n := congrArg List.length hs
 refine ⟨z1, q1, some ⟨pb, 0, none⟩, q2, H1, [(pb, CB (iv c'.inn ++ pj) 3)], by rw [hn, hl], by rw [hn, hs]; exact hr1, NewRow.mk (junk := pj) rfl ?_ (by rw [hl]; exact ple) (by rw [hl]; exact h0), rfl⟩
 rw [← pl]
 simp only [List.length_append, iv, List.length_map, hl]
theorem Cn.Ok.g0 {c : Cn} (h : c.Ok) {f : Nat} (hf : f ≤ c.n) : 0 ≤ c.co.g f ∧ c.co.g f ≤ 600 := by
 have h3 := h.n3
 have h0 := h.st0
 have h1 := h.st1
 cases f with
 | zero => exact ⟨h0, h1⟩
 | succ k =>
  have hs := h.s k om0
  have hi := h.i k om0
  rw [c.co_g k om0]
  omega
theorem twinC_zero : TwinC Cn.zero (.agg #[.slice none 0 0, .slice none 0 0, .int .i64 0]) [] :=
 ⟨none, 0, none, 0, [], [], rfl, ⟨none, 0, rfl, Nat.le_refl _, .inr ⟨rfl, rfl, rfl⟩⟩, ⟨none, 0, rfl, Nat.le_refl _, .inr ⟨rfl, rfl, rfl⟩⟩, rfl⟩
def PourV (c : Cn) (p : Po) (v : Value) (Hn : List Blk) : Prop := ∃ v0, v = .tuple #[v0, .int .i64 (c.poE p)] ∧ TwinC (c.poC p) v0 Hn
theorem PourV.bad {c : Cn} {p : Po} {e : Int} (h : c.poE p = e) (he : e ≠ 0) : PourV c p (.tuple #[.agg #[.slice none 0 0, .slice none 0 0, .int .i64 0], .int .i64 e]) [] := by
 refine ⟨_, by rw [h], ?_⟩
 have : c.poC p = Cn.zero := by
  unfold Cn.poC
  unfold Cn.poE at h
  split
  ·rename_i hb
   rw [if_pos hb] at h
   rw [if_neg (by rw [h]; exact he)]
  ·rfl
 rw [this]
 exact twinC_zero
abbrev Pos := Rws Po.cells 2 Po.z
theorem po_len (p : Po) : p.cells.length = 2 := rfl
theorem TwinC.parts {c : Cn} {v : Value} {Hn : List Blk} (h : TwinC c v Hn) : ∃ z1 q1 z2 q2 H1 H2, v = .agg #[.slice z1 c.n q1, .slice z2 c.inn.length q2, .int .i64 c.st] ∧ NewRow 3 1 c.n (iv c.sz) (.slice z1 c.n q1) H1 ∧ NewRow 3 1 c.inn.length (iv c.inn) (.slice z2 c.inn.length q2) H2 ∧ Hn = H1 ++ H2 := h
theorem Cn.badK_none {c : Cn} {l : List Po} : ∀ {m k : Nat}, (∀ j, k ≤ j → j < k + m → c.pE (c.runK l j) (l.getD j Po.z) = 0) → c.badK l k m = none
 | 0, _, _ => rfl
 | m + 1, k, h => by
  unfold Cn.badK
  rw [if_pos (h k (Nat.le_refl _) om0)]
  exact Cn.badK_none fun j h1 h2 => h j om0 om0
theorem Cn.badK_some {c : Cn} {l : List Po} {i : Nat} (hb : c.pE (c.runK l i) (l.getD i Po.z) ≠ 0) : ∀ {m k : Nat}, k ≤ i → i < k + m → (∀ j, k ≤ j → j < i → c.pE (c.runK l j) (l.getD j Po.z) = 0) → c.badK l k m = some i
 | 0, _, _, h2, _ => by omega
 | m + 1, k, h1, h2, h => by
  unfold Cn.badK
  by_cases hk : k = i
  ·subst hk; rw [if_neg hb]
  ·rw [if_pos (h k (Nat.le_refl _) om0)]
   exact Cn.badK_some hb om0 om0 fun j h3 h4 => h j om0 h4
def PlayV (c : Cn) (l : List Po) (v : Value) (Hn : List Blk) : Prop := ∃ v0, v = .tuple #[v0, .int .i64 (c.plB l), .int .i64 (c.plA l), .int .i64 (c.plE l)] ∧ TwinC (c.plC l) v0 Hn
theorem PlayV.bad {c : Cn} {l : List Po} (h : c.okB = false) : PlayV c l (.tuple #[.agg #[.slice none 0 0, .slice none 0 0, .int .i64 0], .int .i64 0, .int .i64 0, .int .i64 80]) [] := by
 refine ⟨.agg #[.slice none 0 0, .slice none 0 0, .int .i64 0], ?_, ?_⟩
 ·unfold Cn.plB Cn.plA Cn.plE
  rw [h]; rfl
 ·unfold Cn.plC
  rw [h]; exact twinC_zero
theorem PlayV.stop {c : Cn} {l : List Po} {k : Nat} {e : Int} (h : c.okB = true) (hk : k < l.length) (hj : ∀ j, j < k → c.pE (c.runK l j) (l.getD j Po.z) = 0) (he : c.pE (c.runK l k) (l.getD k Po.z) = e) (he0 : e ≠ 0) :
  PlayV c l (.tuple #[.agg #[.slice none 0 0, .slice none 0 0, .int .i64 0], .int .i64 0, .int .i64 (k : Int), .int .i64 e]) [] := by
 have hb : c.bad l = some k := Cn.badK_some (by rw [he]; exact he0) (Nat.zero_le _) om0 fun j _ h => hj j h
 refine ⟨.agg #[.slice none 0 0, .slice none 0 0, .int .i64 0], ?_, ?_⟩
 ·unfold Cn.plB Cn.plA Cn.plE
  rw [h, hb]
  simp only [if_true, he]
 ·unfold Cn.plC
  rw [h, hb]; exact twinC_zero
theorem PlayV.go {c : Cn} {l : List Po} {v0 : Value} {Hn : List Blk} (h : c.okB = true) (hj : ∀ j, j < l.length → c.pE (c.runK l j) (l.getD j Po.z) = 0) (hT : TwinC (c.of (c.runK l l.length)) v0 Hn) :
  PlayV c l (.tuple #[v0, .int .i64 (c.backK l l.length), .int .i64 0, .int .i64 0]) Hn := by
 have hb : c.bad l = none := Cn.badK_none fun j _ h => hj j om0
 refine ⟨v0, ?_, ?_⟩
 ·unfold Cn.plB Cn.plA Cn.plE
  rw [h, hb]; rfl
 ·unfold Cn.plC
  rw [h, hb]; exact hT
theorem Cn.Ok.run_in {c : Cn} (h : c.Ok) {l : List Po} : ∀ {k : Nat}, (∀ j, j < k → c.pE (c.runK l j) (l.getD j Po.z) = 0) → c.In (c.runK l k)
 | 0, _ => h.co_in
 | k + 1, hj => (Cn.Ok.run_in h fun j hk => hj j om0).stp h.n3 (hj k om0)
theorem Cn.Ok.back_bd {c : Cn} (h : c.Ok) {l : List Po} : ∀ {k : Nat}, (∀ j, j < k → c.pE (c.runK l j) (l.getD j Po.z) = 0) → 0 ≤ c.backK l k ∧ c.backK l k ≤ 600 * (k : Int)
 | 0, _ => ⟨Int.le_refl _, Int.le_refl _⟩
 | k + 1, hj => by
  have ih := Cn.Ok.back_bd h (l := l) (k := k) fun j hk => hj j om0
  have h1 := h.run_in (l := l) (k := k) fun j hk => hj j om0
  have h2 := h.run_in (l := l) (k := k + 1) hj
  have a1 := h1.lo 0 dc
  have a2 : (c.runK l (k + 1)).a ≤ 600 := h2.hi 0 (Nat.zero_le _)
  change 0 ≤ (c.runK l k).a at a1
  have hb : c.backK l (k + 1) = c.backK l k + bk (c.runK l k) (c.runK l (k + 1)) := rfl
  rw [hb]
  unfold bk
  omega
theorem fa92_0 : ∀ b o w, (Instr.fieldAt 92 (.pointer (some ⟨b, o, none⟩)) 0).run Tryz.prog w = .ok (.pointer (some ⟨b, o + 0, none⟩)) w := fun b o w => by kernel_rfl
theorem broom_any (c : Cn) (a1 : Option Addr) (p1 : Nat) (a2 : Option Addr) (p2 : Nat) (t : Nat) (w : World) (hn : c.n ≤ 1000000) (hm : c.inn.length ≤ 1000000) (h1 : Ints w a1 c.n p1 c.sz) (h2 : Ints w a2 c.inn.length p2 c.inn) (ht : t ≤ c.n) : Ct Tryz.prog 59 #[.agg #[.slice a1 c.n p1, .slice a2 c.inn.length p2, .int .i64 c.st], .int .i64 (t : Int)] w fun v _ => v = .int .i64 (c.room t) := by
 have hsz : c.sz.length = c.n := rfl
 have hF := wide_wide
 refine Ct_start (args := [_, _]) Tryz.func59 rf Tryz.ntmps59 rf ?_
 refine zR fun ds => ?_
 refine WS_new hF rf (y_box rf) (fun b1 => ?_)
 refine za (.int .i64 _) hF ?_
 refine zO ?_
 refine zR fun ds => ?_
 refine zm (.int .i64 _) hF ?_
 refine zD hF (y_eql rf rf) ?_
 refine zN ?_
 refine W_cond rf (fun c1 => ?_) (fun c1 => ?_)
 ·
  try simp only [qz1, qz2, qz3, qz4, qz5, qz6, qz7, qz8] at c1
  refine zR fun ds => ?_
  refine za (.int .i64 _) hF ?_
  refine zN ?_
  refine W_ret ?_
  refine Then_ret ?_
  refine Fin_ret [.int .i64 _] [] Tryz.results59 ⟨by rfl, trivial⟩ HSub.nil ?_
  obtain rfl : t = 0 := by omega
  rfl
 ·
  try simp only [qz1, qz2, qz3, qz4, qz5, qz6, qz7, qz8] at c1
  obtain ⟨j, rfl⟩ : ∃ j, t = j + 1 := ⟨t - 1, by omega⟩
  obtain ⟨b, o, rfl, hc⟩ := h1.cell j om0
  change At w b _ [.int .i64 (c.s j)] at hc
  refine W_skip ?_
  refine zS fun ds => ?_
  refine zD hF (y_fieldAddr rf fa92_0) ?_
  refine zD hF (y_fieldAddr rf fa24_0) ?_
  refine zD hF (y_load1 rf Tryz.isAgg22 (Mem.own1 0 rf rf)) ?_
  refine zm (.int .i64 _) hF ?_
  refine zD hF (y_sub rf rf ui) ?_
  refine zD hF (y_index (k := j) rf rf r10 d10 Tryz.runUnderlying22 Tryz.sizeOf3) ?_
  refine zD hF (y_load1 rf Tryz.isAgg3 zo) ?_
  refine za (.int .i64 _) hF ?_
  refine zN ?_
  refine W_ret ?_
  refine Fin_ret [.int .i64 _] [] Tryz.results59 ⟨by rfl, trivial⟩ HSub.nil ?_
  rfl
theorem bvalid_any (c : Cn) (a1 : Option Addr) (p1 : Nat) (a2 : Option Addr) (p2 : Nat) (p : Po) (w : World) : Ct Tryz.prog 57 #[.agg #[.slice a1 c.n p1, .slice a2 c.inn.length p2, .int .i64 c.st], .agg p.cells.toArray] w fun v _ => v = .bool (c.vldB p) := by
 have hF := wide_wide
 refine Ct_start (args := [_, _]) Tryz.func57 rf Tryz.ntmps57 rf ?_
 refine zR fun ds => ?_
 refine WS_new hF rf (y_box rf) (fun b1 => ?_)
 refine WS_new hF rf (y_box rf) (fun b2 => ?_)
 refine za (.bool _) hF ?_
 refine zP fun ds => ?_
 refine zD hF (y_fieldAddr rf fa92_0) ?_
 refine zD hF (y_fieldAddr rf fa24_0) ?_
 refine zD hF (y_load1 rf Tryz.isAgg22 (Mem.own1 1 rf rf)) ?_
 refine zD hF (y_len rf Tryz.runUnderlying22) ?_
 refine zD hF (y_fieldAddr rf fa47_0) ?_
 refine zD hF (y_load1 rf Tryz.isAgg3 (Mem.own1 0 rf rf)) ?_
 refine zD hF (y_fieldAddr rf fa47_1) ?_
 refine zD hF (y_load1 rf Tryz.isAgg3 (Mem.own1 0 rf rf)) ?_
 refine WS_newS hF rf (y_buildSliceL bs22_2_0_1 rf) (fun b3 => ?_)
 refine zD hF (y_callL rf rf Tryz.call52 (fun w hw => cin_any _ _ _ _ _ _ w dc (by first | exact Ints.one 0 rfl w hw | exact Ints.two 0 rfl w hw))) ?_
 refine zm (.bool _) hF ?_
 refine WS_split 15 rf (fun g1_10 => ?_) (fun g1_10 => ?_)
 ·
  try simp only [qz1, qz2, qz3, qz4, qz5, qz6, qz7, qz8] at g1_10
  refine zD hF (y_fieldAddr rf fa47_0) ?_
  refine zD hF (y_load1 rf Tryz.isAgg3 (Mem.own1 1 rf rf)) ?_
  refine zD hF (y_fieldAddr rf fa47_1) ?_
  refine zD hF (y_load1 rf Tryz.isAgg3 (Mem.own1 1 rf rf)) ?_
  refine zD hF (y_neq rf rf) ?_
  refine zD hF (zpk (.bool _)) ?_
  refine za (.bool _) hF ?_
  refine zN ?_
  refine W_ret ?_
  refine Fin_ret [.bool _] [] Tryz.results57 ⟨by rfl, trivial⟩ HSub.nil ?_
  show Value.bool _ = .bool (c.vldB p)
  unfold Cn.vldB
  simp [*]
 ·
  try simp only [qz1, qz2, qz3, qz4, qz5, qz6, qz7, qz8] at g1_10
  refine zno hF ?_
  refine zno hF ?_
  refine zno hF ?_
  refine zno hF ?_
  refine zno hF ?_
  refine zD hF (zpk (.bool _)) ?_
  refine za (.bool _) hF ?_
  refine zN ?_
  refine W_ret ?_
  refine Fin_ret [.bool _] [] Tryz.results57 ⟨by rfl, trivial⟩ HSub.nil ?_
  show Value.bool _ = .bool (c.vldB p)
  unfold Cn.vldB
  simp [*]
def Cn.pourR (c : Cn) (x : Co) (f t : Nat) : Value := .tuple #[.agg (if c.noB x f t then x else c.to x f t).cells.toArray, .bool (c.canB x f t)]
theorem Cn.pourR_no {c : Cn} {x : Co} {f t : Nat} (h : (f = 0 ∧ x.g f < c.room t - x.g t) ∨ (t = 0 ∧ c.room t - x.g t < x.g f)) : Value.tuple #[.agg x.cells.toArray, .bool false] = c.pourR x f t := by
 have hno : c.noB x f t = true := by
  unfold Cn.noB Cn.lack
  rcases h with ⟨h1, h2⟩ | ⟨h1, h2⟩
  ·rw [decide_eq_true h1, decide_eq_true h2]; rfl
  ·rw [decide_eq_true h1, decide_eq_true h2, Bool.true_and, Bool.or_true]
 unfold Cn.pourR Cn.canB
 rw [hno]; rfl
theorem Cn.pourR_go {c : Cn} {x : Co} {f t : Nat} (h : ¬ ((f = 0 ∧ x.g f < c.room t - x.g t) ∨ (t = 0 ∧ c.room t - x.g t < x.g f))) : Value.tuple #[.agg (c.to x f t).cells.toArray, .bool (decide (c.amt x f t > 0))] = c.pourR x f t := by
 have hno : c.noB x f t = false := by
  unfold Cn.noB Cn.lack
  rw [Bool.or_eq_false_iff, Bool.and_eq_false_iff, Bool.and_eq_false_iff]
  simp only [decide_eq_false_iff_not]
  omega
 unfold Cn.pourR Cn.canB
 rw [hno]; rfl
theorem bpour_any (c : Cn) (a1 : Option Addr) (p1 : Nat) (a2 : Option Addr) (p2 : Nat) (x : Co) (f t : Nat) (w : World) (hok : c.Ok) (hn : c.n ≤ 1000000) (hm : c.inn.length ≤ 1000000) (h1 : Ints w a1 c.n p1 c.sz) (h2 : Ints w a2 c.inn.length p2 c.inn) (hin : c.In x) (hf : f ≤ c.n) (ht : t ≤ c.n) (hft : f ≠ t) :
  Ct Tryz.prog 60 #[.agg #[.slice a1 c.n p1, .slice a2 c.inn.length p2, .int .i64 c.st], .agg x.cells.toArray, .agg #[.int .i64 (f : Int), .int .i64 (t : Int)]] w fun v _ => v = c.pourR x f t := by
 have hn3 := hok.n3
 obtain ⟨e1, hd1⟩ := x.drop (k := f) om0
 obtain ⟨e2, hd2⟩ := x.drop (k := t) om0
 have hl1 := hin.lo f om0
 have hl2 := hin.lo t om0
 have hh1 := hin.hi f hf
 have hh2 := hin.hi t ht
 have hr : ∀ k, k ≤ c.n → 0 ≤ c.room k ∧ c.room k ≤ 600 := fun k hk => by
  cases k with
  | zero => exact ⟨by show (0 : Int) ≤ 600; omega, by show (600 : Int) ≤ 600; omega⟩
  | succ k => have := hok.s k om0; exact ⟨by show 0 ≤ c.s k; omega, by show c.s k ≤ 600; omega⟩
 have hr1 := hr f hf
 have hr2 := hr t ht
 have hF := wide_wide
 refine Ct_start (args := [_, _, _]) Tryz.func60 rf Tryz.ntmps60 rf ?_
 refine zR fun ds => ?_
 refine WS_new hF rf (y_box rf) (fun b1 => ?_)
 refine WS_new hF rf (y_box rf) (fun b2 => ?_)
 refine WS_new hF rf (y_box rf) (fun b3 => ?_)
 refine WS_new hF rf (y_alloc Tryz.zeroValue106 rf) (fun b4 => ?_)
 refine za (.bool _) hF ?_
 refine zO ?_
 refine W_draw0 hF Tryzmixed [] dk0 (fun ds => ?_)
 refine P_det rf (Over_nil (y_fieldAddr rf fa47_0)) ?_
 refine P_det rf (Over_nil (y_load1 rf Tryz.isAgg3 (Mem.own1 1 rf rf))) ?_
 refine P_det rf (Over_nil (y_indexA (k := f) rf rf r10 d10 Tryz.runUnderlying106 Tryz.sizeOf3)) ?_
 refine P_det rf (Over_nil (y_load1 rf Tryz.isAgg3 (Mem.own (us := [.int .i64 (x.g f)]) 2 rf hd1))) ?_
 refine P_det rf (Over_nil (y_loadN rf Tryz.isAgg92 Tryz.sizeOf92 (Mem.own (us := [.slice _ _ _, .slice _ _ _, .int .i64 _]) 3 rf rf) rf)) ?_
 refine P_det rf (Over_nil (y_fieldAddr rf fa47_1)) ?_
 refine P_det rf (Over_nil (y_load1 rf Tryz.isAgg3 (Mem.own1 1 rf rf))) ?_
 refine P_det rf (Over_nil (y_callL rf rf Tryz.call59 (fun w hw => broom_any c a1 p1 a2 p2 t w hn hm (h1.st w hw) (h2.st w hw) ht))) ?_
 refine P_det rf (Over_nil (y_fieldAddr rf fa47_1)) ?_
 refine P_det rf (Over_nil (y_load1 rf Tryz.isAgg3 (Mem.own1 1 rf rf))) ?_
 refine P_det rf (Over_nil (y_indexA (k := t) rf rf r10 d10 Tryz.runUnderlying106 Tryz.sizeOf3)) ?_
 refine P_det rf (Over_nil (y_load1 rf Tryz.isAgg3 (Mem.own (us := [.int .i64 (x.g t)]) 2 rf hd2))) ?_
 refine P_det rf (Over_nil (y_sub rf rf ui)) ?_
 refine P_det rf (Over_nil (y_assign (c := .int .i64 _) rf)) ?_
 refine P_det rf (Over_nil (y_assign (c := .int .i64 _) rf)) ?_
 refine PW_end rf ?_
 refine OverAll_nil ?_
 rintro -
 refine Then_normal ?_
 refine W_seq ?_
 refine W_block ?_
 refine W_seq ?_
 refine zR fun ds => ?_
 refine zD hF (y_fieldAddr rf fa47_0) ?_
 refine zD hF (y_load1 rf Tryz.isAgg3 (Mem.own1 1 rf rf)) ?_
 refine zD hF (y_eql rf rf) ?_
 refine zm (.bool _) hF ?_
 refine WS_split 27 rf (fun g2_3 => ?_) (fun g2_3 => ?_)
 ·
  try simp only [qz1, qz2, qz3, qz4, qz5, qz6, qz7, qz8] at g2_3
  refine zm (.int .i64 _) hF ?_
  refine zm (.int .i64 _) hF ?_
  refine zD hF (y_lss rf rf) ?_
  refine zD hF (zpk (.bool _)) ?_
  refine za (.bool _) hF ?_
  refine zN ?_
  refine W_cond rf (fun c2 => ?_) (fun c2 => ?_)
  ·
   try simp only [qz1, qz2, qz3, qz4, qz5, qz6, qz7, qz8] at c2
   refine zU ?_
   refine W_cond rf (fun c2 => ?_) (fun c2 => ?_)
   ·
    try simp only [qz1, qz2, qz3, qz4, qz5, qz6, qz7, qz8] at c2
    refine zR fun ds => ?_
    refine zD hF (y_loadN rf Tryz.isAgg106 Tryz.sizeOf106 (Mem.own (us := [.int .i64 _, .int .i64 _, .int .i64 _, .int .i64 _]) 2 rf rf) rf) ?_
    refine WS_store hF (us := [.int .i64 _, .int .i64 _, .int .i64 _, .int .i64 _]) (i := 0) rf rf Tryz.sizeOf106 rf rf rf d20 ?_
    refine za (.bool _) hF ?_
    refine zN ?_
    refine W_ret ?_
    refine InB_ret ?_
    refine Then_ret ?_
    refine Fin_ret [_, .bool _] [] Tryz.results60 ⟨lvN rf Tryz.isAgg106 Tryz.sizeOf106 (Mem.own (us := [.int .i64 _, .int .i64 _, .int .i64 _, .int .i64 _]) 0 rf rf) rf, by rfl, trivial⟩ HSub.nil ?_
    first
     | exact Cn.pourR_no om0
     | exact Cn.pourR_go om0
   ·
    try simp only [qz1, qz2, qz3, qz4, qz5, qz6, qz7, qz8] at c2
    refine W_skip ?_
    refine InB_normal ?_
    refine zS fun ds => ?_
    refine zm (.int .i64 _) hF ?_
    refine zm (.int .i64 _) hF ?_
    refine zD hF (y_min rf rf) ?_
    refine za (.int .i64 _) hF ?_
    refine zP fun ds => ?_
    refine zD hF (y_fieldAddr rf fa47_0) ?_
    refine zD hF (y_load1 rf Tryz.isAgg3 (Mem.own1 1 rf rf)) ?_
    refine zD hF (y_indexA (k := f) rf rf r10 d10 Tryz.runUnderlying106 Tryz.sizeOf3) ?_
    refine zD hF (y_load1 rf Tryz.isAgg3 (Mem.own (us := [.int .i64 (x.g f)]) 2 rf hd1)) ?_
    refine zm (.int .i64 _) hF ?_
    refine zD hF (y_sub rf rf ui) ?_
    refine zD hF (y_indexA (k := f) rf rf r10 d10 Tryz.runUnderlying106 Tryz.sizeOf3) ?_
    refine WS_store hF (us := [.int .i64 _]) (i := 2) rf rf Tryz.sizeOf3 rf rf rf (by show 0 + f * 1 + 1 ≤ 4; omega) ?_
    refine zO ?_
    rw [Co.splice x _ (k := f) om0]
    obtain ⟨e3, hd3⟩ := (x.w f (x.g f - c.amt x f t)).drop (k := t) om0
    rw [Co.g_w _ _ om0 om0, if_neg (Ne.symm hft)] at hd3
    refine W_region_lit (fun ds => ?_)
    refine zD hF (y_fieldAddr rf fa47_1) ?_
    refine zD hF (y_load1 rf Tryz.isAgg3 (Mem.own1 1 rf rf)) ?_
    refine zD hF (y_indexA (k := t) rf rf r10 d10 Tryz.runUnderlying106 Tryz.sizeOf3) ?_
    refine zD hF (y_load1 rf Tryz.isAgg3 (Mem.own (us := [.int .i64 (x.g t)]) 2 rf hd3)) ?_
    refine zm (.int .i64 _) hF ?_
    refine zD hF (y_add rf rf ui) ?_
    refine zD hF (y_indexA (k := t) rf rf r10 d10 Tryz.runUnderlying106 Tryz.sizeOf3) ?_
    refine WS_store hF (us := [.int .i64 _]) (i := 2) rf rf Tryz.sizeOf3 rf rf rf (by show 0 + t * 1 + 1 ≤ 4; omega) ?_
    refine zO ?_
    rw [Co.splice _ _ (k := t) om0]
    refine W_region_lit (fun ds => ?_)
    refine zD hF (y_loadN rf Tryz.isAgg106 Tryz.sizeOf106 (Mem.own (us := [.int .i64 _, .int .i64 _, .int .i64 _, .int .i64 _]) 2 rf rf) rf) ?_
    refine zm (.int .i64 _) hF ?_
    refine zD hF (y_gtr rf rf) ?_
    refine WS_store hF (us := [.int .i64 _, .int .i64 _, .int .i64 _, .int .i64 _]) (i := 0) rf rf Tryz.sizeOf106 rf rf rf d20 ?_
    refine za (.bool _) hF ?_
    refine zN ?_
    refine W_ret ?_
    refine Fin_ret [_, .bool _] [] Tryz.results60 ⟨lvN rf Tryz.isAgg106 Tryz.sizeOf106 (Mem.own (us := [.int .i64 _, .int .i64 _, .int .i64 _, .int .i64 _]) 0 rf rf) rf, by rfl, trivial⟩ HSub.nil ?_
    first
     | exact Cn.pourR_no om0
     | exact Cn.pourR_go om0
  ·
   try simp only [qz1, qz2, qz3, qz4, qz5, qz6, qz7, qz8] at c2
   refine W_region_lit (fun ds => ?_)
   refine zD hF (y_fieldAddr rf fa47_1) ?_
   refine zD hF (y_load1 rf Tryz.isAgg3 (Mem.own1 1 rf rf)) ?_
   refine zD hF (y_eql rf rf) ?_
   refine zm (.bool _) hF ?_
   refine WS_split 35 rf (fun g3_3 => ?_) (fun g3_3 => ?_)
   ·
    try simp only [qz1, qz2, qz3, qz4, qz5, qz6, qz7, qz8] at g3_3
    refine zm (.int .i64 _) hF ?_
    refine zm (.int .i64 _) hF ?_
    refine zD hF (y_gtr rf rf) ?_
    refine zD hF (zpk (.bool _)) ?_
    refine za (.bool _) hF ?_
    refine zN ?_
    refine W_cond rf (fun c3 => ?_) (fun c3 => ?_)
    ·
     try simp only [qz1, qz2, qz3, qz4, qz5, qz6, qz7, qz8] at c3
     refine zR fun ds => ?_
     refine zD hF (y_loadN rf Tryz.isAgg106 Tryz.sizeOf106 (Mem.own (us := [.int .i64 _, .int .i64 _, .int .i64 _, .int .i64 _]) 2 rf rf) rf) ?_
     refine WS_store hF (us := [.int .i64 _, .int .i64 _, .int .i64 _, .int .i64 _]) (i := 0) rf rf Tryz.sizeOf106 rf rf rf d20 ?_
     refine za (.bool _) hF ?_
     refine zN ?_
     refine W_ret ?_
     refine InB_ret ?_
     refine Then_ret ?_
     refine Fin_ret [_, .bool _] [] Tryz.results60 ⟨lvN rf Tryz.isAgg106 Tryz.sizeOf106 (Mem.own (us := [.int .i64 _, .int .i64 _, .int .i64 _, .int .i64 _]) 0 rf rf) rf, by rfl, trivial⟩ HSub.nil ?_
     first
      | exact Cn.pourR_no om0
      | exact Cn.pourR_go om0
    ·
     try simp only [qz1, qz2, qz3, qz4, qz5, qz6, qz7, qz8] at c3
     refine W_skip ?_
     refine InB_normal ?_
     refine zS fun ds => ?_
     refine zm (.int .i64 _) hF ?_
     refine zm (.int .i64 _) hF ?_
     refine zD hF (y_min rf rf) ?_
     refine za (.int .i64 _) hF ?_
     refine zP fun ds => ?_
     refine zD hF (y_fieldAddr rf fa47_0) ?_
     refine zD hF (y_load1 rf Tryz.isAgg3 (Mem.own1 1 rf rf)) ?_
     refine zD hF (y_indexA (k := f) rf rf r10 d10 Tryz.runUnderlying106 Tryz.sizeOf3) ?_
     refine zD hF (y_load1 rf Tryz.isAgg3 (Mem.own (us := [.int .i64 (x.g f)]) 2 rf hd1)) ?_
     refine zm (.int .i64 _) hF ?_
     refine zD hF (y_sub rf rf ui) ?_
     refine zD hF (y_indexA (k := f) rf rf r10 d10 Tryz.runUnderlying106 Tryz.sizeOf3) ?_
     refine WS_store hF (us := [.int .i64 _]) (i := 2) rf rf Tryz.sizeOf3 rf rf rf (by show 0 + f * 1 + 1 ≤ 4; omega) ?_
     refine zO ?_
     rw [Co.splice x _ (k := f) om0]
     obtain ⟨e3, hd3⟩ := (x.w f (x.g f - c.amt x f t)).drop (k := t) om0
     rw [Co.g_w _ _ om0 om0, if_neg (Ne.symm hft)] at hd3
     refine W_region_lit (fun ds => ?_)
     refine zD hF (y_fieldAddr rf fa47_1) ?_
     refine zD hF (y_load1 rf Tryz.isAgg3 (Mem.own1 1 rf rf)) ?_
     refine zD hF (y_indexA (k := t) rf rf r10 d10 Tryz.runUnderlying106 Tryz.sizeOf3) ?_
     refine zD hF (y_load1 rf Tryz.isAgg3 (Mem.own (us := [.int .i64 (x.g t)]) 2 rf hd3)) ?_
     refine zm (.int .i64 _) hF ?_
     refine zD hF (y_add rf rf ui) ?_
     refine zD hF (y_indexA (k := t) rf rf r10 d10 Tryz.runUnderlying106 Tryz.sizeOf3) ?_
     refine WS_store hF (us := [.int .i64 _]) (i := 2) rf rf Tryz.sizeOf3 rf rf rf (by show 0 + t * 1 + 1 ≤ 4; omega) ?_
     refine zO ?_
     rw [Co.splice _ _ (k := t) om0]
     refine W_region_lit (fun ds => ?_)
     refine zD hF (y_loadN rf Tryz.isAgg106 Tryz.sizeOf106 (Mem.own (us := [.int .i64 _, .int .i64 _, .int .i64 _, .int .i64 _]) 2 rf rf) rf) ?_
     refine zm (.int .i64 _) hF ?_
     refine zD hF (y_gtr rf rf) ?_
     refine WS_store hF (us := [.int .i64 _, .int .i64 _, .int .i64 _, .int .i64 _]) (i := 0) rf rf Tryz.sizeOf106 rf rf rf d20 ?_
     refine za (.bool _) hF ?_
     refine zN ?_
     refine W_ret ?_
     refine Fin_ret [_, .bool _] [] Tryz.results60 ⟨lvN rf Tryz.isAgg106 Tryz.sizeOf106 (Mem.own (us := [.int .i64 _, .int .i64 _, .int .i64 _, .int .i64 _]) 0 rf rf) rf, by rfl, trivial⟩ HSub.nil ?_
     first
      | exact Cn.pourR_no om0
      | exact Cn.pourR_go om0
   ·
    try simp only [qz1, qz2, qz3, qz4, qz5, qz6, qz7, qz8] at g3_3
    refine zno hF ?_
    refine zno hF ?_
    refine zno hF ?_
    refine zD hF (zpk (.bool _)) ?_
    refine za (.bool _) hF ?_
    refine zN ?_
    refine W_cond rf (fun c3 => ?_) (fun c3 => ?_)
    ·cases c3
    ·
     try simp only [qz1, qz2, qz3, qz4, qz5, qz6, qz7, qz8] at c3
     refine W_skip ?_
     refine InB_normal ?_
     refine zS fun ds => ?_
     refine zm (.int .i64 _) hF ?_
     refine zm (.int .i64 _) hF ?_
     refine zD hF (y_min rf rf) ?_
     refine za (.int .i64 _) hF ?_
     refine zP fun ds => ?_
     refine zD hF (y_fieldAddr rf fa47_0) ?_
     refine zD hF (y_load1 rf Tryz.isAgg3 (Mem.own1 1 rf rf)) ?_
     refine zD hF (y_indexA (k := f) rf rf r10 d10 Tryz.runUnderlying106 Tryz.sizeOf3) ?_
     refine zD hF (y_load1 rf Tryz.isAgg3 (Mem.own (us := [.int .i64 (x.g f)]) 2 rf hd1)) ?_
     refine zm (.int .i64 _) hF ?_
     refine zD hF (y_sub rf rf ui) ?_
     refine zD hF (y_indexA (k := f) rf rf r10 d10 Tryz.runUnderlying106 Tryz.sizeOf3) ?_
     refine WS_store hF (us := [.int .i64 _]) (i := 2) rf rf Tryz.sizeOf3 rf rf rf (by show 0 + f * 1 + 1 ≤ 4; omega) ?_
     refine zO ?_
     rw [Co.splice x _ (k := f) om0]
     obtain ⟨e3, hd3⟩ := (x.w f (x.g f - c.amt x f t)).drop (k := t) om0
     rw [Co.g_w _ _ om0 om0, if_neg (Ne.symm hft)] at hd3
     refine W_region_lit (fun ds => ?_)
     refine zD hF (y_fieldAddr rf fa47_1) ?_
     refine zD hF (y_load1 rf Tryz.isAgg3 (Mem.own1 1 rf rf)) ?_
     refine zD hF (y_indexA (k := t) rf rf r10 d10 Tryz.runUnderlying106 Tryz.sizeOf3) ?_
     refine zD hF (y_load1 rf Tryz.isAgg3 (Mem.own (us := [.int .i64 (x.g t)]) 2 rf hd3)) ?_
     refine zm (.int .i64 _) hF ?_
     refine zD hF (y_add rf rf ui) ?_
     refine zD hF (y_indexA (k := t) rf rf r10 d10 Tryz.runUnderlying106 Tryz.sizeOf3) ?_
     refine WS_store hF (us := [.int .i64 _]) (i := 2) rf rf Tryz.sizeOf3 rf rf rf (by show 0 + t * 1 + 1 ≤ 4; omega) ?_
     refine zO ?_
     rw [Co.splice _ _ (k := t) om0]
     refine W_region_lit (fun ds => ?_)
     refine zD hF (y_loadN rf Tryz.isAgg106 Tryz.sizeOf106 (Mem.own (us := [.int .i64 _, .int .i64 _, .int .i64 _, .int .i64 _]) 2 rf rf) rf) ?_
     refine zm (.int .i64 _) hF ?_
     refine zD hF (y_gtr rf rf) ?_
     refine WS_store hF (us := [.int .i64 _, .int .i64 _, .int .i64 _, .int .i64 _]) (i := 0) rf rf Tryz.sizeOf106 rf rf rf d20 ?_
     refine za (.bool _) hF ?_
     refine zN ?_
     refine W_ret ?_
     refine Fin_ret [_, .bool _] [] Tryz.results60 ⟨lvN rf Tryz.isAgg106 Tryz.sizeOf106 (Mem.own (us := [.int .i64 _, .int .i64 _, .int .i64 _, .int .i64 _]) 0 rf rf) rf, by rfl, trivial⟩ HSub.nil ?_
     first
      | exact Cn.pourR_no om0
      | exact Cn.pourR_go om0
 ·
  try simp only [qz1, qz2, qz3, qz4, qz5, qz6, qz7, qz8] at g2_3
  refine zno hF ?_
  refine zno hF ?_
  refine zno hF ?_
  refine zD hF (zpk (.bool _)) ?_
  refine za (.bool _) hF ?_
  refine zN ?_
  refine W_cond rf (fun c2 => ?_) (fun c2 => ?_)
  ·cases c2
  ·
   try simp only [qz1, qz2, qz3, qz4, qz5, qz6, qz7, qz8] at c2
   refine W_region_lit (fun ds => ?_)
   refine zD hF (y_fieldAddr rf fa47_1) ?_
   refine zD hF (y_load1 rf Tryz.isAgg3 (Mem.own1 1 rf rf)) ?_
   refine zD hF (y_eql rf rf) ?_
   refine zm (.bool _) hF ?_
   refine WS_split 35 rf (fun g3_3 => ?_) (fun g3_3 => ?_)
   ·
    try simp only [qz1, qz2, qz3, qz4, qz5, qz6, qz7, qz8] at g3_3
    refine zm (.int .i64 _) hF ?_
    refine zm (.int .i64 _) hF ?_
    refine zD hF (y_gtr rf rf) ?_
    refine zD hF (zpk (.bool _)) ?_
    refine za (.bool _) hF ?_
    refine zN ?_
    refine W_cond rf (fun c3 => ?_) (fun c3 => ?_)
    ·
     try simp only [qz1, qz2, qz3, qz4, qz5, qz6, qz7, qz8] at c3
     refine zR fun ds => ?_
     refine zD hF (y_loadN rf Tryz.isAgg106 Tryz.sizeOf106 (Mem.own (us := [.int .i64 _, .int .i64 _, .int .i64 _, .int .i64 _]) 2 rf rf) rf) ?_
     refine WS_store hF (us := [.int .i64 _, .int .i64 _, .int .i64 _, .int .i64 _]) (i := 0) rf rf Tryz.sizeOf106 rf rf rf d20 ?_
     refine za (.bool _) hF ?_
     refine zN ?_
     refine W_ret ?_
     refine InB_ret ?_
     refine Then_ret ?_
     refine Fin_ret [_, .bool _] [] Tryz.results60 ⟨lvN rf Tryz.isAgg106 Tryz.sizeOf106 (Mem.own (us := [.int .i64 _, .int .i64 _, .int .i64 _, .int .i64 _]) 0 rf rf) rf, by rfl, trivial⟩ HSub.nil ?_
     first
      | exact Cn.pourR_no om0
      | exact Cn.pourR_go om0
    ·
     try simp only [qz1, qz2, qz3, qz4, qz5, qz6, qz7, qz8] at c3
     refine W_skip ?_
     refine InB_normal ?_
     refine zS fun ds => ?_
     refine zm (.int .i64 _) hF ?_
     refine zm (.int .i64 _) hF ?_
     refine zD hF (y_min rf rf) ?_
     refine za (.int .i64 _) hF ?_
     refine zP fun ds => ?_
     refine zD hF (y_fieldAddr rf fa47_0) ?_
     refine zD hF (y_load1 rf Tryz.isAgg3 (Mem.own1 1 rf rf)) ?_
     refine zD hF (y_indexA (k := f) rf rf r10 d10 Tryz.runUnderlying106 Tryz.sizeOf3) ?_
     refine zD hF (y_load1 rf Tryz.isAgg3 (Mem.own (us := [.int .i64 (x.g f)]) 2 rf hd1)) ?_
     refine zm (.int .i64 _) hF ?_
     refine zD hF (y_sub rf rf ui) ?_
     refine zD hF (y_indexA (k := f) rf rf r10 d10 Tryz.runUnderlying106 Tryz.sizeOf3) ?_
     refine WS_store hF (us := [.int .i64 _]) (i := 2) rf rf Tryz.sizeOf3 rf rf rf (by show 0 + f * 1 + 1 ≤ 4; omega) ?_
     refine zO ?_
     rw [Co.splice x _ (k := f) om0]
     obtain ⟨e3, hd3⟩ := (x.w f (x.g f - c.amt x f t)).drop (k := t) om0
     rw [Co.g_w _ _ om0 om0, if_neg (Ne.symm hft)] at hd3
     refine W_region_lit (fun ds => ?_)
     refine zD hF (y_fieldAddr rf fa47_1) ?_
     refine zD hF (y_load1 rf Tryz.isAgg3 (Mem.own1 1 rf rf)) ?_
     refine zD hF (y_indexA (k := t) rf rf r10 d10 Tryz.runUnderlying106 Tryz.sizeOf3) ?_
     refine zD hF (y_load1 rf Tryz.isAgg3 (Mem.own (us := [.int .i64 (x.g t)]) 2 rf hd3)) ?_
     refine zm (.int .i64 _) hF ?_
     refine zD hF (y_add rf rf ui) ?_
     refine zD hF (y_indexA (k := t) rf rf r10 d10 Tryz.runUnderlying106 Tryz.sizeOf3) ?_
     refine WS_store hF (us := [.int .i64 _]) (i := 2) rf rf Tryz.sizeOf3 rf rf rf (by show 0 + t * 1 + 1 ≤ 4; omega) ?_
     refine zO ?_
     rw [Co.splice _ _ (k := t) om0]
     refine W_region_lit (fun ds => ?_)
     refine zD hF (y_loadN rf Tryz.isAgg106 Tryz.sizeOf106 (Mem.own (us := [.int .i64 _, .int .i64 _, .int .i64 _, .int .i64 _]) 2 rf rf) rf) ?_
     refine zm (.int .i64 _) hF ?_
     refine zD hF (y_gtr rf rf) ?_
     refine WS_store hF (us := [.int .i64 _, .int .i64 _, .int .i64 _, .int .i64 _]) (i := 0) rf rf Tryz.sizeOf106 rf rf rf d20 ?_
     refine za (.bool _) hF ?_
     refine zN ?_
     refine W_ret ?_
     refine Fin_ret [_, .bool _] [] Tryz.results60 ⟨lvN rf Tryz.isAgg106 Tryz.sizeOf106 (Mem.own (us := [.int .i64 _, .int .i64 _, .int .i64 _, .int .i64 _]) 0 rf rf) rf, by rfl, trivial⟩ HSub.nil ?_
     first
      | exact Cn.pourR_no om0
      | exact Cn.pourR_go om0
   ·
    try simp only [qz1, qz2, qz3, qz4, qz5, qz6, qz7, qz8] at g3_3
    refine zno hF ?_
    refine zno hF ?_
    refine zno hF ?_
    refine zD hF (zpk (.bool _)) ?_
    refine za (.bool _) hF ?_
    refine zN ?_
    refine W_cond rf (fun c3 => ?_) (fun c3 => ?_)
    ·cases c3
    ·
     try simp only [qz1, qz2, qz3, qz4, qz5, qz6, qz7, qz8] at c3
     refine W_skip ?_
     refine InB_normal ?_
     refine zS fun ds => ?_
     refine zm (.int .i64 _) hF ?_
     refine zm (.int .i64 _) hF ?_
     refine zD hF (y_min rf rf) ?_
     refine za (.int .i64 _) hF ?_
     refine zP fun ds => ?_
     refine zD hF (y_fieldAddr rf fa47_0) ?_
     refine zD hF (y_load1 rf Tryz.isAgg3 (Mem.own1 1 rf rf)) ?_
     refine zD hF (y_indexA (k := f) rf rf r10 d10 Tryz.runUnderlying106 Tryz.sizeOf3) ?_
     refine zD hF (y_load1 rf Tryz.isAgg3 (Mem.own (us := [.int .i64 (x.g f)]) 2 rf hd1)) ?_
     refine zm (.int .i64 _) hF ?_
     refine zD hF (y_sub rf rf ui) ?_
     refine zD hF (y_indexA (k := f) rf rf r10 d10 Tryz.runUnderlying106 Tryz.sizeOf3) ?_
     refine WS_store hF (us := [.int .i64 _]) (i := 2) rf rf Tryz.sizeOf3 rf rf rf (by show 0 + f * 1 + 1 ≤ 4; omega) ?_
     refine zO ?_
     rw [Co.splice x _ (k := f) om0]
     obtain ⟨e3, hd3⟩ := (x.w f (x.g f - c.amt x f t)).drop (k := t) om0
     rw [Co.g_w _ _ om0 om0, if_neg (Ne.symm hft)] at hd3
     refine W_region_lit (fun ds => ?_)
     refine zD hF (y_fieldAddr rf fa47_1) ?_
     refine zD hF (y_load1 rf Tryz.isAgg3 (Mem.own1 1 rf rf)) ?_
     refine zD hF (y_indexA (k := t) rf rf r10 d10 Tryz.runUnderlying106 Tryz.sizeOf3) ?_
     refine zD hF (y_load1 rf Tryz.isAgg3 (Mem.own (us := [.int .i64 (x.g t)]) 2 rf hd3)) ?_
     refine zm (.int .i64 _) hF ?_
     refine zD hF (y_add rf rf ui) ?_
     refine zD hF (y_indexA (k := t) rf rf r10 d10 Tryz.runUnderlying106 Tryz.sizeOf3) ?_
     refine WS_store hF (us := [.int .i64 _]) (i := 2) rf rf Tryz.sizeOf3 rf rf rf (by show 0 + t * 1 + 1 ≤ 4; omega) ?_
     refine zO ?_
     rw [Co.splice _ _ (k := t) om0]
     refine W_region_lit (fun ds => ?_)
     refine zD hF (y_loadN rf Tryz.isAgg106 Tryz.sizeOf106 (Mem.own (us := [.int .i64 _, .int .i64 _, .int .i64 _, .int .i64 _]) 2 rf rf) rf) ?_
     refine zm (.int .i64 _) hF ?_
     refine zD hF (y_gtr rf rf) ?_
     refine WS_store hF (us := [.int .i64 _, .int .i64 _, .int .i64 _, .int .i64 _]) (i := 0) rf rf Tryz.sizeOf106 rf rf rf d20 ?_
     refine za (.bool _) hF ?_
     refine zN ?_
     refine W_ret ?_
     refine Fin_ret [_, .bool _] [] Tryz.results60 ⟨lvN rf Tryz.isAgg106 Tryz.sizeOf106 (Mem.own (us := [.int .i64 _, .int .i64 _, .int .i64 _, .int .i64 _]) 0 rf rf) rf, by rfl, trivial⟩ HSub.nil ?_
     first
      | exact Cn.pourR_no om0
      | exact Cn.pourR_go om0
theorem bd106_0 {x0 : Int} : ∀ w, (Instr.build 106 #[(0, .int .i64 x0)]).run Tryz.prog w = .ok (.agg #[.int .i64 x0, .int .i64 0, .int .i64 0, .int .i64 0]) w := fun w => by kernel_rfl
theorem bd24  : ∀ w, (Instr.build 24 #[]).run Tryz.prog w = .ok (.agg #[.slice none 0 0, .slice none 0 0, .int .i64 0]) w := fun w => by kernel_rfl
theorem bd92_0 {x0_0a : Option Addr} {x0_0l x0_0c : Nat} {x0_1a : Option Addr} {x0_1l x0_1c : Nat} {x0_2 : Int} : ∀ w, (Instr.build 92 #[(0, .agg #[.slice x0_0a x0_0l x0_0c, .slice x0_1a x0_1l x0_1c, .int .i64 x0_2])]).run Tryz.prog w = .ok (.agg #[.slice x0_0a x0_0l x0_0c, .slice x0_1a x0_1l x0_1c, .int .i64 x0_2]) w := fun w => by kernel_rfl
theorem cloneN_any (ta : Option Addr) (tn tcap : Nat) (D : List Int) (w : World) (htn : tn ≤ 1000000) (hD : Ints w ta tn tcap D) :
  Ct Tryz.prog 72 #[.slice ta tn tcap] w fun v Hn => ∃ a' cap', v = .slice a' tn cap' ∧ NewRow 3 1 tn (iv D) (.slice a' tn cap') Hn := by
 have hlen : (iv D).length = tn * 1 := by rw [Nat.mul_one]; exact (List.length_map _).trans hD.len
 have hF := wide_wide
 refine Ct_start (args := [_]) Tryz.func72 rf Tryz.ntmps72 rf ?_
 refine zR fun ds => ?_
 refine za (.slice _ _ _) hF ?_
 refine zO ?_
 refine zR fun ds => ?_
 refine zm (.slice _ _ _) hF ?_
 refine zD hF (y_eqlNil rf rf Tryz.runUnderlying22) ?_
 refine zN ?_
 refine W_cond rf (fun c1 => ?_) (fun c1 => ?_)
 ·
  try simp only [qz1, qz2, qz3, qz4, qz5, qz6, qz7, qz8] at c1
  obtain rfl : ta = none := Option.isNone_iff_eq_none.1 c1
  have h0 : tn = 0 := by
   cases tn with
   | zero => rfl
   | succ n => obtain ⟨b, o, h, _⟩ := hD.cell 0 (Nat.zero_lt_succ n); cases h
  subst h0
  refine zR fun ds => ?_
  refine za (.slice _ _ _) hF ?_
  refine zN ?_
  refine W_ret ?_
  refine Then_ret ?_
  refine Fin_ret [.slice _ _ _] [] Tryz.results72 ⟨by rfl, trivial⟩ HSub.nil ?_
  exact ⟨none, 0, rfl, none, 0, rfl, Nat.le_refl _, .inr ⟨rfl, rfl, rfl⟩⟩
 ·
  try simp only [qz1, qz2, qz3, qz4, qz5, qz6, qz7, qz8] at c1
  refine W_skip ?_
  refine zS fun ds => ?_
  refine WS_newS hF rf (y_buildSliceL bs22_0 rf) (fun b1 => ?_)
  refine zm (.slice _ _ _) hF ?_
  refine WS_gen hF rf (y_append0 rf rf Tryz.underlying22 infInt rf hD.src hlen om0 om0) ?_
  rintro _ Hc hrow
  have hrow2 := hrow
  obtain ⟨a', cap', rfl, _⟩ := hrow2
  refine za (.slice _ _ _) hF ?_
  refine zN ?_
  refine W_ret ?_
  refine Fin_ret [.slice _ _ _] Hc Tryz.results72 ⟨by rfl, trivial⟩ (HSub.sub sbA) ?_
  exact ⟨_, _, rfl, hrow⟩
theorem co_splice (c : Cn) (h : c.inn.length ≤ 3) : splice [.int .i64 c.st, .int .i64 0, .int .i64 0, .int .i64 0] (0 + 1 * 1) (iv c.inn) = c.co.cells := by
 obtain ⟨s, i, t⟩ := c
 match i, h with
 | [], _ => rfl
 | [_], _ => rfl
 | [_, _], _ => rfl
 | [_, _, _], _ => rfl
 | _ :: _ :: _ :: _ :: _, h => simp only [List.length_cons] at h; omega
theorem iv_one (xs : List Int) : (iv xs).all Value.oneCell' = true := by
 unfold iv
 rw [List.all_eq_true]
 intro v hv
 obtain ⟨x, _, rfl⟩ := List.mem_map.1 hv
 rfl
theorem bstart_any (c : Cn) (a1 : Option Addr) (p1 : Nat) (a2 : Option Addr) (p2 : Nat) (w : World) (hok : c.Ok) (hn : c.n ≤ 1000000) (hm : c.inn.length ≤ 1000000) (h1 : Ints w a1 c.n p1 c.sz) (h2 : Ints w a2 c.inn.length p2 c.inn) : Ct Tryz.prog 58 #[.agg #[.slice a1 c.n p1, .slice a2 c.inn.length p2, .int .i64 c.st]] w fun v _ => v = .agg c.co.cells.toArray := by
 have hn3 := hok.n3
 have hlen := hok.len
 have hF := wide_wide
 refine Ct_start (args := [_]) Tryz.func58 rf Tryz.ntmps58 rf ?_
 refine zR fun ds => ?_
 refine WS_new hF rf (y_box rf) (fun b1 => ?_)
 refine WS_new hF rf (y_alloc Tryz.zeroValue106 rf) (fun b2 => ?_)
 refine zP fun ds => ?_
 refine zD hF (y_fieldAddr rf fa92_0) ?_
 refine zD hF (y_fieldAddr rf fa24_2) ?_
 refine zD hF (y_load1 rf Tryz.isAgg3 (Mem.own1 1 rf rf)) ?_
 refine zD hF (y_buildL bd106_0 rf) ?_
 refine WS_new hF rf (y_alloc Tryz.zeroValue106 rf) (fun bx => ?_)
 refine WS_store hF (us := [.int .i64 _, .int .i64 _, .int .i64 _, .int .i64 _]) (i := 0) rf rf Tryz.sizeOf106 rf rf rf d20 ?_
 refine zO ?_
 apply W_drawMT 4 hF Tryzmixed [] [] [] rf dk0 dc HSub.refl
 intro ds
 refine P_det rf (Over_nil (y_sliceA_lo (l := 1) (m := 4) rf rf rf dc Tryz.runUnderlying106 Tryz.sizeOf3)) ?_
 refine P_det rf (Over_nil (y_fieldAddr rf fa92_0)) ?_
 refine P_det rf (Over_nil (y_fieldAddr rf fa24_1)) ?_
 refine P_det rf (Over_nil (y_load1 rf Tryz.isAgg22 (Mem.own1 2 rf rf))) ?_
 refine PW_end rf ?_
 refine OverAll_nil ?_
 rintro -
 refine WS_copyS hF (i := 0) rf rf rf Tryz.runUnderlying22 Tryz.sizeOf3 h2.src (iv_len c.inn) om0 (iv_one _) rf (by rw [iv_len]; show 0 + 1 * 1 + _ ≤ 4; omega) ?_
 refine zO ?_
 rw [show splice (splice [.int .i64 0, .int .i64 0, .int .i64 0, .int .i64 0] 0 [.int .i64 c.st, .int .i64 0, .int .i64 0, .int .i64 0]) (0 + 1 * 1) (iv c.inn) = c.co.cells from co_splice c om0]
 refine W_region_lit (fun ds => ?_)
 refine zD hF (y_loadN rf Tryz.isAgg106 Tryz.sizeOf106 (Mem.own (us := [.int .i64 _, .int .i64 _, .int .i64 _, .int .i64 _]) 0 rf rf) rf) ?_
 refine WS_store hF (us := [.int .i64 _, .int .i64 _, .int .i64 _, .int .i64 _]) (i := 1) rf rf Tryz.sizeOf106 rf rf rf d20 ?_
 refine zN ?_
 refine W_ret ?_
 refine Fin_ret [_] [] Tryz.results58 ⟨lvN rf Tryz.isAgg106 Tryz.sizeOf106 (Mem.own (us := [.int .i64 _, .int .i64 _, .int .i64 _, .int .i64 _]) 1 rf rf) rf, trivial⟩ HSub.nil ?_
 rfl
theorem ints_of (c : Cn) (x : Co) (hn : c.n ≤ 3) {C : Ctx} {H : List Blk} {b T : Nat} (i : Nat) (hi : H[i]? = some (b, CB x.cells T)) (w : World) (hw : St C H w) : Ints w (some ⟨b, 1, none⟩) c.n 3 (c.of x).inn := by
 have hl := c.of_len x hn
 refine ⟨hl, hn, fun k hk => ⟨b, 1, rfl, ?_⟩⟩
 have := c.of_i x k hk hn
 unfold Cn.i at this
 rw [this]
 obtain ⟨rest, hd⟩ := x.drop (k := k + 1) om0
 rw [show 1 + k * 1 = 0 + (k + 1) * 1 by omega]
 rw [show 0 + (k + 1) * 1 = k + 1 by omega] at hd ⊢
 have hb := hw.get hi
 exact at_block (rest := rest) hb hd
theorem bcans_any (c : Cn) (a1 : Option Addr) (p1 : Nat) (a2 : Option Addr) (p2 : Nat) (x : Co) (w : World) (hok : c.Ok) (hn : c.n ≤ 1000000) (hm : c.inn.length ≤ 1000000) (h1 : Ints w a1 c.n p1 c.sz) (h2 : Ints w a2 c.inn.length p2 c.inn) : Ct Tryz.prog 64 #[.agg #[.slice a1 c.n p1, .slice a2 c.inn.length p2, .int .i64 c.st], .agg x.cells.toArray] w (TwinC (c.of x)) := by
 have hn3 := hok.n3
 have hF := wide_wide
 refine Ct_start (args := [_, _]) Tryz.func64 rf Tryz.ntmps64 rf ?_
 refine zR fun ds => ?_
 refine WS_new hF rf (y_box rf) (fun b1 => ?_)
 refine WS_new hF rf (y_box rf) (fun b2 => ?_)
 refine WS_new hF rf (y_alloc Tryz.zeroValue24 rf) (fun b3 => ?_)
 refine zO ?_
 apply W_draw1D hF Tryzmixed [1000000] 18 _ (i := 0) rf dk0
 intro ds
 refine P_det rf (Over_out rf (Over_nil (y_fieldAddr rf fa92_0))) ?_
 refine P_det rf (Over_out rf (Over_nil (y_fieldAddr rf fa24_0))) ?_
 refine P_det rf (Over_out rf (Over_nil (y_load1 rf Tryz.isAgg22 (Mem.own1 1 rf rf)))) ?_
 refine P_new rf rf (Over_out rf (Over_nil (y_callL rf rf Tryz.call72 (fun w hw => cloneN_any _ _ _ c.sz w hn (h1.st w hw))))) ?_
 refine P_det rf (Over_out rf (Over_out rf (Over_nil (y_fieldAddr rf fa92_0)))) ?_
 refine P_det rf (Over_out rf (Over_out rf (Over_nil (y_fieldAddr rf fa24_0)))) ?_
 refine P_det rf (Over_out rf (Over_out rf (Over_nil (y_load1 rf Tryz.isAgg22 (Mem.own1 1 rf rf))))) ?_
 refine P_det rf (Over_out rf (Over_out rf (Over_nil (y_len rf Tryz.runUnderlying22)))) ?_
 refine P_det rf (Over_out rf (Over_out rf (Over_nil (y_add rf rf ui)))) ?_
 refine P_det rf (Over_out rf (Over_out rf (Over_nil (YD_eq (y_sliceA_lohi (l := 1) (h := c.n + 1) (m := 4) rf rf rf rf om0 dc om0 om0 Tryz.runUnderlying106 Tryz.sizeOf3) (show Value.slice (some ⟨b2, 1, none⟩) (c.n + 1 - 1) 3 = .slice (some ⟨b2, 1, none⟩) c.n 3 by rw [Nat.add_sub_cancel]))))) ?_
 refine P_new rf rf (Over_out rf (Over_out rf (Over_nil (y_callL rf rf Tryz.call72 (fun w hw => cloneN_any _ _ _ (c.of x).inn w hn (ints_of c x hn3 0 rf w hw)))))) ?_
 refine P_det rf (Over_out rf (Over_out rf (Over_out rf (Over_nil (y_indexA (k := 0) rf rf r10 d10 Tryz.runUnderlying106 Tryz.sizeOf3))))) ?_
 refine P_det rf (Over_out rf (Over_out rf (Over_out rf (Over_nil (y_load1 rf Tryz.isAgg3 (Mem.own1 0 rf rf)))))) ?_
 refine P_ali [15, 8] (aggP [.inr 8, .inr 15, .inl _]) rf rf rf (aggP_congr rf) (Over_in rf (Over_in rf (Over_out rf (Over_nil (by intro vb6 l8 hb6; obtain ⟨z1, q1, rfl, hr1⟩ := hb6; intro vb7 l15 hb7; obtain ⟨z2, q2, rfl, hr2⟩ := hb7; exact (YD0_of (y_buildL bd24_0_1_2 rf))))))) ?_
 refine P_st 1000000 3 rf rf rf rf rf (Over_in rf (Over_in rf (Over_in rf (Over_nil (by intro vb9 l8 hb9; obtain ⟨z1, q1, rfl, hr1⟩ := hb9; intro vb10 l15 hb10; obtain ⟨z2, q2, rfl, hr2⟩ := hb10; rintro vb11 _ ⟨hvb11, rfl⟩; replace hvb11 : vb11 = .agg #[.slice _ _ _, .slice _ _ _, .int .i64 _] := hvb11; subst hvb11; exact (st_preD (fun _ => by rfl) rf rf Tryz.sizeOf24 rf rf d20)))))) ?_
 refine PW_end rf ?_
 refine OverAll_cons (fun w18 l18 => ?_)
 refine OverAll_cons (fun w15 l15 => ?_)
 refine OverAll_cons (fun w8 l8 => ?_)
 refine OverAll_cons (fun w1000000 l1000000 => ?_)
 refine OverAll_nil ?_
 rintro ⟨⟨⟨⟨-, h18⟩, h15⟩, h8⟩, h1000000⟩
 obtain ⟨z1, q1, rfl, hr1⟩ := h8
 obtain ⟨z2, q2, rfl, hr2⟩ := h15
 obtain ⟨h18, rfl⟩ := h18
 replace h18 : w18 = .agg #[.slice _ _ _, .slice _ _ _, .int .i64 _] := h18
 subst h18
 obtain rfl := h1000000
 refine Then_normal ?_
 refine W_ret ?_
 refine Fin_ret [_] (l8 ++ l15) Tryz.results64 ⟨lvN rf Tryz.isAgg24 Tryz.sizeOf24 (Mem.own (us := [.slice _ _ _, .slice _ _ _, .int .i64 _]) 0 rf rf) rf, trivial⟩ (HSub.sub sbA) ?_
 have hl := c.of_len x hn3
 refine ⟨z1, q1, z2, q2, l8, l15, ?_, hr1, by rw [hl]; exact hr2, rfl⟩
 rw [hl]; rfl
theorem Cn.err_iff {c : Cn} : c.err = 0 ↔ c.okB = true := by
 unfold Cn.err
 split
 ·rename_i h; simp [h]
 ·rename_i h; simp [h]
theorem Cn.err_no {c : Cn} (h : ¬ c.err = 0) : c.okB = false ∧ c.err = 80 := by
 rw [Cn.err_iff] at h
 have h' : c.okB = false := by simpa using h
 exact ⟨h', by unfold Cn.err; rw [h']; rfl⟩
theorem Cn.can_to {c : Cn} {x : Co} {f t : Nat} (h : c.canB x f t = true) : (if c.noB x f t then x else c.to x f t) = c.to x f t := by
 unfold Cn.canB at h
 rw [Bool.and_eq_true, Bool.not_eq_true'] at h
 rw [h.1]; rfl
theorem bpourP_any (c : Cn) (a1 : Option Addr) (p1 : Nat) (a2 : Option Addr) (p2 : Nat) (x : Co) (p : Po) (w : World) (hok : c.Ok) (hn : c.n ≤ 1000000) (hm : c.inn.length ≤ 1000000) (h1 : Ints w a1 c.n p1 c.sz) (h2 : Ints w a2 c.inn.length p2 c.inn) (hin : c.In x) (hv : c.vldB p = true) :
  Ct Tryz.prog 60 #[.agg #[.slice a1 c.n p1, .slice a2 c.inn.length p2, .int .i64 c.st], .agg x.cells.toArray, .agg p.cells.toArray] w fun v _ => v = c.pourR x p.f.toNat p.t.toNat := by
 obtain ⟨pf, pt⟩ := p
 obtain ⟨⟨hf0, hf1⟩, ⟨ht0, ht1⟩, hne⟩ := Cn.vld_iff.1 hv
 simp only at hf0 hf1 ht0 ht1 hne
 obtain ⟨f, rfl⟩ := Int.eq_ofNat_of_zero_le hf0
 obtain ⟨t, rfl⟩ := Int.eq_ofNat_of_zero_le ht0
 exact bpour_any c a1 p1 a2 p2 x f t w hok hn hm h1 h2 hin om0 om0 om0
theorem play_any (c : Cn) (a1 : Option Addr) (p1 : Nat) (a2 : Option Addr) (p2 : Nat) (l : List Po) (la : Option Addr) (lcap : Nat) (w : World) (hG : Gv w) (hl : l.length ≤ 1000000) (hn : c.n ≤ 1000000) (hm : c.inn.length ≤ 1000000) (h1 : Ints w a1 c.n p1 c.sz) (h2 : Ints w a2 c.inn.length p2 c.inn) (hp : Pos w la l.length lcap l) : Ct Tryz.prog 39 #[.agg #[.slice a1 c.n p1, .slice a2 c.inn.length p2, .int .i64 c.st], .slice la l.length lcap] w (PlayV c l) := by
 have hF := wide_wide
 refine Ct_start (args := [_, _]) Tryz.func39 rf Tryz.ntmps39 rf ?_
 refine zR fun ds => ?_
 refine WS_new hF rf (y_box rf) (fun b1 => ?_)
 refine WS_new hF rf (y_alloc Tryz.zeroValue24 rf) (fun b2 => ?_)
 refine za (.int .i64 _) hF ?_
 refine za (.int .i64 _) hF ?_
 refine za (.int .i64 _) hF ?_
 refine zO ?_
 refine zR fun ds => ?_
 refine zD hF (y_loadN rf Tryz.isAgg24 Tryz.sizeOf24 (Mem.own (us := [.slice _ _ _, .slice _ _ _, .int .i64 _]) 1 rf rf) rf) ?_
 refine zD hF (y_callL rf rf Tryz.call47 (fun w hw => ccheck_any c a1 p1 a2 p2 w (hG.st w hw) hn hm (h1.st w hw) (h2.st w hw))) ?_
 refine za (.int .i64 _) hF ?_
 refine zP fun ds => ?_
 refine zm (.int .i64 _) hF ?_
 refine zD hF (y_neq rf rf) ?_
 refine zN ?_
 refine W_cond rf (fun c2 => ?_) (fun c2 => ?_)
 ·
  try simp only [qz1, qz2, qz3, qz4, qz5, qz6, qz7, qz8] at c2
  refine zR fun ds => ?_
  refine zD hF (y_buildL bd24 rf) ?_
  refine zm (.int .i64 _) hF ?_
  refine WS_store hF (us := [.slice _ _ _, .slice _ _ _, .int .i64 _]) (i := 0) rf rf Tryz.sizeOf24 rf rf rf d20 ?_
  refine za (.int .i64 _) hF ?_
  refine za (.int .i64 _) hF ?_
  refine za (.int .i64 _) hF ?_
  refine zN ?_
  refine W_ret ?_
  refine Then_ret ?_
  refine Fin_ret [_, .int .i64 _, .int .i64 _, .int .i64 _] [] Tryz.results39 ⟨lvN rf Tryz.isAgg24 Tryz.sizeOf24 (Mem.own (us := [.slice _ _ _, .slice _ _ _, .int .i64 _]) 0 rf rf) rf, by rfl, by rfl, by rfl, trivial⟩ HSub.nil ?_
  obtain ⟨h1, h2⟩ := Cn.err_no c2
  rw [h2]
  exact PlayV.bad h1
 ·
  try simp only [qz1, qz2, qz3, qz4, qz5, qz6, qz7, qz8] at c2
  have c1 := Cn.err_iff.1 c2
  have hok := Cn.ok_iff.1 c1
  have hn3 := hok.n3
  refine W_skip ?_
  refine zS fun ds => ?_
  refine zD hF (y_loadN rf Tryz.isAgg24 Tryz.sizeOf24 (Mem.own (us := [.slice _ _ _, .slice _ _ _, .int .i64 _]) 1 rf rf) rf) ?_
  refine zD hF (y_buildL bd92_0 rf) ?_
  refine WS_new hF rf (y_alloc Tryz.zeroValue92 rf) (fun bb => ?_)
  refine WS_store hF (us := [.slice _ _ _, .slice _ _ _, .int .i64 _]) (i := 0) rf rf Tryz.sizeOf92 rf rf rf d20 ?_
  refine zP fun ds => ?_
  refine zD hF (y_loadN rf Tryz.isAgg92 Tryz.sizeOf92 (Mem.own (us := [.slice _ _ _, .slice _ _ _, .int .i64 _]) 0 rf rf) rf) ?_
  refine zD hF (y_callL rf rf Tryz.call58 (fun w hw => bstart_any c a1 p1 a2 p2 w hok hn hm (h1.st w hw) (h2.st w hw))) ?_
  refine WS_new hF rf (y_alloc Tryz.zeroValue106 rf) (fun bx => ?_)
  refine WS_store hF (us := [.int .i64 _, .int .i64 _, .int .i64 _, .int .i64 _]) (i := 0) rf rf Tryz.sizeOf106 rf rf rf d20 ?_
  refine zO ?_
  refine zR fun ds => ?_
  refine zm (.slice _ _ _) hF ?_
  refine zD hF (y_len rf Tryz.runUnderlying35) ?_
  refine zm (.int .i64 _) hF ?_
  refine zN ?_
  refine W_block ?_
  refine W_loop (γ := Nat) (fun k => k ≤ l.length ∧ ∀ j, j < k → c.pE (c.runK l j) (l.getD j Po.z) = 0) (fun k => [(4, .pointer (some ⟨b2, 0, none⟩)), (5, .int .i64 (c.backK l k)), (9, .pointer (some ⟨bb, 0, none⟩)), (10, .pointer (some ⟨bx, 0, none⟩)), (25, .slice la l.length lcap), (26, .int .i64 (l.length : Int)), (27, .int .i64 (k : Int))]) (fun k => [(bx, CB (c.runK l k).cells 106), (bb, CB [.slice a1 c.n p1, .slice a2 c.inn.length p2, .int .i64 c.st] 92), (b2, CB [.slice none 0 0, .slice none 0 0, .int .i64 0] 24)]) (fun k => l.length - k) (0) ⟨Nat.zero_le _, fun j h => absurd h (Nat.not_lt_zero _)⟩ s10 (sbA) ?_
  rintro k e ⟨hk, hj⟩
  refine zR fun ds => ?_
  refine zD hF (y_lss rf rf) ?_
  refine zO ?_
  refine W_cond rf (fun c7 => ?_) (fun c7 => ?_)
  ·
   try simp only [qz1, qz2, qz3, qz4, qz5, qz6, qz7, qz8] at c7
   have hin := hok.run_in hj
   have hbb := hok.back_bd hj
   obtain ⟨b, o, rfl, hc⟩ := hp.cell k om0
   change At w b _ (l.getD k Po.z).cells at hc
   refine zU ?_
   refine W_seq ?_
   refine W_block ?_
   refine zR fun ds => ?_
   refine zm (.int .i64 _) hF ?_
   refine zD hF (y_index (k := k) rf rf r10 d10 Tryz.runUnderlying35 Tryz.sizeOf47) ?_
   refine zD hF (y_loadN rf Tryz.isAgg47 Tryz.sizeOf47 (zq [.int .i64 _, .int .i64 _]) rf) ?_
   refine WS_new hF rf (y_alloc Tryz.zeroValue47 rf) (fun b3 => ?_)
   refine za (.int .i64 _) hF ?_
   refine WS_store hF (us := [.int .i64 _, .int .i64 _]) (i := 0) rf rf Tryz.sizeOf47 rf rf rf d20 ?_
   refine zO ?_
   refine zR fun ds => ?_
   refine zD hF (y_loadN rf Tryz.isAgg92 Tryz.sizeOf92 (Mem.own (us := [.slice _ _ _, .slice _ _ _, .int .i64 _]) 2 rf rf) rf) ?_
   refine zD hF (y_loadN rf Tryz.isAgg47 Tryz.sizeOf47 (Mem.own (us := [.int .i64 _, .int .i64 _]) 0 rf rf) rf) ?_
   refine zD hF (y_callL rf rf Tryz.call57 (fun w hw => bvalid_any c a1 p1 a2 p2 (l.getD k Po.z) w)) ?_
   refine zD hF (y_not rf) ?_
   refine zN ?_
   refine W_cond rf (fun c9 => ?_) (fun c9 => ?_)
   ·
    try simp only [qz1, qz2, qz3, qz4, qz5, qz6, qz7, qz8] at c9
    refine zR fun ds => ?_
    refine zD hF (y_buildL bd24 rf) ?_
    refine zm (.int .i64 _) hF ?_
    refine WS_store hF (us := [.slice _ _ _, .slice _ _ _, .int .i64 _]) (i := 3) rf rf Tryz.sizeOf24 rf rf rf d20 ?_
    refine za (.int .i64 _) hF ?_
    refine za (.int .i64 _) hF ?_
    refine za (.int .i64 _) hF ?_
    refine zN ?_
    refine W_ret ?_
    refine Then_ret ?_
    refine InB_ret ?_
    refine Then_ret ?_
    refine Loop_ret ?_
    refine InB_ret ?_
    refine Then_ret ?_
    refine Fin_ret [_, .int .i64 _, .int .i64 _, .int .i64 _] [] Tryz.results39 ⟨lvN rf Tryz.isAgg24 Tryz.sizeOf24 (Mem.own (us := [.slice _ _ _, .slice _ _ _, .int .i64 _]) 3 rf rf) rf, by rfl, by rfl, by rfl, trivial⟩ HSub.nil ?_
    refine PlayV.stop c1 om0 hj ?_ dc
    unfold Cn.pE
    rw [c9]; rfl
   ·
    try simp only [qz1, qz2, qz3, qz4, qz5, qz6, qz7, qz8] at c9
    have hpe : c.pE (c.runK l k) (l.getD k Po.z) = if c.canB (c.runK l k) (l.getD k Po.z).f.toNat (l.getD k Po.z).t.toNat then 0 else 6 := by
     unfold Cn.pE
     rw [if_pos c9]
    refine W_skip ?_
    refine zS fun ds => ?_
    refine zD hF (y_loadN rf Tryz.isAgg92 Tryz.sizeOf92 (Mem.own (us := [.slice _ _ _, .slice _ _ _, .int .i64 _]) 2 rf rf) rf) ?_
    refine zD hF (y_loadN rf Tryz.isAgg106 Tryz.sizeOf106 (Mem.own (us := [.int .i64 _, .int .i64 _, .int .i64 _, .int .i64 _]) 1 rf rf) rf) ?_
    refine zD hF (y_loadN rf Tryz.isAgg47 Tryz.sizeOf47 (Mem.own (us := [.int .i64 _, .int .i64 _]) 0 rf rf) rf) ?_
    refine zD hF (y_callL rf rf Tryz.call60 (fun w hw => bpourP_any c a1 p1 a2 p2 (c.runK l k) (l.getD k Po.z) w hok hn hm (h1.st w hw) (h2.st w hw) hin c9)) ?_
    refine zm (.tuple _) hF ?_
    refine zD hF (y_extract (c := .agg _) rf rf) ?_
    refine zD hF (y_extract (c := .bool _) rf rf) ?_
    refine WS_new hF rf (y_alloc Tryz.zeroValue106 rf) (fun b4 => ?_)
    refine WS_store hF (us := [.int .i64 _, .int .i64 _, .int .i64 _, .int .i64 _]) (i := 0) rf rf Tryz.sizeOf106 rf rf rf d20 ?_
    refine za (.bool _) hF ?_
    refine zO ?_
    refine zR fun ds => ?_
    refine zm (.bool _) hF ?_
    refine zD hF (y_not rf) ?_
    refine zN ?_
    refine W_cond rf (fun c12 => ?_) (fun c12 => ?_)
    ·
     try simp only [qz1, qz2, qz3, qz4, qz5, qz6, qz7, qz8] at c12
     refine zR fun ds => ?_
     refine zD hF (y_buildL bd24 rf) ?_
     refine zm (.int .i64 _) hF ?_
     refine WS_store hF (us := [.slice _ _ _, .slice _ _ _, .int .i64 _]) (i := 4) rf rf Tryz.sizeOf24 rf rf rf d20 ?_
     refine za (.int .i64 _) hF ?_
     refine za (.int .i64 _) hF ?_
     refine za (.int .i64 _) hF ?_
     refine zN ?_
     refine W_ret ?_
     refine Then_ret ?_
     refine InB_ret ?_
     refine Then_ret ?_
     refine Loop_ret ?_
     refine InB_ret ?_
     refine Then_ret ?_
     refine Fin_ret [_, .int .i64 _, .int .i64 _, .int .i64 _] [] Tryz.results39 ⟨lvN rf Tryz.isAgg24 Tryz.sizeOf24 (Mem.own (us := [.slice _ _ _, .slice _ _ _, .int .i64 _]) 4 rf rf) rf, by rfl, by rfl, by rfl, trivial⟩ HSub.nil ?_
     refine PlayV.stop c1 om0 hj ?_ dc
     rw [hpe, c12]; rfl
    ·
     try simp only [qz1, qz2, qz3, qz4, qz5, qz6, qz7, qz8] at c12
     have hj2 : ∀ j, j < k + 1 → c.pE (c.runK l j) (l.getD j Po.z) = 0 := fun j h => by by_cases hjk : j = k; (subst hjk; rw [hpe, c12]; rfl); exact hj j om0
     have hto : (if c.noB (c.runK l k) (l.getD k Po.z).f.toNat (l.getD k Po.z).t.toNat then c.runK l k else c.to (c.runK l k) (l.getD k Po.z).f.toNat (l.getD k Po.z).t.toNat) = c.runK l (k + 1) := Cn.can_to c12
     have hin2 := hok.run_in hj2
     have a1 : 0 ≤ (c.runK l k).a := hin.lo 0 dc
     have a2 : (c.runK l k).a ≤ 600 := hin.hi 0 (Nat.zero_le _)
     have a3 : 0 ≤ (c.runK l (k + 1)).a := hin2.lo 0 dc
     have a4 : (c.runK l (k + 1)).a ≤ 600 := hin2.hi 0 (Nat.zero_le _)
     rw [hto]
     refine W_skip ?_
     refine zS fun ds => ?_
     refine zm (.int .i64 _) hF ?_
     refine zD hF (y_indexA (k := 0) rf rf r10 d10 Tryz.runUnderlying106 Tryz.sizeOf3) ?_
     refine zD hF (y_load1 rf Tryz.isAgg3 (Mem.own1 0 rf rf)) ?_
     refine zD hF (y_indexA (k := 0) rf rf r10 d10 Tryz.runUnderlying106 Tryz.sizeOf3) ?_
     refine zD hF (y_load1 rf Tryz.isAgg3 (Mem.own1 2 rf rf)) ?_
     refine zD hF (y_sub rf rf ui) ?_
     refine zD hF (y_max rf rf) ?_
     refine zD hF (y_add rf rf ui) ?_
     refine za (.int .i64 _) hF ?_
     refine zQ fun ds => ?_
     refine zD hF (y_loadN rf Tryz.isAgg106 Tryz.sizeOf106 (Mem.own (us := [.int .i64 _, .int .i64 _, .int .i64 _, .int .i64 _]) 0 rf rf) rf) ?_
     refine WS_store hF (us := [.int .i64 _, .int .i64 _, .int .i64 _, .int .i64 _]) (i := 2) rf rf Tryz.sizeOf106 rf rf rf d20 ?_
     refine WS_nil ?_
     refine InB_normal ?_
     refine zT fun ds => ?_
     refine zD hF (y_add rf rf ui) ?_
     refine zm (.int .i64 _) hF ?_
     refine WS_nil ?_
     exact Loop_next (k + 1) ⟨by omega, hj2⟩ s10 sbA om0
  ·
   try simp only [qz1, qz2, qz3, qz4, qz5, qz6, qz7, qz8] at c7
   refine W_exit ?_
   refine Then_exit ?_
   refine Loop_exit ?_
   refine InB_same ?_
   refine zS fun ds => ?_
   refine zD hF (y_loadN rf Tryz.isAgg92 Tryz.sizeOf92 (Mem.own (us := [.slice _ _ _, .slice _ _ _, .int .i64 _]) 1 rf rf) rf) ?_
   refine zD hF (y_loadN rf Tryz.isAgg106 Tryz.sizeOf106 (Mem.own (us := [.int .i64 _, .int .i64 _, .int .i64 _, .int .i64 _]) 0 rf rf) rf) ?_
   refine WS_gen hF rf (y_callL rf rf Tryz.call64 (fun w hw => bcans_any c a1 p1 a2 p2 (c.runK l k) w hok hn hm (h1.st w hw) (h2.st w hw))) ?_
   rintro _ _ ⟨z1, q1, z2, q2, H1, H2, rfl, hr1, hr2, rfl⟩
   refine WS_back ?_
   refine zm (.int .i64 _) hF ?_
   refine WS_store hF (us := [.slice _ _ _, .slice _ _ _, .int .i64 _]) (i := 2) rf rf Tryz.sizeOf24 rf rf rf d20 ?_
   refine za (.int .i64 _) hF ?_
   refine za (.int .i64 _) hF ?_
   refine za (.int .i64 _) hF ?_
   refine zN ?_
   refine W_ret ?_
   refine Fin_ret [_, .int .i64 _, .int .i64 _, .int .i64 _] (H1 ++ H2) Tryz.results39 ⟨lvN rf Tryz.isAgg24 Tryz.sizeOf24 (Mem.own (us := [.slice _ _ _, .slice _ _ _, .int .i64 _]) 2 rf rf) rf, by rfl, by rfl, by rfl, trivial⟩ (HSub.sub sbA) ?_
   obtain rfl : k = l.length := by omega
   exact PlayV.go c1 hj ⟨_, _, _, _, H1, H2, rfl, hr1, hr2, rfl⟩
def u4c (x : Int) : List Value := [.int .u32 x]
structure U4s (w : World) (a : Option Addr) (n cap : Nat) (xs : List Int) : Prop where
 row : Rws u4c 1 0 w a n cap xs
 bd : ∀ k, k < n → 0 ≤ xs.getD k 0 ∧ xs.getD k 0 ≤ 4294967295
 le : n ≤ 9223372036854775807
theorem U4s.st {C : Ctx} {H : List Blk} {a : Option Addr} {n cap : Nat} {xs : List Int} (h : U4s C.w0 a n cap xs) (w : World) (hw : St C H w) : U4s w a n cap xs := ⟨h.row.st w hw, h.bd, h.le⟩
theorem lchoose_any (a : Option Addr) (n cap : Nat) (xs : List Int) (i : Nat) (w : World) (hn : n ≤ 9223372036854775807) (hi : i ≤ 1000) (hx : U4s w a n cap xs) : Ct Tryz.prog 51 #[.slice a n cap, .int .i64 (i : Int)] w fun v _ => ∃ m : Nat, v = .int .i64 (m : Int) ∧ m ≤ 4294967295 := by
 have hF := wide_wide
 refine Ct_start (args := [_, _]) Tryz.func51 rf Tryz.ntmps51 rf ?_
 refine zR fun ds => ?_
 refine za (.int .i64 _) hF ?_
 refine zO ?_
 refine zR fun ds => ?_
 refine zm (.slice _ _ _) hF ?_
 refine zD hF (y_len rf Tryz.runUnderlying25) ?_
 refine zD hF (y_eql rf rf) ?_
 refine zN ?_
 refine W_cond rf (fun c1 => ?_) (fun c1 => ?_)
 ·
  try simp only [qz1, qz2, qz3, qz4, qz5, qz6, qz7, qz8] at c1
  refine zR fun ds => ?_
  refine za (.int .i64 _) hF ?_
  refine zN ?_
  refine W_ret ?_
  refine Then_ret ?_
  refine Fin_ret [.int .i64 _] [] Tryz.results51 ⟨by rfl, trivial⟩ HSub.nil ?_
  exact ⟨0, rfl, Nat.zero_le _⟩
 ·
  try simp only [qz1, qz2, qz3, qz4, qz5, qz6, qz7, qz8] at c1
  have hlt : i % n < n := Nat.mod_lt _ om0
  obtain ⟨b, o, rfl, hc⟩ := hx.row.cell (i % n) hlt
  change At w b _ [.int .u32 (xs.getD (i % n) 0)] at hc
  have hb := hx.bd (i % n) hlt
  refine W_skip ?_
  refine zS fun ds => ?_
  refine zm (.slice _ _ _) hF ?_
  refine zm (.int .i64 _) hF ?_
  refine zm (.slice _ _ _) hF ?_
  refine zD hF (y_len rf Tryz.runUnderlying25) ?_
  refine zD hF (y_rem rf rf om0 om0) ?_
  refine zD hF (y_index (k := i % n) rf rf r10 d10 Tryz.runUnderlying25 Tryz.sizeOf169) ?_
  refine zD hF (y_load1 rf Tryz.isAgg169 zo) ?_
  refine zD hF (y_conv_iu rf Tryz.runUnderlying169 Tryz.runUnderlying3 (by first | exact IntWalk.i64_in _ om0 | exact IntWalk.u64_in _ om0)) ?_
  refine za (.int .i64 _) hF ?_
  refine zN ?_
  refine W_ret ?_
  refine Fin_ret [.int .i64 _] [] Tryz.results51 ⟨by rfl, trivial⟩ HSub.nil ?_
  exact ⟨(xs.getD (i % n) 0).toNat, by rw [Int.toNat_of_nonneg hb.1]; rfl, by omega⟩
def Cn.pou2 (c : Cn) (f t : Nat) (m : Int) : Cn := (c.put t (c.has t + m)).put f (c.has f - m)
theorem Cn.Ok.pou2 {c : Cn} (h : c.Ok) {f t : Nat} (hf : f ≤ c.n) (ht : t ≤ c.n) (hft : f ≠ t) : c.pou2 f t (c.amt c.co f t) = c.of (c.to c.co f t) := by
 have h3 := h.n3
 unfold Cn.pou2
 rw [c.has_co f om0, c.has_co t om0]
 conv => lhs; arg 1; arg 1; rw [← h.co_of]
 rw [Cn.of_put _ _ _ _ h3 ht, Cn.of_put _ _ _ _ h3 hf]
 congr 1
 refine Co.ext4 fun k hk => ?_
 unfold Cn.to
 rw [Co.g_w _ _ om0 hk, Co.g_w _ _ om0 hk, Co.g_w _ _ om0 hk, Co.g_w _ _ om0 hk]
 by_cases e1 : k = f
 ·subst e1; rw [if_pos rfl, if_neg hft, if_pos rfl]
 ·rw [if_neg e1, if_neg e1]
theorem Cn.pou2_sz (c : Cn) (f t : Nat) (m : Int) : (c.pou2 f t m).sz = c.sz := by cases f <;> cases t <;> rfl
theorem Cn.pou2_len (c : Cn) (f t : Nat) (m : Int) : (c.pou2 f t m).inn.length = c.inn.length := by cases f <;> cases t <;> simp [Cn.pou2, Cn.put]
def Cn.StI (c : Cn) (f t : Nat) (m : Int) : Prop := 0 ≤ m ∧ m ≤ 600 ∧ (c.canB c.co f t = (decide (m > 0) && decide ((c.pou2 f t m).st ≤ 600))) ∧ (c.canB c.co f t = true → m = c.amt c.co f t)
theorem Cn.Ok.stI_pp {c : Cn} (h : c.Ok) {i j : Nat} (hj : j < c.n) (hi : i < c.n) : c.StI (j + 1) (i + 1) (min (c.i j) (c.s i - c.i i)) := by
 have h3 := h.n3
 have a := h.i j hj
 have b := h.s j hj
 have d := h.i i hi
 have e := h.st1
 have hl : c.lack c.co (i + 1) = c.s i - c.i i := by unfold Cn.lack; rw [c.co_g i om0]; rfl
 have hm : c.amt c.co (j + 1) (i + 1) = min (c.i j) (c.s i - c.i i) := by unfold Cn.amt; rw [hl, c.co_g j om0]
 refine ⟨by omega, by omega, ?_, fun _ => hm.symm⟩
 rw [Bool.eq_iff_iff, Cn.canB_iff, hm]
 simp only [Bool.and_eq_true, decide_eq_true_eq]
 show _ ↔ _ ∧ c.st ≤ 600
 omega
theorem Cn.Ok.stI_pz {c : Cn} (h : c.Ok) {j : Nat} (hj : j < c.n) : c.StI (j + 1) 0 (c.i j) := by
 have h3 := h.n3
 have a := h.i j hj
 have b := h.s j hj
 have e := h.st1
 have hl : c.lack c.co 0 = 600 - c.st := rfl
 have hm : c.amt c.co (j + 1) 0 = min (c.i j) (600 - c.st) := by unfold Cn.amt; rw [hl, c.co_g j om0]
 have hc : c.canB c.co (j + 1) 0 = true ↔ (¬ (600 - c.st < c.i j)) ∧ 0 < min (c.i j) (600 - c.st) := by
  rw [Cn.canB_iff, hm, hl, c.co_g j om0]
  omega
 refine ⟨by omega, by omega, ?_, fun h => ?_⟩
 ·rw [Bool.eq_iff_iff, hc]
  simp only [Bool.and_eq_true, decide_eq_true_eq]
  show _ ↔ _ ∧ c.st + c.i j ≤ 600
  omega
 ·rw [hc] at h
  rw [hm]; omega
theorem Cn.Ok.stI_zp {c : Cn} (h : c.Ok) {i : Nat} (hi : i < c.n) (hno : ¬ (c.s i - c.i i > c.st)) : c.StI 0 (i + 1) (min c.st (c.s i - c.i i)) := by
 have h3 := h.n3
 have d := h.i i hi
 have s := h.s i hi
 have e0 := h.st0
 have e := h.st1
 have hl : c.lack c.co (i + 1) = c.s i - c.i i := by unfold Cn.lack; rw [c.co_g i om0]; rfl
 have hm : c.amt c.co 0 (i + 1) = min c.st (c.s i - c.i i) := by unfold Cn.amt; rw [hl]; rfl
 refine ⟨by omega, by omega, ?_, fun _ => hm.symm⟩
 rw [Bool.eq_iff_iff, Cn.canB_iff, hm, hl]
 simp only [Bool.and_eq_true, decide_eq_true_eq]
 have e1 : c.co.g 0 = c.st := rfl
 have e2 : (c.pou2 0 (i + 1) (min c.st (c.s i - c.i i))).st = c.st - min c.st (c.s i - c.i i) := rfl
 rw [e1, e2]
 omega
theorem Cn.Ok.stI_no {c : Cn} (h : c.Ok) {i : Nat} (hi : i < c.n) (hno : c.s i - c.i i > c.st) : c.canB c.co 0 (i + 1) = false := by
 have h3 := h.n3
 have hl : c.lack c.co (i + 1) = c.s i - c.i i := by unfold Cn.lack; rw [c.co_g i om0]; rfl
 cases hb : c.canB c.co 0 (i + 1) with
 | false => rfl
 | true =>
  rw [Cn.canB_iff, hl] at hb
  exact absurd ⟨rfl, hno⟩ hb.1.1
def StpV (c : Cn) (f t : Nat) (v : Value) (Hn : List Blk) : Prop := ∃ (d : Cn) (n : Int) (v0 : Value), v = .tuple #[v0, .int .i64 n, .bool (c.canB c.co f t)] ∧ TwinC d v0 Hn ∧ (c.canB c.co f t = true → d = c.of (c.to c.co f t) ∧ n = c.amt c.co f t)
theorem lstep_any (c : Cn) (a1 : Option Addr) (p1 : Nat) (a2 : Option Addr) (p2 : Nat) (f t : Nat) (w : World) (hok : c.Ok) (hn : c.n ≤ 1000000) (hm : c.inn.length ≤ 1000000) (h1 : Ints w a1 c.n p1 c.sz) (h2 : Ints w a2 c.inn.length p2 c.inn) (hf : f ≤ c.n) (ht : t ≤ c.n) (hft : f ≠ t) : Ct Tryz.prog 24 #[.agg #[.slice a1 c.n p1, .slice a2 c.inn.length p2, .int .i64 c.st], .agg #[.int .i64 (f : Int), .int .i64 (t : Int)]] w (StpV c f t) := by
 have hn1 := hok.n1
 have hn3 := hok.n3
 have hlen := hok.len
 have hs0 := hok.st0
 have hs1 := hok.st1
 have hsz : c.sz.length = c.n := rfl
 have hF := wide_wide
 refine Ct_start (args := [_, _]) Tryz.func24 rf Tryz.ntmps24 rf ?_
 refine zR fun ds => ?_
 refine WS_new hF rf (y_box rf) (fun b1 => ?_)
 refine WS_new hF rf (y_box rf) (fun b2 => ?_)
 refine WS_new hF rf (y_alloc Tryz.zeroValue24 rf) (fun b3 => ?_)
 refine za (.int .i64 _) hF ?_
 refine za (.bool _) hF ?_
 refine zP fun ds => ?_
 refine zD hF (y_loadN rf Tryz.isAgg24 Tryz.sizeOf24 (Mem.own (us := [.slice _ _ _, .slice _ _ _, .int .i64 _]) 2 rf rf) rf) ?_
 refine WS_gen hF rf (y_callL rf rf Tryz.call65 (fun w hw => rctwin_any c a1 p1 a2 p2 w hn hm (h1.st w hw) (h2.st w hw))) ?_
 rintro _ _ ⟨z1, q1, z2, q2, H1, H2, rfl, hr1, hr2, rfl⟩
 obtain ⟨pb, pj, rfl, rfl, pl, ple⟩ := NewRow.head hr2 om0
 refine WS_back ?_
 refine WS_new hF rf (y_alloc Tryz.zeroValue24 rf) (fun bo => ?_)
 refine WS_store hF (us := [.slice _ _ _, .slice _ _ _, .int .i64 _]) (i := 0) rf rf Tryz.sizeOf24 rf rf rf d20 ?_
 refine zO ?_
 refine W_pull (pb, CB (iv c.inn ++ pj) 3) zu ?_
 refine W_region_lit (fun ds => ?_)
 refine zD hF (y_fieldAddr rf fa24_2) ?_
 refine zD hF (y_load1 rf Tryz.isAgg3 (Mem.own1 4 rf rf)) ?_
 refine za (.int .i64 _) hF ?_
 refine zN ?_
 refine W_J3 (γ := Int) (fun m => c.StI f t m) [(4, .pointer _), (5, .int .i64 _), (6, .bool _), (7, .pointer _)] (fun m => [(8, .int .i64 m)]) (fun m => (pb, CB (iv (c.pou2 f t m).inn ++ pj) 3) :: (bo, CB [.slice z1 c.n q1, .slice (some ⟨pb, 0, none⟩) c.inn.length q2, .int .i64 (c.pou2 f t m).st] 24) :: (b3, CB [.slice none 0 0, .slice none 0 0, .int .i64 0] 24) :: H1) slt ?_ ?_
 ·
  rintro m e ⟨hm0, hm1, hcan, ham⟩
  refine W_seq ?_
  apply W_draw1 hF Tryzmixed [1000000] (i := 2) rf dk0
  intro ds
  refine P_det rf (Over_out rf (Over_nil (y_loadN rf Tryz.isAgg24 Tryz.sizeOf24 (Mem.own (us := [.slice _ _ _, .slice _ _ _, .int .i64 _]) 1 rf rf) rf))) ?_
  refine P_det rf (Over_out rf (Over_nil (y_move (c := .int .i64 _) rf))) ?_
  refine P_det rf (Over_out rf (Over_nil (y_move (c := .int .i64 _) rf))) ?_
  refine P_det rf (Over_out rf (Over_nil (y_gtr rf rf))) ?_
  refine P_det rf (Over_out rf (Over_nil (y_move (c := .bool _) rf))) ?_
  refine P_split 91 rf (fun g15_4 => ?_) (fun g15_4 => ?_)
  ·
   try simp only [qz1, qz2, qz3, qz4, qz5, qz6, qz7, qz8] at g15_4
   refine P_det rf (Over_out rf (Over_nil (y_fieldAddr rf fa24_2))) ?_
   refine P_det rf (Over_out rf (Over_nil (y_load1 rf Tryz.isAgg3 (Mem.own1 1 rf rf)))) ?_
   refine P_det rf (Over_out rf (Over_nil (y_leq rf rf))) ?_
   refine P_det rf (Over_out rf (Over_nil (by first | exact y_pick_t (c := .bool _) rf rf | exact y_pick_f (c := .bool _) rf rf))) ?_
   refine P_st 1000000 0 rf rf rf rf rf (Over_nil (st_pre (fun _ => by rfl) (fun _ => by rfl) Tryz.sizeOf24 rf rf d20)) ?_
   refine P_det rf (Over_out rf (Over_nil (y_assign (c := .int .i64 _) rf))) ?_
   refine P_det rf (Over_out rf (Over_nil (y_assign (c := .bool _) rf))) ?_
   refine PW_end rf ?_
   refine OverAll_cons (fun w1000000 l1000000 => ?_)
   refine OverAll_nil ?_
   rintro ⟨-, h1000000⟩
   obtain rfl := h1000000
   refine Then_normal ?_
   refine W_ret ?_
   refine Fin_ret [_, .int .i64 _, .bool _] (H1 ++ [(pb, _)]) Tryz.results24 ⟨lvN rf Tryz.isAgg24 Tryz.sizeOf24 (Mem.own (us := [.slice _ _ _, .slice _ _ _, .int .i64 _]) 0 rf rf) rf, by rfl, by rfl, trivial⟩ (HSub.perm (Hn := (pb, _) :: H1) (HSub.sub sbA) (List.perm_append_singleton _ _)) ?_
   refine ⟨c.pou2 f t m, m, _, by rw [hcan, decide_eq_true g15_4, Bool.true_and]; rfl, TwinC.mk2 (c := c) (c' := c.pou2 f t m) (c.pou2_sz f t m) (c.pou2_len f t m) hr1 pl ple om0, fun h => ?_⟩
   have e := ham h
   exact ⟨by rw [e]; exact hok.pou2 hf ht hft, e⟩
  ·
   try simp only [qz1, qz2, qz3, qz4, qz5, qz6, qz7, qz8] at g15_4
   refine P_no rf ?_
   refine P_no rf ?_
   refine P_no rf ?_
   refine P_det rf (Over_out rf (Over_nil (by first | exact y_pick_t (c := .bool _) rf rf | exact y_pick_f (c := .bool _) rf rf))) ?_
   refine P_st 1000000 0 rf rf rf rf rf (Over_nil (st_pre (fun _ => by rfl) (fun _ => by rfl) Tryz.sizeOf24 rf rf d20)) ?_
   refine P_det rf (Over_out rf (Over_nil (y_assign (c := .int .i64 _) rf))) ?_
   refine P_det rf (Over_out rf (Over_nil (y_assign (c := .bool _) rf))) ?_
   refine PW_end rf ?_
   refine OverAll_cons (fun w1000000 l1000000 => ?_)
   refine OverAll_nil ?_
   rintro ⟨-, h1000000⟩
   obtain rfl := h1000000
   refine Then_normal ?_
   refine W_ret ?_
   refine Fin_ret [_, .int .i64 _, .bool _] (H1 ++ [(pb, _)]) Tryz.results24 ⟨lvN rf Tryz.isAgg24 Tryz.sizeOf24 (Mem.own (us := [.slice _ _ _, .slice _ _ _, .int .i64 _]) 0 rf rf) rf, by rfl, by rfl, trivial⟩ (HSub.perm (Hn := (pb, _) :: H1) (HSub.sub sbA) (List.perm_append_singleton _ _)) ?_
   have hf2 : c.canB c.co f t = false := by rw [hcan, decide_eq_false om0, Bool.false_and]
   refine ⟨c.pou2 f t m, m, _, by rw [hf2]; rfl, TwinC.mk2 (c := c) (c' := c.pou2 f t m) (c.pou2_sz f t m) (c.pou2_len f t m) hr1 pl ple om0, fun h => by rw [hf2] at h; cases h⟩
 ·
  intro J15
  refine W_seq ?_
  refine zR fun ds => ?_
  refine zD hF (y_fieldAddr rf fa47_0) ?_
  refine zD hF (y_load1 rf Tryz.isAgg3 (Mem.own1 3 rf rf)) ?_
  refine zD hF (y_gtr rf rf) ?_
  refine zN ?_
  refine W_cond rf (fun c3 => ?_) (fun c3 => ?_)
  ·
   try simp only [qz1, qz2, qz3, qz4, qz5, qz6, qz7, qz8] at c3
   obtain ⟨j, rfl⟩ : ∃ j, f = j + 1 := ⟨f - 1, by omega⟩
   obtain ⟨b', o', rfl, hc'⟩ := h2.cell j om0
   change At w b' _ [.int .i64 (c.i j)] at hc'
   have hi := hok.i j om0
   have hs := hok.s j om0
   refine W_region_lit (fun ds => ?_)
   refine zD hF (y_fieldAddr rf fa24_1) ?_
   refine zD hF (y_load1 rf Tryz.isAgg22 (Mem.own1 4 rf rf)) ?_
   refine zD hF (y_fieldAddr rf fa47_0) ?_
   refine zD hF (y_load1 rf Tryz.isAgg3 (Mem.own1 3 rf rf)) ?_
   refine zD hF (y_sub rf rf ui) ?_
   refine zD hF (y_index (k := j) rf rf r10 d10 Tryz.runUnderlying22 Tryz.sizeOf3) ?_
   refine zD hF (y_load1 rf Tryz.isAgg3 zo) ?_
   refine za (.int .i64 _) hF ?_
   refine zO ?_
   refine zR fun ds => ?_
   refine zD hF (y_fieldAddr rf fa47_1) ?_
   refine zD hF (y_load1 rf Tryz.isAgg3 (Mem.own1 3 rf rf)) ?_
   refine zD hF (y_gtr rf rf) ?_
   refine zN ?_
   refine W_cond rf (fun c5 => ?_) (fun c5 => ?_)
   ·
    try simp only [qz1, qz2, qz3, qz4, qz5, qz6, qz7, qz8] at c5
    obtain ⟨i, rfl⟩ : ∃ i, t = i + 1 := ⟨t - 1, by omega⟩
    obtain ⟨b2, o2, rfl, hd⟩ := h1.cell i om0
    change At w b2 _ [.int .i64 (c.s i)] at hd
    have hd' := h2.at (k := i) om0
    change At w b' _ [.int .i64 (c.i i)] at hd'
    have hs2 := hok.s i om0
    have hi2 := hok.i i om0
    refine W_seq ?_
    refine W_draw0 hF Tryzmixed [] dk0 (fun ds => ?_)
    refine P_det rf (Over_nil (y_fieldAddr rf fa24_0)) ?_
    refine P_det rf (Over_nil (y_load1 rf Tryz.isAgg22 (Mem.own1 4 rf rf))) ?_
    refine P_det rf (Over_nil (y_fieldAddr rf fa47_1)) ?_
    refine P_det rf (Over_nil (y_load1 rf Tryz.isAgg3 (Mem.own1 3 rf rf))) ?_
    refine P_det rf (Over_nil (y_sub rf rf ui)) ?_
    refine P_det rf (Over_nil (y_index (k := i) rf rf r10 d10 Tryz.runUnderlying22 Tryz.sizeOf3)) ?_
    refine P_det rf (Over_nil (y_load1 rf Tryz.isAgg3 zo)) ?_
    refine P_det rf (Over_nil (y_fieldAddr rf fa24_1)) ?_
    refine P_det rf (Over_nil (y_load1 rf Tryz.isAgg22 (Mem.own1 4 rf rf))) ?_
    refine P_det rf (Over_nil (y_fieldAddr rf fa47_1)) ?_
    refine P_det rf (Over_nil (y_load1 rf Tryz.isAgg3 (Mem.own1 3 rf rf))) ?_
    refine P_det rf (Over_nil (y_sub rf rf ui)) ?_
    refine P_det rf (Over_nil (y_index (k := i) rf rf r10 d10 Tryz.runUnderlying22 Tryz.sizeOf3)) ?_
    refine P_det rf (Over_nil (y_load1 rf Tryz.isAgg3 zo)) ?_
    refine P_det rf (Over_nil (y_sub rf rf ui)) ?_
    refine P_det rf (Over_nil (y_assign (c := .int .i64 _) rf)) ?_
    refine PW_end rf ?_
    refine OverAll_nil ?_
    rintro -
    refine Then_normal ?_
    refine W_seq ?_
    refine zR fun ds => ?_
    refine zD hF (y_fieldAddr rf fa47_0) ?_
    refine zD hF (y_load1 rf Tryz.isAgg3 (Mem.own1 3 rf rf)) ?_
    refine zD hF (YD_no (y_eql rf rf) dect) ?_
    refine zm (.bool _) hF ?_
    refine zno hF ?_
    refine zno hF ?_
    refine zno hF ?_
    refine zD hF (zpk (.bool _)) ?_
    refine zN ?_
    refine W_cond rf (fun c7 => ?_) (fun c7 => ?_)
    ·cases c7
    ·
     try simp only [qz1, qz2, qz3, qz4, qz5, qz6, qz7, qz8] at c7
     refine W_skip ?_
     refine zS fun ds => ?_
     refine zm (.int .i64 _) hF ?_
     refine zm (.int .i64 _) hF ?_
     refine zD hF (y_min rf rf) ?_
     refine za (.int .i64 _) hF ?_
     refine zQ fun ds => ?_
     refine zD hF (y_fieldAddr rf fa24_1) ?_
     refine zD hF (y_load1 rf Tryz.isAgg22 (Mem.own1 1 rf rf)) ?_
     refine zD hF (y_fieldAddr rf fa47_1) ?_
     refine zD hF (y_load1 rf Tryz.isAgg3 (Mem.own1 3 rf rf)) ?_
     refine zD hF (y_sub rf rf ui) ?_
     refine zD hF (y_index (k := i) rf rf r10 d10 Tryz.runUnderlying22 Tryz.sizeOf3) ?_
     refine zD hF (y_load1 rf Tryz.isAgg3 (Mem.own (us := [.int .i64 (c.i i)]) 0 rf (drop_iv om0 rfl))) ?_
     refine zm (.int .i64 _) hF ?_
     refine zD hF (y_add rf rf ui) ?_
     refine zD hF (y_index (k := i) rf rf r10 d10 Tryz.runUnderlying22 Tryz.sizeOf3) ?_
     refine WS_store hF (us := [.int .i64 _]) (i := 0) rf rf Tryz.sizeOf3 rf rf rf (fit_iv om0) ?_
     refine zO ?_
     refine W_seq ?_
     try rw [splice_iv _ _ _ _ (by first | omega | (rw [List.length_set]; omega))]
     refine W_region_lit (fun ds => ?_)
     refine zD hF (y_fieldAddr rf fa47_0) ?_
     refine zD hF (y_load1 rf Tryz.isAgg3 (Mem.own1 3 rf rf)) ?_
     refine zD hF (YD_yes (y_gtr rf rf) dect) ?_
     refine zN ?_
     refine W_cond rf (fun c12 => ?_) (fun c12 => ?_)
     ·
      try simp only [qz1, qz2, qz3, qz4, qz5, qz6, qz7, qz8] at c12
      refine W_region_lit (fun ds => ?_)
      refine zD hF (y_fieldAddr rf fa24_1) ?_
      refine zD hF (y_load1 rf Tryz.isAgg22 (Mem.own1 1 rf rf)) ?_
      refine zD hF (y_fieldAddr rf fa47_0) ?_
      refine zD hF (y_load1 rf Tryz.isAgg3 (Mem.own1 3 rf rf)) ?_
      refine zD hF (y_sub rf rf ui) ?_
      refine zD hF (y_index (k := j) rf rf r10 d10 Tryz.runUnderlying22 Tryz.sizeOf3) ?_
      refine zD hF (y_load1 rf Tryz.isAgg3 (Mem.own (us := [.int .i64 (c.i j)]) 0 rf (drop_iv (by first | omega | (rw [List.length_set]; omega)) (by first | rfl | exact getD_set_ne om0)))) ?_
      refine zm (.int .i64 _) hF ?_
      refine zD hF (y_sub rf rf ui) ?_
      refine zD hF (y_index (k := j) rf rf r10 d10 Tryz.runUnderlying22 Tryz.sizeOf3) ?_
      refine WS_store hF (us := [.int .i64 _]) (i := 0) rf rf Tryz.sizeOf3 rf rf rf (fit_iv (by first | omega | (rw [List.length_set]; omega))) ?_
      refine zN ?_
      try rw [splice_iv _ _ _ _ (by first | omega | (rw [List.length_set]; omega))]
      exact J15 (min (c.i j) (c.s i - c.i i)) _ _  (hok.stI_pp om0 om0) slt slt (HSub.sub sbA)
     ·cases c12
   ·
    try simp only [qz1, qz2, qz3, qz4, qz5, qz6, qz7, qz8] at c5
    obtain rfl : t = 0 := by omega
    refine W_region_lit (fun ds => ?_)
    refine zD hF (y_fieldAddr rf fa24_2) ?_
    refine zD hF (y_load1 rf Tryz.isAgg3 (Mem.own1 1 rf rf)) ?_
    refine zm (.int .i64 _) hF ?_
    refine zD hF (y_add rf rf ui) ?_
    refine zD hF (y_fieldAddr rf fa24_2) ?_
    refine WS_store hF (us := [.int .i64 _]) (i := 1) rf rf Tryz.sizeOf3 rf rf rf d20 ?_
    refine zO ?_
    refine W_seq ?_
    try rw [splice_iv _ _ _ _ (by first | omega | (rw [List.length_set]; omega))]
    refine W_region_lit (fun ds => ?_)
    refine zD hF (y_fieldAddr rf fa47_0) ?_
    refine zD hF (y_load1 rf Tryz.isAgg3 (Mem.own1 3 rf rf)) ?_
    refine zD hF (YD_yes (y_gtr rf rf) dect) ?_
    refine zN ?_
    refine W_cond rf (fun c12 => ?_) (fun c12 => ?_)
    ·
     try simp only [qz1, qz2, qz3, qz4, qz5, qz6, qz7, qz8] at c12
     refine W_region_lit (fun ds => ?_)
     refine zD hF (y_fieldAddr rf fa24_1) ?_
     refine zD hF (y_load1 rf Tryz.isAgg22 (Mem.own1 1 rf rf)) ?_
     refine zD hF (y_fieldAddr rf fa47_0) ?_
     refine zD hF (y_load1 rf Tryz.isAgg3 (Mem.own1 3 rf rf)) ?_
     refine zD hF (y_sub rf rf ui) ?_
     refine zD hF (y_index (k := j) rf rf r10 d10 Tryz.runUnderlying22 Tryz.sizeOf3) ?_
     refine zD hF (y_load1 rf Tryz.isAgg3 (Mem.own (us := [.int .i64 (c.i j)]) 0 rf (drop_iv (by first | omega | (rw [List.length_set]; omega)) (by first | rfl | exact getD_set_ne om0)))) ?_
     refine zm (.int .i64 _) hF ?_
     refine zD hF (y_sub rf rf ui) ?_
     refine zD hF (y_index (k := j) rf rf r10 d10 Tryz.runUnderlying22 Tryz.sizeOf3) ?_
     refine WS_store hF (us := [.int .i64 _]) (i := 0) rf rf Tryz.sizeOf3 rf rf rf (fit_iv (by first | omega | (rw [List.length_set]; omega))) ?_
     refine zN ?_
     try rw [splice_iv _ _ _ _ (by first | omega | (rw [List.length_set]; omega))]
     exact J15 (c.i j) _ _  (hok.stI_pz om0) slt slt (HSub.sub sbA)
    ·cases c12
  ·
   try simp only [qz1, qz2, qz3, qz4, qz5, qz6, qz7, qz8] at c3
   obtain rfl : f = 0 := by omega
   refine zU ?_
   refine W_seq ?_
   refine zR fun ds => ?_
   refine zD hF (y_fieldAddr rf fa47_1) ?_
   refine zD hF (y_load1 rf Tryz.isAgg3 (Mem.own1 3 rf rf)) ?_
   refine zD hF (y_gtr rf rf) ?_
   refine zN ?_
   refine W_cond rf (fun c5 => ?_) (fun c5 => ?_)
   ·
    try simp only [qz1, qz2, qz3, qz4, qz5, qz6, qz7, qz8] at c5
    obtain ⟨i, rfl⟩ : ∃ i, t = i + 1 := ⟨t - 1, by omega⟩
    obtain ⟨b2, o2, rfl, hd⟩ := h1.cell i om0
    change At w b2 _ [.int .i64 (c.s i)] at hd
    obtain ⟨b', o', rfl, hd'⟩ := h2.cell i om0
    change At w b' _ [.int .i64 (c.i i)] at hd'
    have hs2 := hok.s i om0
    have hi2 := hok.i i om0
    refine W_seq ?_
    refine W_draw0 hF Tryzmixed [] dk0 (fun ds => ?_)
    refine P_det rf (Over_nil (y_fieldAddr rf fa24_0)) ?_
    refine P_det rf (Over_nil (y_load1 rf Tryz.isAgg22 (Mem.own1 4 rf rf))) ?_
    refine P_det rf (Over_nil (y_fieldAddr rf fa47_1)) ?_
    refine P_det rf (Over_nil (y_load1 rf Tryz.isAgg3 (Mem.own1 3 rf rf))) ?_
    refine P_det rf (Over_nil (y_sub rf rf ui)) ?_
    refine P_det rf (Over_nil (y_index (k := i) rf rf r10 d10 Tryz.runUnderlying22 Tryz.sizeOf3)) ?_
    refine P_det rf (Over_nil (y_load1 rf Tryz.isAgg3 zo)) ?_
    refine P_det rf (Over_nil (y_fieldAddr rf fa24_1)) ?_
    refine P_det rf (Over_nil (y_load1 rf Tryz.isAgg22 (Mem.own1 4 rf rf))) ?_
    refine P_det rf (Over_nil (y_fieldAddr rf fa47_1)) ?_
    refine P_det rf (Over_nil (y_load1 rf Tryz.isAgg3 (Mem.own1 3 rf rf))) ?_
    refine P_det rf (Over_nil (y_sub rf rf ui)) ?_
    refine P_det rf (Over_nil (y_index (k := i) rf rf r10 d10 Tryz.runUnderlying22 Tryz.sizeOf3)) ?_
    refine P_det rf (Over_nil (y_load1 rf Tryz.isAgg3 zo)) ?_
    refine P_det rf (Over_nil (y_sub rf rf ui)) ?_
    refine P_det rf (Over_nil (y_assign (c := .int .i64 _) rf)) ?_
    refine PW_end rf ?_
    refine OverAll_nil ?_
    rintro -
    refine Then_normal ?_
    refine W_seq ?_
    refine zR fun ds => ?_
    refine zD hF (y_fieldAddr rf fa47_0) ?_
    refine zD hF (y_load1 rf Tryz.isAgg3 (Mem.own1 3 rf rf)) ?_
    refine zD hF (YD_yes (y_eql rf rf) dect) ?_
    refine zm (.bool _) hF ?_
    refine zm (.int .i64 _) hF ?_
    refine zm (.int .i64 _) hF ?_
    refine zD hF (y_gtr rf rf) ?_
    refine zD hF (zpk (.bool _)) ?_
    refine zN ?_
    refine W_cond rf (fun c7 => ?_) (fun c7 => ?_)
    ·
     try simp only [qz1, qz2, qz3, qz4, qz5, qz6, qz7, qz8] at c7
     refine zR fun ds => ?_
     refine zD hF (y_loadN rf Tryz.isAgg24 Tryz.sizeOf24 (Mem.own (us := [.slice _ _ _, .slice _ _ _, .int .i64 _]) 1 rf rf) rf) ?_
     refine WS_store hF (us := [.slice _ _ _, .slice _ _ _, .int .i64 _]) (i := 2) rf rf Tryz.sizeOf24 rf rf rf d20 ?_
     refine za (.int .i64 _) hF ?_
     refine za (.bool _) hF ?_
     refine zN ?_
     refine W_ret ?_
     refine Then_ret ?_
     refine Then_ret ?_
     refine Fin_ret [_, .int .i64 _, .bool _] (H1 ++ [(pb, _)]) Tryz.results24 ⟨lvN rf Tryz.isAgg24 Tryz.sizeOf24 (Mem.own (us := [.slice _ _ _, .slice _ _ _, .int .i64 _]) 2 rf rf) rf, by rfl, by rfl, trivial⟩ (HSub.perm (Hn := (pb, _) :: H1) (HSub.sub sbA) (List.perm_append_singleton _ _)) ?_
     have hf3 := hok.stI_no (i := i) om0 om0
     refine ⟨c, 0, _, by rw [hf3]; rfl, TwinC.mk2 (c := c) (c' := c) rfl rfl hr1 pl ple om0, fun h => by rw [hf3] at h; cases h⟩
    ·
     try simp only [qz1, qz2, qz3, qz4, qz5, qz6, qz7, qz8] at c7
     refine W_skip ?_
     refine zS fun ds => ?_
     refine zm (.int .i64 _) hF ?_
     refine zm (.int .i64 _) hF ?_
     refine zD hF (y_min rf rf) ?_
     refine za (.int .i64 _) hF ?_
     refine zQ fun ds => ?_
     refine zD hF (y_fieldAddr rf fa24_1) ?_
     refine zD hF (y_load1 rf Tryz.isAgg22 (Mem.own1 1 rf rf)) ?_
     refine zD hF (y_fieldAddr rf fa47_1) ?_
     refine zD hF (y_load1 rf Tryz.isAgg3 (Mem.own1 3 rf rf)) ?_
     refine zD hF (y_sub rf rf ui) ?_
     refine zD hF (y_index (k := i) rf rf r10 d10 Tryz.runUnderlying22 Tryz.sizeOf3) ?_
     refine zD hF (y_load1 rf Tryz.isAgg3 (Mem.own (us := [.int .i64 (c.i i)]) 0 rf (drop_iv om0 rfl))) ?_
     refine zm (.int .i64 _) hF ?_
     refine zD hF (y_add rf rf ui) ?_
     refine zD hF (y_index (k := i) rf rf r10 d10 Tryz.runUnderlying22 Tryz.sizeOf3) ?_
     refine WS_store hF (us := [.int .i64 _]) (i := 0) rf rf Tryz.sizeOf3 rf rf rf (fit_iv om0) ?_
     refine zO ?_
     refine W_seq ?_
     try rw [splice_iv _ _ _ _ (by first | omega | (rw [List.length_set]; omega))]
     refine W_region_lit (fun ds => ?_)
     refine zD hF (y_fieldAddr rf fa47_0) ?_
     refine zD hF (y_load1 rf Tryz.isAgg3 (Mem.own1 3 rf rf)) ?_
     refine zD hF (YD_no (y_gtr rf rf) dect) ?_
     refine zN ?_
     refine W_cond rf (fun c12 => ?_) (fun c12 => ?_)
     ·cases c12
     ·
      try simp only [qz1, qz2, qz3, qz4, qz5, qz6, qz7, qz8] at c12
      refine W_region_lit (fun ds => ?_)
      refine zD hF (y_fieldAddr rf fa24_2) ?_
      refine zD hF (y_load1 rf Tryz.isAgg3 (Mem.own1 1 rf rf)) ?_
      refine zm (.int .i64 _) hF ?_
      refine zD hF (y_sub rf rf ui) ?_
      refine zD hF (y_fieldAddr rf fa24_2) ?_
      refine WS_store hF (us := [.int .i64 _]) (i := 1) rf rf Tryz.sizeOf3 rf rf rf d20 ?_
      refine zN ?_
      try rw [splice_iv _ _ _ _ (by first | omega | (rw [List.length_set]; omega))]
      exact J15 (min c.st (c.s i - c.i i)) _ _  (hok.stI_zp om0 om0) slt slt (HSub.sub sbA)
   ·exact absurd c5 (by simp only [decide_eq_false_iff_not]; omega)
def tunT : Tk := ⟨[0, 10, 30, 60, 100], 2, 8⟩
def logL : Lg := ⟨tunT, ⟨20, 40⟩, [⟨0, 1, ⟨10, 15⟩⟩, ⟨3, 3, ⟨18, 20⟩⟩, ⟨5, 2, ⟨10, 20⟩⟩, ⟨5, 3, ⟨12, 16⟩⟩]⟩
def TwinT (t : Tk) (v : Value) (Hn : List Blk) : Prop := ∃ a cap, v = .agg #[.slice a t.n cap, .int .i64 t.leak, .int .i64 t.foot] ∧ NewRow 3 1 t.n (iv t.pints) (.slice a t.n cap) Hn
theorem a_ep47_0 {x_0 : Int} {x_1 : Int} : ∀ w, (part 3 #[.int .i64 x_0, .int .i64 x_1] 0).run Tryz.prog w = .ok (.int .i64 x_0) w := fun w => by kernel_rfl
theorem a_ep47_1 {x_0 : Int} {x_1 : Int} : ∀ w, (part 3 #[.int .i64 x_0, .int .i64 x_1] 1).run Tryz.prog w = .ok (.int .i64 x_1) w := fun w => by kernel_rfl
theorem a_gneqA47 {x y : Operand} {x_0 : Int} {x_1 : Int} {y_0 : Int} {y_1 : Int} : ∀ w, (eqGuard .neq 47 x y (.agg #[.int .i64 x_0, .int .i64 x_1]) (.agg #[.int .i64 y_0, .int .i64 y_1])).run Tryz.prog w = .ok () w := fun w => by kernel_rfl
theorem a_st47 : Tryz.prog.stoodInHeld 47 = false := by kernel_rfl
theorem eq47 {x_0 : Int} {x_1 : Int} {y_0 : Int} {y_1 : Int} : ∀ w, (Op.equalIn Op.maxDepth 47 (.agg #[.int .i64 x_0, .int .i64 x_1]) (.agg #[.int .i64 y_0, .int .i64 y_1])).run Tryz.prog w = .ok (ieq x_0 y_0 && ieq x_1 y_1) w := fun w => by
 unfold Op.maxDepth Op.equalIn
 rw [Sem.run_bind, Tryz.runUnderlying47]
 simp [a_st47, a_ep47_0, eq_int (d := 9998) Tryz.runUnderlying3, a_ep47_1, eq_int (d := 9998) Tryz.runUnderlying3]
 generalize ieq x_0 y_0 = b0
 generalize ieq x_1 y_1 = b1
 cases b0 <;> cases b1 <;> simp
theorem neqA47 {x y : Operand} {x_0 : Int} {x_1 : Int} {y_0 : Int} {y_1 : Int} : ∀ w, ((do eqGuard .neq 47 x y (.agg #[.int .i64 x_0, .int .i64 x_1]) (.agg #[.int .i64 y_0, .int .i64 y_1]); binOp .neq 47 (.agg #[.int .i64 x_0, .int .i64 x_1]) (.agg #[.int .i64 y_0, .int .i64 y_1])) : Sem Value).run Tryz.prog w = .ok (.bool (!(ieq x_0 y_0 && ieq x_1 y_1))) w := eq_topN a_gneqA47 eq47
theorem infPo : (Tryz.prog.info? 47).map (fun i => (i.zero, i.size, i.bytes)) = some (some (.agg #[.int .i64 0, .int .i64 0]), 2, 16) := by kernel_rfl
theorem samePo_any (l : List Po) (la : Option Addr) (lcap : Nat) (la' : Option Addr) (lcap' : Nat) (w : World) (hl : l.length ≤ 1000000) (hp : Pos w la l.length lcap l) (hp' : Pos w la' l.length lcap' l) :
  Ct Tryz.prog 45 #[.slice la l.length lcap, .slice la' l.length lcap'] w fun v _ => v = .bool true := by
 have hF := wide_wide
 refine Ct_start (args := [_, _]) Tryz.func45 rf Tryz.ntmps45 rf ?_
 refine zR fun ds => ?_
 refine za (.bool _) hF ?_
 refine zO ?_
 refine zR fun ds => ?_
 refine zm (.slice _ _ _) hF ?_
 refine zD hF (y_len rf Tryz.runUnderlying35) ?_
 refine zm (.slice _ _ _) hF ?_
 refine zD hF (y_len rf Tryz.runUnderlying35) ?_
 refine zD hF (y_neqF rf rf) ?_
 refine zN ?_
 refine W_cond rf (fun c1 => ?_) (fun c1 => ?_)
 ·cases c1
 ·
  try simp only [qz1, qz2, qz3, qz4, qz5, qz6, qz7, qz8] at c1
  refine zU ?_
  refine W_seq ?_
  refine zR fun ds => ?_
  refine za (.int .i64 _) hF ?_
  refine zN ?_
  refine W_block ?_
  refine W_loop (γ := Nat) (fun k => k ≤ l.length) (fun k => [(0, .slice la l.length lcap), (1, .slice la' l.length lcap'), (5, .int .i64 (k : Int))]) (fun _ => _) (fun k => l.length - k) (0) (Nat.zero_le _) s10 (List.Sublist.refl _) ?_
  intro k e hk
  refine W_seq ?_
  refine zR fun ds => ?_
  refine zm (.int .i64 _) hF ?_
  refine zm (.slice _ _ _) hF ?_
  refine zD hF (y_len rf Tryz.runUnderlying35) ?_
  refine zD hF (y_lss rf rf) ?_
  refine zN ?_
  refine W_cond rf (fun c4 => ?_) (fun c4 => ?_)
  ·
   try simp only [qz1, qz2, qz3, qz4, qz5, qz6, qz7, qz8] at c4
   obtain ⟨b, o, rfl, hc⟩ := hp.cell k om0
   change At w b _ (l.getD k Po.z).cells at hc
   obtain ⟨bz, oz, rfl, hcz⟩ := hp'.cell k om0
   change At w bz _ (l.getD k Po.z).cells at hcz
   refine zU ?_
   refine W_seq ?_
   refine W_block ?_
   refine W_seq ?_
   refine W_draw0 hF Tryzmixed [] dk0 (fun ds => ?_)
   refine P_det rf (Over_nil (y_move (c := .slice _ _ _) rf)) ?_
   refine P_det rf (Over_nil (y_move (c := .int .i64 _) rf)) ?_
   refine P_det rf (Over_nil (y_index (k := k) rf rf r10 d10 Tryz.runUnderlying35 Tryz.sizeOf47)) ?_
   refine P_det rf (Over_nil (y_loadN rf Tryz.isAgg47 Tryz.sizeOf47 (zq [.int .i64 _, .int .i64 _]) rf)) ?_
   refine P_det rf (Over_nil (y_move (c := .slice _ _ _) rf)) ?_
   refine P_det rf (Over_nil (y_move (c := .int .i64 _) rf)) ?_
   refine P_det rf (Over_nil (y_index (k := k) rf rf r10 d10 Tryz.runUnderlying35 Tryz.sizeOf47)) ?_
   refine P_det rf (Over_nil (y_loadN rf Tryz.isAgg47 Tryz.sizeOf47 (zq [.int .i64 _, .int .i64 _]) rf)) ?_
   refine P_det rf (Over_nil (y_neqlAF rf rf neqA47 (by simp only [ieq_self, Bool.and_self, Bool.not_true]))) ?_
   refine PW_end rf ?_
   refine OverAll_nil ?_
   rintro -
   refine Then_normal ?_
   refine W_cond rf (fun c6 => ?_) (fun c6 => ?_)
   ·cases c6
   ·
    try simp only [qz1, qz2, qz3, qz4, qz5, qz6, qz7, qz8] at c6
    refine W_skip ?_
    refine InB_normal ?_
    refine zT fun ds => ?_
    refine zm (.int .i64 _) hF ?_
    refine zD hF (y_add rf rf ui) ?_
    refine za (.int .i64 _) hF ?_
    refine WS_nil ?_
    exact Loop_next (k + 1) om0 s10 s20 om0
  ·
   try simp only [qz1, qz2, qz3, qz4, qz5, qz6, qz7, qz8] at c4
   refine W_exit ?_
   refine Then_exit ?_
   refine Loop_exit ?_
   refine InB_same ?_
   refine zS fun ds => ?_
   refine za (.bool _) hF ?_
   refine zN ?_
   refine W_ret ?_
   refine Fin_ret [.bool _] [] Tryz.results45 ⟨by rfl, trivial⟩ HSub.nil ?_
   rfl
end Go.Proofs.YtjekjehgmljbgaaGreatDoor.T
namespace Go.Eng
open Go.RowKit
section
variable {C : Ctx} {e : Env} {H : List Blk} {d : Option Tmp} {ty : TypeId} {pos : String} {af : Array Edge} {g : Option (Nat × Bool)}
theorem YR.sub {o : Oper} {R R' : Value → List Blk → Prop} (h : YR C o e H R) (hr : ∀ v Hn, R v Hn → ∃ Hm, Hm.Sublist Hn ∧ R' v Hm) : YR C o e H R' := fun w hw => by
 have := h w hw
 have out : ∀ {v w w'}, Out R v w w' → Out R' v w w' := fun ⟨Hn, h1, h2, h3⟩ => by
  obtain ⟨Hm, h4, h5⟩ := hr _ _ h3
  exact ⟨Hm, h1, h2.sub h4, h5⟩
 generalize (execOp (ev e) o).run C.P w = r at *
 cases r with
 | ok x w' =>
  cases x <;> simp only [OutRes] at this ⊢
  case value v => exact out this
  case skip => exact out this
  case enter f args =>
   refine ⟨this.1, Calls.mono this.2 ?_⟩
   rintro en w'' ⟨v, he, h1⟩
   exact ⟨v, he, out h1⟩
 | halt => exact this
theorem y_makeRow {x y : Operand} {T E : TypeId} {z : Value} {zs us : List Value} {kl kc : IntKind} {n sz by_ : Nat} {l c : Int} (hx : ev e x = .int kl l) (hy : ev e y = .int kc c) (hl : l = (n : Int)) (hc : c = (n : Int))
  (hT : C.P.underlying T = some (.slice E)) (hinf : (C.P.info? E).map (fun i => (i.zero, i.size, i.bytes)) = some (some z, sz, by_)) (hzs : z.cells = zs.toArray) (hsz : zs.length = sz) (hb : n * by_ ≤ 140737488355328) (hn : n ≤ 140737488355328)
  (hu : ((List.range n).flatMap fun _ => zs) = us) : YR C ⟨d, .makeSlice T x y, ty, pos, af, g⟩ e H (NewRow E sz n us) := by
 refine (y_makeSlice hx hy hl hc hT hinf hzs hsz hb hn).sub ?_
 rintro v Hn ⟨b, rfl, rfl⟩
 have hlen : us.length = n * sz := by
  subst hu hsz
  exact rowOf_len (enc := fun (_ : Nat) => zs) (fun _ => rfl) (fun k => k) n
 by_cases h0 : n = 0
 ·subst h0
  exact ⟨[], List.nil_sublist _, _, _, rfl, Nat.le_refl _, .inr ⟨rfl, rfl, rfl⟩⟩
 ·exact ⟨_, List.Sublist.refl _, _, _, rfl, Nat.le_refl _, .inl ⟨by omega, b, [], rfl, by rw [List.append_nil, hu], by rw [List.append_nil]; exact hlen⟩⟩
end
section
variable {C : Ctx} {F : Fence} {n : Nat} {ds : List Deferred} {c : Code} {Q : Exit → Env → List Blk → Prop} {e : Env} {A B M : List Blk}
theorem W_rot2 (h : W C F n ds c Q e (M ++ (A ++ B))) : W C F n ds c Q e (A ++ (B ++ M)) := W_perm (by rw [← List.append_assoc]; exact List.perm_append_comm) h
end
end Go.Eng
