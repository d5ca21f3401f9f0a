/- The reference's Pour and Play, walked. -/
import Derived.Test.YtjekjehgmljbgaaGreatDoorMb2
import Derived.Laws.Bits64b
import Derived.Test.YtjekjehgmljbgaaGreatDoorMb1
import Derived.Test.YtjekjehgmljbgaaGreatDoorChecked
set_option linter.unusedVariables false
set_option linter.unusedSimpArgs false
namespace Go.Proofs.YtjekjehgmljbgaaGreatDoor.T
open Go.RowKit Go.Proofs Go.Eng
set_option maxRecDepth 100000
set_option maxHeartbeats 1000000
theorem backward_any (ae : Option Addr) (n cape : Nat) (w : World) : Ct Tryz.prog 141 #[.slice ae n cape] w fun v Hn => ∃ bx, v = .func (.func 164) #[] #[.pointer (some ⟨bx, 0, none⟩)] ∧ Hn = [(bx, CB [.slice ae n cape] 60)] := by
 have hF := wide_wide
 refine Ct_start (args := [_]) Tryz.func141 rf Tryz.ntmps141 rf ?_
 refine zR fun ds => ?_
 refine WS_new hF rf (y_box rf) (fun b1 => ?_)
 refine za (_) hF ?_
 refine zP fun ds => ?_
 refine zD hF (y_makeFuncL rf rf) ?_
 refine za (_) hF ?_
 refine zN ?_
 refine W_ret ?_
 refine Fin_ret [_] [(b1, _)] Tryz.results141 ⟨by rfl, trivial⟩ (HSub.sub (by repeat (first | exact List.nil_sublist _ | apply List.Sublist.cons_cons | apply List.Sublist.cons))) ?_
 exact ⟨_, rfl, rfl⟩
theorem backward_it (w0 : World) (ds0 out0 : List Deferred) (bx : Nat) (n : Nat) (ae : Option Addr) (cape : Nat) (es : List En) (hn : n ≤ 1000000) (he : Ens w0 ae n cape es) :
  It ⟨Tryz.prog, w0, ds0, out0⟩ 164 [.pointer (some ⟨bx, 0, none⟩)] (fun k => [.int .i64 ((n : Int) - 1 - (k : Int)), .agg (es.getD (n - 1 - k) En.z).cells.toArray]) n [(bx, CB [.slice ae n cape] 60)] := by
 intro lp J Jx hY G hJ
 have hF := wide_wide
 refine Cs_start (args := [_, _]) Tryz.func164 rf Tryz.ntmps164 rf ?_
 refine zR fun ds => ?_
 refine zD hF (y_load1 rf Tryz.isAgg60 (Mem.own1 0 rf rf)) ?_
 refine zD hF (y_len rf Tryz.runUnderlying60) ?_
 refine zD hF (y_sub rf rf ui) ?_
 refine za (.int .i64 _) hF ?_
 refine zN ?_
 refine W_block ?_
 refine W_loop (γ := Nat × List Blk) (fun p => p.1 ≤ n ∧ J p.1 p.2) (fun p => [(0, .func (.yield lp) #[] #[]), (1, .pointer (some ⟨bx, 0, none⟩)), (3, .int .i64 ((n : Int) - 1 - (p.1 : Int)))]) (fun p => (bx, CB [.slice ae n cape] 60) :: p.2) (fun p => n - p.1) ((0, G)) ⟨Nat.zero_le _, hJ⟩ (s30) (List.Sublist.refl _) ?_
 rintro ⟨k, G2⟩ e ⟨hk, hj2⟩
 refine W_seq ?_
 refine zR fun ds => ?_
 refine zm (.int .i64 _) hF ?_
 refine zD hF (y_geq rf rf) ?_
 refine zN ?_
 refine W_cond rf (fun c1 => ?_) (fun c1 => ?_)
 ·
  try simp only [qz1, qz2, qz3, qz4, qz5, qz6, qz7, qz8] at c1
  obtain ⟨b, o, rfl, hc⟩ := he.cell (n - 1 - k) om0
  refine zU ?_
  refine W_seq ?_
  refine W_block ?_
  refine zR fun ds => ?_
  refine zm (_) hF ?_
  refine zm (.int .i64 _) hF ?_
  refine zD hF (y_load1 rf Tryz.isAgg60 (Mem.own1 0 rf rf)) ?_
  refine zm (.int .i64 _) hF ?_
  refine zD hF (y_index (k := n - 1 - k) rf rf r1 d10 Tryz.runUnderlying60 Tryz.sizeOf90) ?_
  refine zD hF (y_loadN rf Tryz.isAgg90 Tryz.sizeOf90 (zq [.int .i64 _, .int .i64 _, .int .i64 _, .int .i64 _]) rf) ?_
  refine WS_yield rf rf rf (hY k om0 ds [_] G2 hj2) ?_
  rintro yb _ ⟨G3, rfl, hb⟩
  refine zD hF (y_not rf) ?_
  refine zN ?_
  refine W_cond rf (fun c3 => ?_) (fun c3 => ?_)
  ·
   try simp only [qz1, qz2, qz3, qz4, qz5, qz6, qz7, qz8] at c3
   obtain ⟨rfl, hj3⟩ | ⟨_, hj3⟩ := hb
   ·cases c3
   refine W_ret ?_
   refine InB_ret ?_
   refine Then_ret ?_
   refine Loop_ret ?_
   refine InB_ret ?_
   refine Fin_ret [] ((bx, _) :: G3) Tryz.results164 trivial (HSub.sub s20) ?_
   exact ⟨G3, rfl, .inr ⟨k, by omega, hj3⟩⟩
  ·
   try simp only [qz1, qz2, qz3, qz4, qz5, qz6, qz7, qz8] at c3
   obtain ⟨_, hj3⟩ | ⟨rfl, hj3⟩ := hb
   case inr => cases c3
   refine W_skip ?_
   refine InB_normal ?_
   refine zT fun ds => ?_
   refine zm (.int .i64 _) hF ?_
   refine zD hF (y_sub rf rf ui) ?_
   refine za (.int .i64 _) hF ?_
   refine WS_nil ?_
   exact Loop_next (k + 1, G3) ⟨by omega, hj3⟩ s30 s20 (by simp only; omega)
 ·
  try simp only [qz1, qz2, qz3, qz4, qz5, qz6, qz7, qz8] at c1
  refine W_exit ?_
  refine Then_exit ?_
  refine Loop_exit ?_
  refine InB_same ?_
  refine Fin_norm [] ((bx, _) :: G2) Tryz.results164 trivial (HSub.sub s20) ?_
  obtain rfl : k = n := by omega
  exact ⟨G2, rfl, .inl hj2⟩
theorem fa138_2 : ∀ b o w, (Instr.fieldAt 138 (.pointer (some ⟨b, o, none⟩)) 2).run Tryz.prog w = .ok (.pointer (some ⟨b, o + 2, none⟩)) w := fun b o w => by kernel_rfl
theorem sn_len (x : Sn) : x.cells.length = 2 := rfl
def Lg.af (l : Lg) (k j : Nat) : Sn := if l.es.length - k ≤ j then l.aft j else Sn.z
def Lg.bf (l : Lg) (k j : Nat) : Sn := if l.es.length - k ≤ j then l.ahd j else Sn.z
abbrev snRow (f : Nat → Sn) (n : Nat) : List Value := rowOf Sn.cells f n
theorem Lg.af_zero (l : Lg) : splice (snRow (fun _ => Sn.z) (l.es.length + 1)) (l.es.length * 2) [.int .i64 0, .int .i64 l.tk.full] = snRow (l.af 0) (l.es.length + 1) :=
 rowOf_splice sn_len om0 (by unfold Lg.af; rw [if_pos om0, l.aft_n]; rfl) fun j hj hne => by unfold Lg.af; rw [if_neg om0]
theorem Lg.af_succ (l : Lg) {k : Nat} (hk : k < l.es.length) : splice (snRow (l.af k) (l.es.length + 1)) ((l.es.length - 1 - k) * 2) [.int .i64 (l.ahd (l.es.length - 1 - k)).lo, .int .i64 (min l.tk.full ((l.ahd (l.es.length - 1 - k)).hi + l.drip (l.es.length - 1 - k)))] = snRow (l.af (k + 1)) (l.es.length + 1) :=
 rowOf_splice sn_len om0 (by unfold Lg.af; rw [if_pos om0, l.aft_lt om0]; rfl) fun j hj hne => by
  unfold Lg.af
  by_cases h : l.es.length - k ≤ j
  ·rw [if_pos h, if_pos om0]
  ·rw [if_neg h, if_neg om0]
theorem Lg.bf_zero (l : Lg) : snRow (fun _ => Sn.z) l.es.length = snRow (l.bf 0) l.es.length :=
 rowOf_congr _ fun j hj => by unfold Lg.bf; rw [if_neg om0]
theorem Lg.bf_succ (l : Lg) {k : Nat} (hk : k < l.es.length) : splice (snRow (l.bf k) l.es.length) ((l.es.length - 1 - k) * 2) (l.ahd (l.es.length - 1 - k)).cells = snRow (l.bf (k + 1)) l.es.length :=
 rowOf_splice sn_len om0 (by unfold Lg.bf; rw [if_pos om0]) fun j hj hne => by
  unfold Lg.bf
  by_cases h : l.es.length - k ≤ j
  ·rw [if_pos h, if_pos om0]
  ·rw [if_neg h, if_neg om0]
theorem Lg.af_end (l : Lg) : snRow (l.af l.es.length) (l.es.length + 1) = snRow l.aft (l.es.length + 1) := rowOf_congr _ fun j hj => by unfold Lg.af; rw [if_pos om0]
theorem Lg.bf_end (l : Lg) : snRow (l.bf l.es.length) l.es.length = snRow l.ahd l.es.length := rowOf_congr _ fun j hj => by unfold Lg.bf; rw [if_pos om0]
def BackV (l : Lg) (v : Value) (Hn : List Blk) : Prop :=
 ∃ ab bb, v = .tuple #[.slice (some ⟨ab, 0, none⟩) (l.es.length + 1) (l.es.length + 1), .slice (some ⟨bb, 0, none⟩) l.es.length l.es.length] ∧ Hn = [(ab, CB (snRow l.aft (l.es.length + 1)) 59), (bb, CB (snRow l.ahd l.es.length) 59)]
def backF (kind : Int) : FuncId := if kind = 1 then 160 else if kind = 2 then 159 else 162
theorem back_call (kind : Int) : ∀ args w, (callFunc (backF kind) args).run Tryz.prog w = .ok (.enter (backF kind) args) w := by
 unfold backF
 split
 ·exact Tryz.call160
 ·split
  ·exact Tryz.call159
  ·exact Tryz.call162
theorem back_cell (g : Nat) (l : Lg) (a : Option Addr) (cap : Nat) (ae : Option Addr) (cape : Nat) (k : Nat) (h : 1 ≤ k ∧ k ≤ 3) : (bookCells g l a cap ae cape)[7 + k * 3 + 2]? = some (.func (.func (backF (k : Int))) #[] #[]) := by
 obtain rfl | rfl | rfl : k = 1 ∨ k = 2 ∨ k = 3 := by omega
 ·rfl
 ·rfl
 ·rfl
theorem backF_any (l : Lg) (i : Nat) (g og : Nat) (s : Sn) (w : World) (hok : l.Ok) (hi : i < l.es.length) (hG : Gg w g og l.tk) (hs : s.Sm) :
  Ct Tryz.prog (backF (l.e i).kind) #[.pointer (some ⟨g, og, none⟩), .agg (l.e i).size.cells.toArray, .agg s.cells.toArray] w fun v _ => v = .agg (l.tk.back (l.e i) s).cells.toArray := by
 have hz := hok.sm hi
 have hq := hok.size i hi
 have hkd := hok.kind i hi
 unfold backF Tk.back
 split
 ·exact tless_any g og l.tk (l.e i).size s w hG hz hs
 ·split
  ·exact more_any g og l.tk (l.e i).size s w hG hz hs
  ·unfold Tk.most at hq
   rw [if_pos om0] at hq
   exact seen_any g og l.tk (l.e i).size s w hG hq
theorem infSpan : (Tryz.prog.info? 59).map (fun i => (i.zero, i.size, i.bytes)) = some (some (.agg #[.int .i64 0, .int .i64 0]), 2, 16) := by kernel_rfl
theorem back_any (bk : Nat) (l : Lg) (w : World) (hB : Bk w bk l) : Ct Tryz.prog 111 #[.pointer (some ⟨bk, 0, none⟩)] w (BackV l) := by
 have hok := hB.ok
 have hB0 := hB
 obtain ⟨_, g, a, cap, ae, cape, h1, hG, h3⟩ := hB
 have hn := hok.n12
 have ⟨_, a2, cap2, hg, _⟩ := hG
 have hF := wide_wide
 refine Ct_start (args := [_]) Tryz.func111 rf Tryz.ntmps111 rf ?_
 refine zR fun ds => ?_
 refine WS_new hF rf (y_box rf) (fun b1 => ?_)
 refine WS_new hF rf (y_alloc Tryz.zeroValue131 rf) (fun b2 => ?_)
 refine WS_new hF rf (y_alloc Tryz.zeroValue131 rf) (fun b3 => ?_)
 refine zP fun ds => ?_
 refine zD hF (y_load1 rf Tryz.isAgg130 (Mem.own1 2 rf rf)) ?_
 refine zD hF znk ?_
 refine zD hF (y_fieldAddr rf fa141_1) ?_
 refine zD hF (y_fieldAddr rf fa62_2) ?_
 refine zD hF (y_load1 rf Tryz.isAgg60 zo) ?_
 refine zD hF (y_len rf Tryz.runUnderlying60) ?_
 refine za (.int .i64 _) hF ?_
 refine zO ?_
 apply W_drawMT 6 hF Tryzmixed [Pre.dep 1000000 b2 _ 15 _ _] [1000000] [1000000] rf dk0 dc (fun _ _ h => h.perm (perm_erase (i := 1) rf).symm)
 intro ds
 refine P_det rf (Over_out rf (Over_nil (y_move (c := .int .i64 _) rf))) ?_
 refine P_det rf (Over_out rf (Over_nil (y_add rf rf ui))) ?_
 refine P_new rf rf (Over_out rf (Over_nil (y_makeSlice (n := l.es.length + 1) rf rf om0 om0 Tryz.underlying131 infSpan rf rf om0 om0))) ?_
 refine P_det rf (Over_out rf (Over_out rf (Over_nil (y_move (c := .int .i64 _) rf)))) ?_
 refine P_new rf rf (Over_out rf (Over_out rf (Over_nil (y_makeSlice (n := l.es.length) rf rf om0 om0 Tryz.underlying131 infSpan rf rf om0 om0)))) ?_
 refine P_st 1000000 2 rf rf rf rf rf (Over_out rf (Over_in rf (Over_nil (by rintro _ _ ⟨b6, rfl, rfl⟩; exact (st_preD (fun _ => by rfl) rf rf Tryz.sizeOf131 rf rf d20))))) ?_
 refine PW_end rf ?_
 refine OverAll_cons (fun w17 l17 => ?_)
 refine OverAll_cons (fun w15 l15 => ?_)
 refine OverAll_cons (fun w1000000 l1000000 => ?_)
 refine OverAll_nil ?_
 rintro ⟨⟨⟨-, h17⟩, h15⟩, h1000000⟩
 obtain ⟨b4, rfl, rfl⟩ := h15
 obtain ⟨b5, rfl, rfl⟩ := h17
 obtain rfl := h1000000
 refine WS_store hF (i := 3) rf rf Tryz.sizeOf131 rf rf rf d20 ?_
 refine zO ?_
 apply W_draw1 hF Tryzmixed [1000000] (i := 1) rf dk0
 intro ds
 refine P_det rf (Over_out rf (Over_nil (y_load1 rf Tryz.isAgg131 (Mem.own1 0 rf rf)))) ?_
 refine P_det rf (Over_out rf (Over_nil (y_move (c := .int .i64 _) rf))) ?_
 refine P_det rf (Over_out rf (Over_nil (y_load1 rf Tryz.isAgg130 (Mem.own1 3 rf rf)))) ?_
 refine P_det rf (Over_out rf (Over_nil znk)) ?_
 refine P_det rf (Over_out rf (Over_nil (y_fieldAddr rf fa141_0))) ?_
 refine P_det rf (Over_out rf (Over_nil (y_load1 rf Tryz.isAgg134 zo))) ?_
 refine P_det rf (Over_out rf (Over_nil znk)) ?_
 refine P_det rf (Over_out rf (Over_nil (y_fieldAddr rf fa143_1))) ?_
 refine P_det rf (Over_out rf (Over_nil (y_load1 rf Tryz.isAgg3 zo))) ?_
 refine P_det rf (Over_out rf (Over_nil (y_buildL bd59_1 rf))) ?_
 refine P_det rf (Over_out rf (Over_nil (y_index (k := l.es.length) rf rf r1 d10 Tryz.runUnderlying131 Tryz.sizeOf59))) ?_
 refine P_st 1000000 0 rf rf rf rf rf (Over_nil (st_pre (fun _ => by rfl) (fun _ => by rfl) Tryz.sizeOf59 rf rf (by show 0 + l.es.length * 2 + 2 ≤ (snRow (fun _ => Sn.z) (l.es.length + 1)).length; rw [rowOf_len sn_len]; omega))) ?_
 refine PW_end rf ?_
 refine OverAll_cons (fun w1000000 l1000000 => ?_)
 refine OverAll_nil ?_
 rintro ⟨-, h1000000⟩
 obtain rfl := h1000000
 refine Then_normal ?_
 refine W_seq ?_
 refine zR fun ds => ?_
 refine zD hF (y_load1 rf Tryz.isAgg130 (Mem.own1 4 rf rf)) ?_
 refine zD hF znk ?_
 refine zD hF (y_fieldAddr rf fa141_1) ?_
 refine zD hF (y_fieldAddr rf fa62_2) ?_
 refine zD hF (y_load1 rf Tryz.isAgg60 zo) ?_
 refine WS_gen hF rf (y_callL rf rf Tryz.call141 (fun w hw => backward_any ae l.es.length cape w)) ?_
 rintro _ _ ⟨bx, rfl, rfl⟩
 refine zN ?_
 refine W_block ?_
 refine W_range hF rf (encs := (fun k => [.int .i64 ((l.es.length : Int) - 1 - (k : Int)), .agg (l.es.getD (l.es.length - 1 - k) En.z).cells.toArray])) (N := l.es.length) (H0 := [(bx, CB [.slice ae l.es.length cape] 60)]) (G0 := [(b4, _), (b2, _), (b5, _), (b3, _), (b1, _)]) (fun k G => G = [(b4, CB (snRow (l.af k) (l.es.length + 1)) 59), (b2, CB [.slice (some ⟨b4, 0, none⟩) (l.es.length + 1) (l.es.length + 1)] 131), (b5, CB (snRow (l.bf k) l.es.length) 59), (b3, CB [.slice (some ⟨b5, 0, none⟩) l.es.length l.es.length] 131), (b1, CB [.pointer (some ⟨bk, 0, none⟩)] 130)]) (fun _ _ _ => False) rf Tryz.call164 rf (fun _ => rfl) (fun ds => backward_it _ _ _ bx l.es.length ae cape l.es om0 h3) (by rw [← l.bf_zero, ← l.af_zero]; rw [Nat.zero_add]; rfl) (HSub.refl) ?_ ?_ ?_
 ·rintro k hk G hj out lpr R R'
  have hF := wide_inRound wide_wide lpr
  subst hj
  have hi : l.es.length - 1 - k < l.es.length := by omega
  obtain ⟨kk, hkk⟩ : ∃ kk : Nat, (l.e (l.es.length - 1 - k)).kind = (kk : Int) := Int.eq_ofNat_of_zero_le (by have := hok.kind _ hi; omega)
  have hkd := hok.kind _ hi
  have hab := hok.aft_bd (i := l.es.length - 1 - k + 1) om0
  have hhb := hok.ahd_bd hi
  have hdb := hok.drip_bd hi
  have hafe : l.af k (l.es.length - 1 - k + 1) = l.aft (l.es.length - 1 - k + 1) := by unfold Lg.af; rw [if_pos om0]
  have hbfe : l.bf (k + 1) (l.es.length - 1 - k) = l.ahd (l.es.length - 1 - k) := by unfold Lg.bf; rw [if_pos om0]
  have hs1 := l.bf_succ hk
  have hs2 := l.af_succ hk
  rw [← Nat.zero_add ((l.es.length - 1 - k) * 2)] at hs1 hs2
  have hfull := hok.tk.full_bd
  have hkk2 : (l.es.getD (l.es.length - 1 - k) En.z).kind = (kk : Int) := hkk
  have hik : (l.es.length : Int) - 1 - (k : Int) = ((l.es.length - 1 - k : Nat) : Int) := by omega
  refine zR fun ds => ?_
  refine za (.int .i64 _) hF ?_
  refine zQ fun ds => ?_
  refine WS_new hF rf (y_alloc Tryz.zeroValue90 rf) (fun b7 => ?_)
  refine WS_store hF (i := 0) rf rf Tryz.sizeOf90 rf rf rf d20 ?_
  refine zN ?_
  refine ⟨[_, _, _, _, _, _], rfl, ?_⟩
  refine W_block ?_
  refine W_seq ?_
  apply W_draw1 hF Tryzmixed [1000000] (i := 3) rf dk0
  intro ds
  refine P_det rf (Over_out rf (Over_nil (y_load1 rf Tryz.isAgg131 (Mem.own1 3 rf rf)))) ?_
  refine P_det rf (Over_out rf (Over_nil (y_move (c := .int .i64 _) rf))) ?_
  refine P_det rf (Over_out rf (Over_nil (y_load1 rf Tryz.isAgg130 (Mem.own1 4 rf rf)))) ?_
  refine P_det rf (Over_out rf (Over_nil (y_fieldAddr rf fa90_1))) ?_
  refine P_det rf (Over_out rf (Over_nil (y_load1 rf Tryz.isAgg3 (Mem.own1 0 rf rf)))) ?_
  refine P_det rf (Over_out rf (Over_nil znk)) ?_
  refine P_det rf (Over_out rf (Over_nil (y_fieldAddr rf fa141_2))) ?_
  refine P_det rf (Over_out rf (Over_nil (y_indexA (k := kk) rf rf r1 d10 Tryz.runUnderlying139 Tryz.sizeOf138))) ?_
  refine P_det rf (Over_out rf (Over_nil (y_fieldAddr rf fa138_2))) ?_
  refine P_det rf (Over_out rf (Over_nil (y_load1 rf Tryz.isAgg136 (Mem.oldAtL1 (o := 0) (p := 0 + 7 + kk * 3 + 2) h1 (by simp) (by rw [show 0 + 7 + kk * 3 + 2 - 0 = 7 + kk * 3 + 2 by omega]; exact back_cell g l a cap ae cape kk om0))))) ?_
  refine P_det rf (Over_out rf (Over_nil (y_load1 rf Tryz.isAgg130 (Mem.own1 4 rf rf)))) ?_
  refine P_det rf (Over_out rf (Over_nil znk)) ?_
  refine P_det rf (Over_out rf (Over_nil (y_fieldAddr rf fa141_0))) ?_
  refine P_det rf (Over_out rf (Over_nil (y_load1 rf Tryz.isAgg134 zo))) ?_
  refine P_det rf (Over_out rf (Over_nil (y_fieldAddr rf fa90_2))) ?_
  refine P_det rf (Over_out rf (Over_nil (y_loadN rf Tryz.isAgg59 Tryz.sizeOf59 (Mem.own (us := [.int .i64 _, .int .i64 _]) 0 rf rf) rf))) ?_
  refine P_det rf (Over_out rf (Over_nil (y_load1 rf Tryz.isAgg131 (Mem.own1 2 rf rf)))) ?_
  refine P_det rf (Over_out rf (Over_nil (y_move (c := .int .i64 _) rf))) ?_
  refine P_det rf (Over_out rf (Over_nil (y_add rf rf ui))) ?_
  refine P_det rf (Over_out rf (Over_nil (y_index (k := l.es.length - 1 - k + 1) rf rf r1 d10 Tryz.runUnderlying131 Tryz.sizeOf59))) ?_
  refine P_det rf (Over_out rf (Over_nil (y_loadN rf Tryz.isAgg59 Tryz.sizeOf59 (Mem.row sn_len 1 rf (k := l.es.length - 1 - k + 1) om0 hafe om0) rf))) ?_
  refine P_det rf (Over_out rf (Over_nil (y_callL rf rf (back_call _) (fun w hw => by rw [← hkk]; exact backF_any l (l.es.length - 1 - k) g 0 (l.aft (l.es.length - 1 - k + 1)) w hok om0 (hG.st w hw) (by unfold Sn.Sm; omega))))) ?_
  refine P_det rf (Over_out rf (Over_nil (y_index (k := l.es.length - 1 - k) rf rf r1 d10 Tryz.runUnderlying131 Tryz.sizeOf59))) ?_
  refine P_st 1000000 0 rf rf rf rf rf (Over_nil (st_pre (fun _ => by rfl) (fun _ => by rfl) Tryz.sizeOf59 rf rf (by show 0 + (l.es.length - 1 - k) * 2 + 2 ≤ (snRow (l.bf k) l.es.length).length; rw [rowOf_len sn_len]; omega))) ?_
  refine PW_end rf ?_
  refine OverAll_cons (fun w1000000 l1000000 => ?_)
  refine OverAll_nil ?_
  rintro ⟨-, h1000000⟩
  obtain rfl := h1000000
  refine Then_normal ?_
  refine W_H (congrArg (fun x => (b5, CB x 59) :: _) hs1) ?_
  apply W_draw1 hF Tryzmixed [1000000] (i := 2) rf dk0
  intro ds
  refine P_det rf (Over_out rf (Over_nil (y_load1 rf Tryz.isAgg131 (Mem.own1 2 rf rf)))) ?_
  refine P_det rf (Over_out rf (Over_nil (y_move (c := .int .i64 _) rf))) ?_
  refine P_det rf (Over_out rf (Over_nil (y_load1 rf Tryz.isAgg131 (Mem.own1 3 rf rf)))) ?_
  refine P_det rf (Over_out rf (Over_nil (y_move (c := .int .i64 _) rf))) ?_
  refine P_det rf (Over_out rf (Over_nil (y_index (k := l.es.length - 1 - k) rf rf r1 d10 Tryz.runUnderlying131 Tryz.sizeOf59))) ?_
  refine P_det rf (Over_out rf (Over_nil (y_fieldAddr rf fa59_0))) ?_
  refine P_det rf (Over_out rf (Over_nil (y_load1 rf Tryz.isAgg3 (Mem.rowAt sn_len 0 rf (k := l.es.length - 1 - k) (j := 0) om0 hbfe rf om0)))) ?_
  refine P_det rf (Over_out rf (Over_nil (y_load1 rf Tryz.isAgg130 (Mem.own1 4 rf rf)))) ?_
  refine P_det rf (Over_out rf (Over_nil znk)) ?_
  refine P_det rf (Over_out rf (Over_nil (y_fieldAddr rf fa141_0))) ?_
  refine P_det rf (Over_out rf (Over_nil (y_load1 rf Tryz.isAgg134 zo))) ?_
  refine P_det rf (Over_out rf (Over_nil znk)) ?_
  refine P_det rf (Over_out rf (Over_nil (y_fieldAddr rf fa143_1))) ?_
  refine P_det rf (Over_out rf (Over_nil (y_load1 rf Tryz.isAgg3 zo))) ?_
  refine P_det rf (Over_out rf (Over_nil (y_load1 rf Tryz.isAgg131 (Mem.own1 3 rf rf)))) ?_
  refine P_det rf (Over_out rf (Over_nil (y_move (c := .int .i64 _) rf))) ?_
  refine P_det rf (Over_out rf (Over_nil (y_index (k := l.es.length - 1 - k) rf rf r1 d10 Tryz.runUnderlying131 Tryz.sizeOf59))) ?_
  refine P_det rf (Over_out rf (Over_nil (y_fieldAddr rf fa59_1))) ?_
  refine P_det rf (Over_out rf (Over_nil (y_load1 rf Tryz.isAgg3 (Mem.rowAt sn_len 0 rf (k := l.es.length - 1 - k) (j := 1) om0 hbfe rf om0)))) ?_
  refine P_det rf (Over_out rf (Over_nil (y_load1 rf Tryz.isAgg130 (Mem.own1 4 rf rf)))) ?_
  refine P_det rf (Over_out rf (Over_nil (y_move (c := .int .i64 _) rf))) ?_
  refine P_det rf (Over_out rf (Over_nil (y_callL rf (by rw [← hik]; rfl) Tryz.call142 (fun w hw => drip_any bk l (l.es.length - 1 - k) w (hB0.st w hw) om0)))) ?_
  refine P_det rf (Over_out rf (Over_nil (y_add rf rf ui))) ?_
  refine P_det rf (Over_out rf (Over_nil (y_min rf rf))) ?_
  refine P_det rf (Over_out rf (Over_nil (y_buildL bd59_0_1 rf))) ?_
  refine P_det rf (Over_out rf (Over_nil (y_index (k := l.es.length - 1 - k) rf rf r1 d10 Tryz.runUnderlying131 Tryz.sizeOf59))) ?_
  refine P_st 1000000 0 rf rf rf rf rf (Over_nil (st_pre (fun _ => by rfl) (fun _ => by rfl) Tryz.sizeOf59 rf rf (by show 0 + (l.es.length - 1 - k) * 2 + 2 ≤ (snRow (l.af k) (l.es.length + 1)).length; rw [rowOf_len sn_len]; omega))) ?_
  refine PW_end rf ?_
  refine OverAll_cons (fun w1000000 l1000000 => ?_)
  refine OverAll_nil ?_
  rintro ⟨-, h1000000⟩
  obtain rfl := h1000000
  refine InB_normal ?_
  refine ⟨[_, _, _, _, _], (SubP.hsub (SubP.pick 0 rf (SubP.pick 2 rf (SubP.pick 0 rf (SubP.pick 1 rf (SubP.pick 1 rf (by exact SubP.drop (SubP.refl)))))))), ?_⟩
  exact congrArg (fun x => (b4, CB x 59) :: _) hs2
 ·rintro G hj
  subst hj
  refine InB_normal ?_
  refine Then_normal ?_
  refine W_seq ?_
  apply W_drawZ 2 1 hF Tryzmixed [] [] [] rf dk0 dc rf rf rf rf rf Tryz.isAgg131 HSub.refl
  intro ds
  refine P_det rf (Over_nil (y_load1 rf Tryz.isAgg131 (Mem.own1 2 rf rf))) ?_
  refine P_det rf (Over_nil (y_load1 rf Tryz.isAgg131 (Mem.own1 4 rf rf))) ?_
  refine PW_end rf ?_
  refine OverAll_nil ?_
  rintro -
  refine ⟨?_, fun xz => ?_⟩
  ·
   refine WS_store hF (i := 2) rf rf Tryz.sizeOf131 rf rf rf d20 ?_
   refine WS_store hF (i := 4) rf rf Tryz.sizeOf131 rf rf rf d20 ?_
   refine zN ?_
   refine W_ret ?_
   refine Fin_ret [_, _] [(b4, _), (b5, _)] Tryz.results111 ⟨lv1 rf Tryz.isAgg131 (Mem.own1 2 rf rf), lv1 rf Tryz.isAgg131 (Mem.own1 4 rf rf), trivial⟩ ((SubP.hsub (SubP.pick 1 rf (SubP.pick 2 rf (SubP.nil))))) ?_
   exact ⟨b4, b5, rfl, by rw [← l.af_end, ← l.bf_end]⟩
  ·
   refine WS_store hF (i := 2) rf rf Tryz.sizeOf131 rf rf rf d20 ?_
   refine zD hF (y_load1 rf Tryz.isAgg131 (Mem.own1 4 rf rf)) ?_
   refine WS_store hF (i := 4) rf rf Tryz.sizeOf131 rf rf rf d20 ?_
   refine zN ?_
   refine W_ret ?_
   refine Fin_ret [_, _] [(b4, _), (b5, _)] Tryz.results111 ⟨lv1 rf Tryz.isAgg131 (Mem.own1 2 rf rf), lv1 rf Tryz.isAgg131 (Mem.own1 4 rf rf), trivial⟩ ((SubP.hsub (SubP.pick 1 rf (SubP.pick 2 rf (SubP.nil))))) ?_
   exact ⟨b4, b5, rfl, by rw [← l.af_end, ← l.bf_end]⟩
 ·rintro c k G hk hj
  exact hj.elim
theorem bd133_0 {x0 : Option Addr} : ∀ w, (Instr.build 133 #[(0, .pointer x0)]).run Tryz.prog w = .ok (.agg #[.pointer x0, .slice none 0 0, .slice none 0 0, .slice none 0 0]) w := fun w => by kernel_rfl
theorem bs131_1_0 {x0_0 : Int} {x0_1 : Int} : ∀ w, (Instr.buildSlice 131 1 #[(0, .agg #[.int .i64 x0_0, .int .i64 x0_1])]).run Tryz.prog w = .ok (.slice (some ⟨w.heap.size, 0, none⟩) 1 1) (w.alloc (CB [.int .i64 x0_0, .int .i64 x0_1] 59)) := fun w => by kernel_rfl
theorem fa133_1 : ∀ b o w, (Instr.fieldAt 133 (.pointer (some ⟨b, o, none⟩)) 1).run Tryz.prog w = .ok (.pointer (some ⟨b, o + 1, none⟩)) w := fun b o w => by kernel_rfl
theorem fa133_2 : ∀ b o w, (Instr.fieldAt 133 (.pointer (some ⟨b, o, none⟩)) 2).run Tryz.prog w = .ok (.pointer (some ⟨b, o + 2, none⟩)) w := fun b o w => by kernel_rfl
theorem fa133_3 : ∀ b o w, (Instr.fieldAt 133 (.pointer (some ⟨b, o, none⟩)) 3).run Tryz.prog w = .ok (.pointer (some ⟨b, o + 3, none⟩)) w := fun b o w => by kernel_rfl
def Lg.holdsB (l : Lg) : Bool := (List.range (l.es.length + 1)).all fun k => !(l.hold k).empty
theorem Lg.holdsB_iff (l : Lg) : l.holdsB = true ↔ ∀ k, k ≤ l.es.length → (l.hold k).empty = false := by
 unfold Lg.holdsB
 simp only [List.all_eq_true, List.mem_range, Bool.not_eq_true']
 constructor
 ·intro h k hk; exact h k om0
 ·intro h k hk; exact h k om0
def Lg.aerr (l : Lg) : Int := if l.err = 0 then if l.holdsB then 0 else 8 else l.err
theorem Lg.steps_le (l : Lg) : ∀ m k, l.steps k m ≤ m + 1
 | 0, _ => Nat.le_refl _
 | m + 1, k => by
  have := Lg.steps_le l m (k + 1)
  unfold Lg.steps
  split <;> omega
theorem Lg.steps_full (l : Lg) : ∀ m k, (∀ j, k ≤ j → j < k + l.steps k m → (l.hold j).empty = false) → l.steps k m = m + 1
 | 0, _, _ => rfl
 | m + 1, k, h => by
  have hk := h k (Nat.le_refl _) (by have := l.steps_pos k (m + 1); omega)
  rw [l.steps_more hk] at h ⊢
  rw [Lg.steps_full l m (k + 1) fun j h1 h2 => h j om0 om0]
  omega
theorem Lg.times_le (l : Lg) : l.times ≤ l.es.length + 1 := l.steps_le _ _
theorem Lg.times_full (l : Lg) (h : ∀ j, j < l.times → (l.hold j).empty = false) : l.times = l.es.length + 1 := l.steps_full _ _ fun j _ h2 => h j (by unfold Lg.times; omega)
def knownCells (bk fb : Nat) (capf : Nat) (ab bb n : Nat) : List Value := [.pointer (some ⟨bk, 0, none⟩), .slice (some ⟨fb, 0, none⟩) (n + 1) capf, .slice (some ⟨ab, 0, none⟩) (n + 1) (n + 1), .slice (some ⟨bb, 0, none⟩) n n]
def KB (l : Lg) (a : Option Addr) (cap : Nat) (ae : Option Addr) (cape : Nat) (kb : Nat) (Hn : List Blk) : Prop :=
 ∃ bk g fb capf junk ab bb, Hn = [(kb, CB (knownCells bk fb capf ab bb l.es.length) 133), (fb, CB (snRow l.hold (l.es.length + 1) ++ junk) 59), (ab, CB (snRow l.aft (l.es.length + 1)) 59), (bb, CB (snRow l.ahd l.es.length) 59), (bk, CB (bookCells g l a cap ae cape) 141), (g, CB (gaugeCells l.tk a cap) 143)]
def AskV (l : Lg) (a : Option Addr) (cap : Nat) (ae : Option Addr) (cape : Nat) (v : Value) (Hn : List Blk) : Prop :=
 ∃ p, v = .tuple #[.pointer p, .int .i64 l.aerr] ∧ (l.aerr = 0 → ∃ kb, p = some ⟨kb, 0, none⟩ ∧ KB l a cap ae cape kb Hn) ∧ (l.aerr ≠ 0 → Hn = [])
theorem Tk.entsB_get (t : Tk) : ∀ (es : List En) (day : Int), t.entsB day es = true → ∀ k, k < es.length → t.entB (if k = 0 then day else (es.getD (k - 1) En.z).day) (es.getD k En.z) = true
 | [], _, _, k, hk => by simp at hk
 | x :: es, day, h, k, hk => by
  unfold Tk.entsB at h
  rw [Bool.and_eq_true] at h
  cases k with
  | zero => simpa using h.1
  | succ k =>
   have := Tk.entsB_get t es x.day h.2 k (by simpa using hk)
   cases k with
   | zero => simpa using this
   | succ k => simpa using this
theorem Lg.ok_of (l : Lg) (h : l.err = 0) : l.Ok := by
 unfold Lg.err at h
 split at h
 ·rename_i ht
  split at h
  ·rename_i hl
   unfold Lg.okB at hl
   simp only [Bool.and_eq_true, decide_eq_true_eq] at hl
   obtain ⟨⟨h1, h2⟩, h3⟩ := hl
   have hg := l.tk.entsB_get l.es 0 h3
   have hd : ∀ k, k < l.es.length → inB (l.dayAt k) 3652 [(l.e k).day] = true ∧ inB 1 3 [(l.e k).kind] = true ∧ (l.e k).size.inB (l.tk.most (l.e k).kind) = true := fun k hk => by
    have := hg k hk
    unfold Tk.entB at this
    simp only [Bool.and_eq_true] at this
    exact ⟨this.1.1, this.1.2, this.2⟩
   have hday : ∀ k, k < l.es.length → 0 ≤ l.dayAt k ∧ l.dayAt k ≤ (l.e k).day ∧ (l.e k).day ≤ 3652 := by
    intro k
    induction k with
    | zero => intro hk; have := inB1.1 (hd 0 hk).1; exact ⟨Int.le_refl _, this⟩
    | succ k ih =>
     intro hk
     have h4 := inB1.1 (hd (k + 1) hk).1
     have h5 := ih om0
     refine ⟨?_, h4⟩
     show 0 ≤ (l.e (k + 1 - 1)).day
     rw [Nat.add_sub_cancel]; omega
   refine ⟨Tk.ok_iff.1 ht, h1, h2, fun k hk => ?_, fun k hk => ?_, fun k hk => inB1.1 (hd k hk).2.1, fun k hk => (hd k hk).2.2⟩
   ·have := hday k hk; omega
   ·have := (hday (k + 1) hk).2.1
    exact this
  ·cases h
 ·cases h
theorem asked_any (l : Lg) (a : Option Addr) (cap : Nat) (ae : Option Addr) (cape : Nat) (w : World) (hn : l.tk.n ≤ 1000000) (hx : Ints w a l.tk.n cap l.tk.pints) (he : Ens w ae l.es.length cape l.es) :
  Ct Tryz.prog 73 #[.agg #[.slice a l.tk.n cap, .int .i64 l.tk.leak, .int .i64 l.tk.foot, .int .i64 l.start.lo, .int .i64 l.start.hi, .slice ae l.es.length cape]] w (AskV l a cap ae cape) := by
 have hF := wide_wide
 refine Ct_start (args := [_]) Tryz.func73 rf Tryz.ntmps73 rf ?_
 refine zR fun ds => ?_
 refine WS_new hF rf (y_box rf) (fun b1 => ?_)
 refine WS_new hF rf (y_alloc Tryz.zeroValue126 rf) (fun b2 => ?_)
 refine WS_new hF rf (y_alloc Tryz.zeroValue28 rf) (fun b3 => ?_)
 refine zP fun ds => ?_
 refine zD hF (y_loadN rf Tryz.isAgg62 Tryz.sizeOf62 (Mem.own (us := [.slice _ _ _, .int .i64 _, .int .i64 _, .int .i64 _, .int .i64 _, .slice _ _ _]) 2 rf rf) rf) ?_
 refine WS_gen hF rf (y_callL rf rf Tryz.call108 (fun w hw => opened_any l a cap ae cape w hn (hx.st w hw) (he.st w hw))) ?_
 rintro _ Hg ⟨p, rfl, hg1, hg2⟩
 refine zm (.tuple _) hF ?_
 refine zD hF (y_extract (c := .pointer _) rf rf) ?_
 refine zD hF (y_extract (c := .int .i64 _) rf rf) ?_
 refine za (.pointer _) hF ?_
 refine za (.int .i64 _) hF ?_
 refine zO ?_
 refine zR fun ds => ?_
 refine zm (.int .i64 _) hF ?_
 refine zD hF (y_neq rf rf) ?_
 refine zN ?_
 refine W_cond rf (fun c2 => ?_) (fun c2 => ?_)
 ·
  try simp only [qz1, qz2, qz3, qz4, qz5, qz6, qz7, qz8] at c2
  obtain rfl := hg2 c2
  refine zR fun ds => ?_
  refine zm (.int .i64 _) hF ?_
  refine WS_store hF (i := 1) rf rf Tryz.sizeOf126 rf rf rf d20 ?_
  refine WS_store hF (i := 0) rf rf Tryz.sizeOf28 rf rf rf d20 ?_
  refine zN ?_
  refine W_ret ?_
  refine Then_ret ?_
  refine Fin_ret [_, _] [] Tryz.results73 ⟨lv1 rf Tryz.isAgg126 (Mem.own1 1 rf rf), lv1 rf Tryz.isAgg28 (Mem.own1 0 rf rf), trivial⟩ HSub.nil ?_
  have ha : l.aerr = l.err := if_neg c2
  refine ⟨none, by rw [ha]; rfl, fun h => absurd (ha ▸ h) c2, fun _ => rfl⟩
 ·
  try simp only [qz1, qz2, qz3, qz4, qz5, qz6, qz7, qz8] at c2
  obtain ⟨g, bk, rfl, rfl⟩ := hg1 c2
  have hok := l.ok_of c2
  have hn12 := hok.n12
  have htl := l.times_le
  refine W_skip ?_
  refine zS fun ds => ?_
  refine zm (.pointer _) hF ?_
  refine zD hF (y_buildL bd133_0 rf) ?_
  refine WS_new hF rf (y_box rf) (fun b4 => ?_)
  refine WS_new hF rf (y_alloc Tryz.zeroValue126 rf) (fun b5 => ?_)
  refine WS_store hF (i := 0) rf rf Tryz.sizeOf126 rf rf rf d20 ?_
  refine zO ?_
  refine zR fun ds => ?_
  refine zm (.pointer _) hF ?_
  refine WS_gen hF rf (y_callL rf rf Tryz.call109 (fun w hw => holding_any bk w)) ?_
  rintro _ _ ⟨bx, rfl, rfl⟩
  refine zN ?_
  refine W_block ?_
  refine W_range hF rf (encs := (fun k => [.int .i64 (k : Int), .agg (l.hold k).cells.toArray])) (N := l.times) (H0 := [(bx, CB [.pointer (some ⟨bk, 0, none⟩)] 130), (bk, CB (bookCells g l a cap ae cape) 141), (g, CB (gaugeCells l.tk a cap) 143)]) (G0 := [_, _, _, _]) (fun k G => ∃ fa fcap Hf, G = (b4, CB [.pointer (some ⟨bk, 0, none⟩), .slice fa k fcap, .slice none 0 0, .slice none 0 0] 133) :: (b5, CB [.pointer (some ⟨b4, 0, none⟩)] 126) :: (b2, CB [.pointer none] 126) :: (b3, CB [.int .i64 0] 28) :: Hf ∧ Row 59 2 fa k fcap (snRow l.hold k) Hf ∧ ∀ j, j < k → (l.hold j).empty = false) (fun c k G => c = .ret ∧ (l.hold (k - 1)).empty = true ∧ G = [(b2, CB [.pointer none] 126), (b3, CB [.int .i64 8] 28)]) rf Tryz.call139 rf (fun _ => rfl) (fun ds => holding_it l _ _ _ bx bk g a cap ae cape hok hx he) (⟨none, 0, [], rfl, Row.nil 59 2, fun j hj => by omega⟩) ((SubP.hsub (SubP.pick 0 rf (SubP.pick 2 rf (SubP.pick 2 rf (SubP.pick 1 rf (SubP.pick 0 rf (SubP.pick 1 rf (SubP.pick 0 rf (SubP.nil)))))))))) ?_ ?_ ?_
  ·rintro k hk G hj out lpr R R'
   have hF := wide_inRound wide_wide lpr
   obtain ⟨fa, fcap, Hf, rfl, hrow, hne⟩ := hj
   refine W_region_lit (fun ds => ?_)
   refine WS_new hF rf (y_alloc Tryz.zeroValue59 rf) (fun b6 => ?_)
   refine WS_store hF (i := 0) rf rf Tryz.sizeOf59 rf rf rf d20 ?_
   refine zN ?_
   refine ⟨(_ :: _ :: _ :: _ :: _ :: Hf), rfl, ?_⟩
   refine W_block ?_
   refine W_seq ?_
   apply W_drawZ 7 0 hF Tryzmixed [] [] [] rf dk0 dc rf rf rf rf rf Tryz.isAgg126 HSub.refl
   intro ds
   refine P_det rf (Over_nil (y_load1 rf Tryz.isAgg126 (Mem.own1 2 rf rf))) ?_
   refine P_det rf (Over_nil (y_load1 rf Tryz.isAgg126 (Mem.own1 2 rf rf))) ?_
   refine P_det rf (Over_nil znk) ?_
   refine P_det rf (Over_nil (y_fieldAddr rf fa133_1)) ?_
   refine P_det rf (Over_nil (y_load1 rf Tryz.isAgg131 (Mem.own1 1 rf rf))) ?_
   refine P_det rf (Over_nil (y_loadN rf Tryz.isAgg59 Tryz.sizeOf59 (Mem.own (us := [.int .i64 _, .int .i64 _]) 0 rf rf) rf)) ?_
   refine P_new rf rf (Over_nil (y_buildSliceL bs131_1_0 rf)) ?_
   refine PW_end rf ?_
   refine OverAll_cons (fun w30 l30 => ?_)
   refine OverAll_nil ?_
   rintro ⟨-, h30⟩
   obtain ⟨b7, rfl, rfl⟩ := h30
   refine ⟨?_, fun xz => ?_⟩
   ·
    refine WS_append hF (H1 := [_, _, _, _, _, _]) rf rf rf Tryz.underlying131 infSpan rf rf hrow (.inr ⟨_, _, rfl, Mem.own (us := [.int _ _, .int _ _]) 0 rf rf⟩) rf rf om0 om0 ?_
    intro fa2 fcap2 Hf2 hrow2
    refine zD hF znk ?_
    refine zD hF (y_fieldAddr rf fa133_1) ?_
    refine WS_store hF (i := 2) rf rf Tryz.sizeOf131 rf rf rf d20 ?_
    refine zP fun ds => ?_
    refine zD hF (y_loadN rf Tryz.isAgg59 Tryz.sizeOf59 (Mem.own (us := [.int .i64 _, .int .i64 _]) 1 rf rf) rf) ?_
    refine zD hF (y_callL rf rf Tryz.call110 (fun w hw => empty_any (l.hold k).lo (l.hold k).hi w)) ?_
    refine zN ?_
    refine W_cond rf (fun c8 => ?_) (fun c8 => ?_)
    ·
     try simp only [qz1, qz2, qz3, qz4, qz5, qz6, qz7, qz8] at c8
     refine zR fun ds => ?_
     refine WS_store hF (i := 4) rf rf Tryz.sizeOf126 rf rf rf d20 ?_
     refine WS_store hF (i := 5) rf rf Tryz.sizeOf28 rf rf rf d20 ?_
     refine zN ?_
     refine W_ret ?_
     refine InB_ret ?_
     refine ⟨[_, _], (SubP.hsub (SubP.pick 4 rf (SubP.pick 4 rf (by exact SubP.drop (SubP.drop (SubP.drop (SubP.drop (SubP.dropL (X := Hf2) (SubP.refl))))))))), rfl, ?_, rfl⟩
     show (l.hold k).empty = true
     unfold Sn.empty; simp only [decide_eq_true_eq]; omega
    ·
     try simp only [qz1, qz2, qz3, qz4, qz5, qz6, qz7, qz8] at c8
     refine W_skip ?_
     refine InB_normal ?_
     refine ⟨_ :: _ :: _ :: _ :: Hf2, (SubP.hsub (SubP.pick 2 rf (SubP.pick 2 rf (SubP.pick 2 rf (SubP.pick 2 rf (by exact SubP.drop (SubP.drop (SubP.refl)))))))), fa2, fcap2, Hf2, rfl, ?_, ?_⟩
     ·rw [snRow, rowOf_succ]; exact hrow2
     ·intro j hj
      obtain hj | rfl : j < k ∨ j = k := by omega
      ·exact hne j hj
      ·unfold Sn.empty; simp only [decide_eq_false_iff_not]; omega
   ·
    refine WS_append hF (H1 := [_, _, _, _, _, _]) rf rf rf Tryz.underlying131 infSpan rf rf hrow (.inr ⟨_, _, rfl, Mem.own (us := [.int _ _, .int _ _]) 0 rf rf⟩) rf rf om0 om0 ?_
    intro fa2 fcap2 Hf2 hrow2
    refine zD hF (y_load1 rf Tryz.isAgg126 (Mem.own1 3 rf rf)) ?_
    refine zD hF znk ?_
    refine zD hF (y_fieldAddr rf fa133_1) ?_
    refine WS_store hF (i := 2) rf rf Tryz.sizeOf131 rf rf rf d20 ?_
    refine zP fun ds => ?_
    refine zD hF (y_loadN rf Tryz.isAgg59 Tryz.sizeOf59 (Mem.own (us := [.int .i64 _, .int .i64 _]) 1 rf rf) rf) ?_
    refine zD hF (y_callL rf rf Tryz.call110 (fun w hw => empty_any (l.hold k).lo (l.hold k).hi w)) ?_
    refine zN ?_
    refine W_cond rf (fun c8 => ?_) (fun c8 => ?_)
    ·
     try simp only [qz1, qz2, qz3, qz4, qz5, qz6, qz7, qz8] at c8
     refine zR fun ds => ?_
     refine WS_store hF (i := 4) rf rf Tryz.sizeOf126 rf rf rf d20 ?_
     refine WS_store hF (i := 5) rf rf Tryz.sizeOf28 rf rf rf d20 ?_
     refine zN ?_
     refine W_ret ?_
     refine InB_ret ?_
     refine ⟨[_, _], (SubP.hsub (SubP.pick 4 rf (SubP.pick 4 rf (by exact SubP.drop (SubP.drop (SubP.drop (SubP.drop (SubP.dropL (X := Hf2) (SubP.refl))))))))), rfl, ?_, rfl⟩
     show (l.hold k).empty = true
     unfold Sn.empty; simp only [decide_eq_true_eq]; omega
    ·
     try simp only [qz1, qz2, qz3, qz4, qz5, qz6, qz7, qz8] at c8
     refine W_skip ?_
     refine InB_normal ?_
     refine ⟨_ :: _ :: _ :: _ :: Hf2, (SubP.hsub (SubP.pick 2 rf (SubP.pick 2 rf (SubP.pick 2 rf (SubP.pick 2 rf (by exact SubP.drop (SubP.drop (SubP.refl)))))))), fa2, fcap2, Hf2, rfl, ?_, ?_⟩
     ·rw [snRow, rowOf_succ]; exact hrow2
     ·intro j hj
      obtain hj | rfl : j < k ∨ j = k := by omega
      ·exact hne j hj
      ·unfold Sn.empty; simp only [decide_eq_false_iff_not]; omega
  ·rintro G hj
   obtain ⟨fa, fcap, Hf, rfl, hrow, hne⟩ := hj
   have htf := l.times_full hne
   rw [htf] at hrow hne
   rw [htf]
   obtain ⟨_, h0, _⟩ | ⟨fb, junk, rfl, rfl, hl1, hl2, hle⟩ := hrow
   ·omega
   refine InB_normal ?_
   refine Then_normal ?_
   refine W_seq ?_
   apply W_drawMT 10 hF Tryzmixed [Pre.dep 1000000 b4 _ 41 _ _] [1000000] [1000000] rf dk0 dc (fun _ _ h => h.perm (perm_erase (i := 3) rf).symm)
   intro ds
   refine P_det rf (Over_out rf (Over_nil (y_load1 rf Tryz.isAgg126 (Mem.own1 3 rf rf)))) ?_
   refine P_det rf (Over_out rf (Over_nil (y_load1 rf Tryz.isAgg126 (Mem.own1 3 rf rf)))) ?_
   refine P_det rf (Over_out rf (Over_nil (y_move (c := .pointer _) rf))) ?_
   refine P_new rf rf (Over_out rf (Over_nil (y_callL rf rf Tryz.call111 (fun w hw => back_any bk l w (Bk.own (by repeat (first | exact List.mem_cons_self | apply List.mem_cons_of_mem)) (by repeat (first | exact List.mem_cons_self | apply List.mem_cons_of_mem)) hok hx he w hw))))) ?_
   refine P_ali [40] (fun e => e 40) rf rf rf (fun _ _ h => h 40 (List.mem_singleton.2 rfl)) (Over_in rf (Over_out rf (Over_nil (by intro vb9 l40 hb9; obtain ⟨ab, bb, rfl, rfl⟩ := hb9; exact (YD0_of (y_move (c := .tuple _) rf)))))) ?_
   refine P_ali [36] (fun e => tupAt (e 36) 0) rf rf rf (fun _ _ h => congrArg (tupAt · 0) (h 36 (List.mem_singleton.2 rfl))) (Over_in rf (Over_in rf (Over_out rf (Over_nil (by intro vb11 l40 hb11; obtain ⟨ab, bb, rfl, rfl⟩ := hb11; rintro vb12 _ ⟨hvb12, rfl⟩; replace hvb12 : vb12 = .tuple _ := hvb12; subst hvb12; exact (YD0_of (y_extract (c := .slice _ _ _) rf rf))))))) ?_
   refine P_ali [36] (fun e => tupAt (e 36) 1) rf rf rf (fun _ _ h => congrArg (tupAt · 1) (h 36 (List.mem_singleton.2 rfl))) (Over_out rf (Over_in rf (Over_in rf (Over_out rf (Over_nil (by intro vb14 l40 hb14; obtain ⟨ab, bb, rfl, rfl⟩ := hb14; rintro vb15 _ ⟨hvb15, rfl⟩; replace hvb15 : vb15 = .tuple _ := hvb15; subst hvb15; exact (YD0_of (y_extract (c := .slice _ _ _) rf rf)))))))) ?_
   refine P_det rf (Over_out rf (Over_out rf (Over_out rf (Over_out rf (Over_out rf (Over_nil znk)))))) ?_
   refine P_det rf (Over_out rf (Over_out rf (Over_out rf (Over_out rf (Over_out rf (Over_nil (y_fieldAddr rf fa133_2))))))) ?_
   refine P_st 1000000 4 rf rf rf rf rf (Over_out rf (Over_in rf (Over_in rf (Over_in rf (Over_nil (by intro vb17 l40 hb17; obtain ⟨ab, bb, rfl, rfl⟩ := hb17; rintro vb18 _ ⟨hvb18, rfl⟩; replace hvb18 : vb18 = .tuple _ := hvb18; subst hvb18; rintro vb19 _ ⟨hvb19, rfl⟩; replace hvb19 : vb19 = .slice _ _ _ := hvb19; subst hvb19; exact (st_preD (fun _ => by rfl) rf rf Tryz.sizeOf131 rf rf d20))))))) ?_
   refine PW_end rf ?_
   refine OverAll_cons (fun w42 l42 => ?_)
   refine OverAll_cons (fun w41 l41 => ?_)
   refine OverAll_cons (fun w36 l36 => ?_)
   refine OverAll_cons (fun w40 l40 => ?_)
   refine OverAll_cons (fun w1000000 l1000000 => ?_)
   refine OverAll_nil ?_
   rintro ⟨⟨⟨⟨⟨-, h42⟩, h41⟩, h36⟩, h40⟩, h1000000⟩
   obtain ⟨ab, bb, rfl, rfl⟩ := h40
   obtain ⟨h36, rfl⟩ := h36
   replace h36 : w36 = .tuple _ := h36
   subst h36
   obtain ⟨h41, rfl⟩ := h41
   replace h41 : w41 = .slice _ _ _ := h41
   subst h41
   obtain ⟨h42, rfl⟩ := h42
   replace h42 : w42 = .slice _ _ _ := h42
   subst h42
   obtain rfl := h1000000
   refine zD hF znk ?_
   refine zD hF (y_fieldAddr rf fa133_3) ?_
   refine WS_store hF (i := 0) rf rf Tryz.sizeOf131 rf rf rf d20 ?_
   refine zP fun ds => ?_
   refine zD hF (y_load1 rf Tryz.isAgg126 (Mem.own1 6 rf rf)) ?_
   refine WS_store hF (i := 7) rf rf Tryz.sizeOf126 rf rf rf d20 ?_
   refine WS_store hF (i := 8) rf rf Tryz.sizeOf28 rf rf rf d20 ?_
   refine zN ?_
   refine W_ret ?_
   have hB : l.holdsB = true := l.holdsB_iff.2 fun k hk => hne k om0
   have h0 : l.aerr = 0 := by unfold Lg.aerr; rw [if_pos c2, if_pos hB]
   refine Fin_ret [_, _] [(b4, _), (fb, _), (ab, _), (bb, _), (bk, _), (g, _)] Tryz.results73 ⟨lv1 rf Tryz.isAgg126 (Mem.own1 7 rf rf), lv1 rf Tryz.isAgg28 (Mem.own1 8 rf rf), trivial⟩ ((SubP.hsub (SubP.pick 0 rf (SubP.pick 8 rf (SubP.pick 0 rf (SubP.pick 0 rf (SubP.pick 1 rf (SubP.pick 1 rf (SubP.nil))))))))) ?_
   exact ⟨_, by rw [h0]; rfl, fun _ => ⟨b4, rfl, bk, g, fb, fcap, junk, ab, bb, rfl⟩, fun h => absurd h0 h⟩
  ·rintro c k G hk hj
   obtain ⟨rfl, hemp, rfl⟩ := hj
   refine W_ret ?_
   refine InB_ret ?_
   refine Then_ret ?_
   refine Fin_ret [_, _] [] Tryz.results73 ⟨lv1 rf Tryz.isAgg126 (Mem.own1 3 rf rf), lv1 rf Tryz.isAgg28 (Mem.own1 4 rf rf), trivial⟩ HSub.nil ?_
   have hB : l.holdsB = false := by
    cases hb : l.holdsB with
    | false => rfl
    | true => rw [Nat.add_sub_cancel, l.holdsB_iff.1 hb k om0] at hemp; cases hemp
   have h8 : l.aerr = 8 := by unfold Lg.aerr; rw [if_pos c2, hB]; rfl
   exact ⟨none, by rw [h8]; rfl, fun h => by omega, fun _ => rfl⟩
theorem fa133_0 : ∀ b o w, (Instr.fieldAt 133 (.pointer (some ⟨b, o, none⟩)) 0).run Tryz.prog w = .ok (.pointer (some ⟨b, o + 0, none⟩)) w := fun b o w => by kernel_rfl
theorem Lg.aerr0 (l : Lg) (h : l.aerr = 0) : l.err = 0 ∧ ∀ k, k ≤ l.es.length → (l.hold k).empty = false := by
 unfold Lg.aerr at h
 split at h
 ·split at h
  ·rename_i h1 h2; exact ⟨h1, l.holdsB_iff.1 h2⟩
  ·cases h
 ·rename_i h1; exact absurd h h1
def Lg.at (l : Lg) (i : Nat) : Sn := (l.hold i).met (l.aft i)
def Lg.last (l : Lg) : Sn := l.at l.es.length
structure Kn (w : World) (kb : Nat) (l : Lg) : Prop where
 ok : l.Ok
 ne : ∀ k, k ≤ l.es.length → (l.hold k).empty = false
 ex : ∃ bk fb capf ab bb, At w kb 0 (knownCells bk fb capf ab bb l.es.length) ∧ At w fb 0 (snRow l.hold (l.es.length + 1)) ∧ At w ab 0 (snRow l.aft (l.es.length + 1)) ∧ At w bb 0 (snRow l.ahd l.es.length) ∧ Bk w bk l
theorem Kn.below {w w' : World} {kb : Nat} {l : Lg} (h : Kn w kb l) (hb : Below w.heap.size w w') : Kn w' kb l := by
 obtain ⟨hok, hne, bk, fb, capf, ab, bb, h1, h2, h3, h4, h5⟩ := h
 exact ⟨hok, hne, bk, fb, capf, ab, bb, At.old hb h1, At.old hb h2, At.old hb h3, At.old hb h4, h5.below hb⟩
theorem Kn.st {C : Ctx} {H : List Blk} {kb : Nat} {l : Lg} (h : Kn C.w0 kb l) (w : World) (hw : St C H w) : Kn w kb l := h.below hw.1
def knBlocks (l : Lg) (a : Option Addr) (cap : Nat) (ae : Option Addr) (cape kb bk g fb capf : Nat) (junk : List Value) (ab bb : Nat) : List Blk :=
 [(kb, CB (knownCells bk fb capf ab bb l.es.length) 133), (fb, CB (snRow l.hold (l.es.length + 1) ++ junk) 59), (ab, CB (snRow l.aft (l.es.length + 1)) 59), (bb, CB (snRow l.ahd l.es.length) 59), (bk, CB (bookCells g l a cap ae cape) 141), (g, CB (gaugeCells l.tk a cap) 143)]
theorem At.block {C : Ctx} {H : List Blk} {b : Nat} {vs rest : List Value} {T : TypeId} (hm : (b, CB (vs ++ rest) T) ∈ H) (w : World) (hw : St C H w) : At w b 0 vs := by
 obtain ⟨i, hi, hii⟩ := List.mem_iff_getElem.1 hm
 exact Mem.own (rest := rest) i ((List.getElem?_eq_getElem hi).trans (congrArg some hii)) (by rw [List.drop_zero]) w hw
theorem At.block0 {C : Ctx} {H : List Blk} {b : Nat} {vs : List Value} {T : TypeId} (hm : (b, CB vs T) ∈ H) (w : World) (hw : St C H w) : At w b 0 vs := by
 have : (b, CB (vs ++ []) T) ∈ H := by rwa [List.append_nil]
 exact At.block this w hw
theorem Kn.own {C : Ctx} {H : List Blk} {l : Lg} {a : Option Addr} {cap : Nat} {ae : Option Addr} {cape kb bk g fb capf : Nat} {junk : List Value} {ab bb : Nat} (hs : (knBlocks l a cap ae cape kb bk g fb capf junk ab bb).Sublist H)
  (h0 : l.aerr = 0) (hx : Ints C.w0 a l.tk.n cap l.tk.pints) (he : Ens C.w0 ae l.es.length cape l.es) (w : World) (hw : St C H w) : Kn w kb l := by
 obtain ⟨h1, h2⟩ := l.aerr0 h0
 have hm : ∀ x ∈ knBlocks l a cap ae cape kb bk g fb capf junk ab bb, x ∈ H := fun x hx => hs.subset hx
 unfold knBlocks at hm
 simp only [List.forall_mem_cons] at hm
 obtain ⟨m1, m2, m3, m4, m5, m6, _⟩ := hm
 exact ⟨l.ok_of h1, h2, bk, fb, capf, ab, bb, At.block0 m1 w hw, At.block m2 w hw, At.block0 m3 w hw, At.block0 m4 w hw, Bk.own m5 m6 (l.ok_of h1) hx he w hw⟩
theorem At.rowOf {w : World} {b : Nat} {α : Type} {enc : α → List Value} {sz : Nat} (hz : ∀ x, (enc x).length = sz) {f : Nat → α} {n k o : Nat} (h : At w b 0 (rowOf enc f n)) (hk : k < n) (ho : o = k * sz) : At w b o (enc (f k)) := by
 subst ho
 obtain ⟨t, ht⟩ := rowOf_drop hz f hk
 refine At.of fun j v hv => ?_
 have hg : (Eng.rowOf enc f n)[k * sz + j]? = some v := rowOf_get hz f hk hv
 have := h.get (k * sz + j) v hg
 rw [Nat.zero_add] at this
 exact this
theorem at_any (kb : Nat) (l : Lg) (i : Nat) (w : World) (hK : Kn w kb l) (hi : i ≤ l.es.length) :
  Ct Tryz.prog 81 #[.pointer (some ⟨kb, 0, none⟩), .int .i64 (i : Int)] w fun v _ => v = .agg (l.at i).cells.toArray := by
 obtain ⟨hok, hne, bk, fb, capf, ab, bb, h1, h2, h3, h4, h5⟩ := hK
 have e1 : At w fb (0 + i * 2) (l.hold i).cells := At.rowOf sn_len h2 om0 om0
 have e2 : At w ab (0 + i * 2) (l.aft i).cells := At.rowOf sn_len h3 om0 om0
 have hF := wide_wide
 refine Ct_start (args := [_, _]) Tryz.func81 rf Tryz.ntmps81 rf ?_
 refine zR fun ds => ?_
 refine WS_new hF rf (y_alloc Tryz.zeroValue59 rf) (fun b1 => ?_)
 refine zO ?_
 apply W_draw1 hF Tryzmixed [1000000] (i := 0) rf dk0
 intro ds
 refine P_det rf (Over_out rf (Over_nil (y_move (c := .pointer _) rf))) ?_
 refine P_det rf (Over_out rf (Over_nil znk)) ?_
 refine P_det rf (Over_out rf (Over_nil (y_fieldAddr rf fa133_1))) ?_
 refine P_det rf (Over_out rf (Over_nil (y_load1 rf Tryz.isAgg131 zo))) ?_
 refine P_det rf (Over_out rf (Over_nil (y_move (c := .int .i64 _) rf))) ?_
 refine P_det rf (Over_out rf (Over_nil (y_index (k := i) rf rf r1 d10 Tryz.runUnderlying131 Tryz.sizeOf59))) ?_
 refine P_det rf (Over_out rf (Over_nil (y_loadN rf Tryz.isAgg59 Tryz.sizeOf59 (zq [.int .i64 _, .int .i64 _]) rf))) ?_
 refine P_det rf (Over_out rf (Over_nil (y_move (c := .pointer _) rf))) ?_
 refine P_det rf (Over_out rf (Over_nil znk)) ?_
 refine P_det rf (Over_out rf (Over_nil (y_fieldAddr rf fa133_2))) ?_
 refine P_det rf (Over_out rf (Over_nil (y_load1 rf Tryz.isAgg131 zo))) ?_
 refine P_det rf (Over_out rf (Over_nil (y_move (c := .int .i64 _) rf))) ?_
 refine P_det rf (Over_out rf (Over_nil (y_index (k := i) rf rf r1 d10 Tryz.runUnderlying131 Tryz.sizeOf59))) ?_
 refine P_det rf (Over_out rf (Over_nil (y_loadN rf Tryz.isAgg59 Tryz.sizeOf59 (zq [.int .i64 _, .int .i64 _]) rf))) ?_
 refine P_det rf (Over_out rf (Over_nil (y_callL rf rf Tryz.call116 (fun w hw => met_any _ _ _ _ w)))) ?_
 refine P_st 1000000 0 rf rf rf rf rf (Over_nil (st_pre (fun _ => by rfl) (fun _ => by rfl) Tryz.sizeOf59 rf rf d20)) ?_
 refine PW_end rf ?_
 refine OverAll_cons (fun w1000000 l1000000 => ?_)
 refine OverAll_nil ?_
 rintro ⟨-, h1000000⟩
 obtain rfl := h1000000
 refine Then_normal ?_
 refine W_ret ?_
 refine Fin_ret [_] [] Tryz.results81 ⟨lvN rf Tryz.isAgg59 Tryz.sizeOf59 (Mem.own (us := [.int .i64 _, .int .i64 _]) 0 rf rf) rf, trivial⟩ HSub.nil ?_
 rfl
theorem last_any (kb : Nat) (l : Lg) (w : World) (hK : Kn w kb l) :
  Ct Tryz.prog 74 #[.pointer (some ⟨kb, 0, none⟩)] w fun v _ => v = .agg l.last.cells.toArray := by
 have hK0 := hK
 obtain ⟨hok, hne, bk, fb, capf, ab, bb, h1, h2, h3, h4, _, g, a, cap, ae, cape, h5, _⟩ := hK
 have hF := wide_wide
 refine Ct_start (args := [_]) Tryz.func74 rf Tryz.ntmps74 rf ?_
 refine zR fun ds => ?_
 refine WS_new hF rf (y_alloc Tryz.zeroValue59 rf) (fun b1 => ?_)
 refine zP fun ds => ?_
 refine zm (.pointer _) hF ?_
 refine zm (.pointer _) hF ?_
 refine zD hF znk ?_
 refine zD hF (y_fieldAddr rf fa133_0) ?_
 refine zD hF (y_load1 rf Tryz.isAgg130 zo) ?_
 refine zD hF znk ?_
 refine zD hF (y_fieldAddr rf fa141_1) ?_
 refine zD hF (y_fieldAddr rf fa62_2) ?_
 refine zD hF (y_load1 rf Tryz.isAgg60 zo) ?_
 refine zD hF (y_len rf Tryz.runUnderlying60) ?_
 refine zD hF (y_callL rf rf Tryz.call81 (fun w hw => at_any kb l l.es.length w (hK0.st w hw) (Nat.le_refl _))) ?_
 refine WS_store hF (i := 0) rf rf Tryz.sizeOf59 rf rf rf d20 ?_
 refine zN ?_
 refine W_ret ?_
 refine Fin_ret [_] [] Tryz.results74 ⟨lvN rf Tryz.isAgg59 Tryz.sizeOf59 (Mem.own (us := [.int .i64 _, .int .i64 _]) 0 rf rf) rf, trivial⟩ HSub.nil ?_
 rfl
theorem bd59  : ∀ w, (Instr.build 59 #[]).run Tryz.prog w = .ok (.agg #[.int .i64 0, .int .i64 0]) w := fun w => by kernel_rfl
theorem Lg.Ok.at_bd {l : Lg} (h : l.Ok) (hne : ∀ k, k ≤ l.es.length → (l.hold k).empty = false) {i : Nat} (hi : i ≤ l.es.length) : 0 ≤ (l.at i).lo ∧ (l.at i).hi ≤ l.tk.full ∧ (l.at i).lo ≤ 10000000 ∧ -10000000 ≤ (l.at i).hi := by
 have h1 := h.hold_bd i hi fun j hj => hne j om0
 have h2 := h.aft_bd hi
 unfold Lg.at Sn.met
 simp only
 omega
theorem Lg.Ok.last_bd {l : Lg} (h : l.Ok) (hne : ∀ k, k ≤ l.es.length → (l.hold k).empty = false) : 0 ≤ l.last.lo ∧ l.last.hi ≤ l.tk.full ∧ l.last.lo ≤ 10000000 ∧ -10000000 ≤ l.last.hi := h.at_bd hne (Nat.le_refl _)
def Lg.sureV (l : Lg) (p : Int) : Value :=
 if l.aerr = 0 then if inB 0 l.tk.full [p] then if p ≤ l.last.lo then .tuple #[.int .u8 2, .int .i64 0] else if l.last.hi < p then .tuple #[.int .u8 0, .int .i64 0] else .tuple #[.int .u8 1, .int .i64 0] else .tuple #[.int .u8 0, .int .i64 2] else .tuple #[.int .u8 0, .int .i64 l.aerr]
def firstN (f : Nat → Bool) (n : Nat) : Option Nat := (List.range n).find? f
def Lg.whenV (l : Lg) (p : Int) : Value :=
 if l.aerr = 0 then if inB 0 l.tk.full [p] then match firstN (fun i => decide (p ≤ (l.at i).lo)) (l.es.length + 1) with
  | some i => .tuple #[.int .i64 (i : Int), .int .i64 0]
  | none => .tuple #[.int .i64 0, .int .i64 6] else .tuple #[.int .i64 0, .int .i64 2] else .tuple #[.int .i64 0, .int .i64 l.aerr]
def Sn.fl (s : Sn) (f : Int) : Sn := ⟨max 0 (s.lo - f), max 0 (s.hi - f)⟩
def Lg.readyV (l : Lg) : Value :=
 if l.aerr = 0 then .tuple #[.agg (l.last.fl (l.tk.up l.tk.foot)).cells.toArray, .int .i64 0] else .tuple #[.agg Sn.z.cells.toArray, .int .i64 l.aerr]
theorem ready_any (l : Lg) (a : Option Addr) (cap : Nat) (ae : Option Addr) (cape : Nat) (w : World) (hn : l.tk.n ≤ 1000000) (hx : Ints w a l.tk.n cap l.tk.pints) (he : Ens w ae l.es.length cape l.es) : Ct Tryz.prog 30 #[.agg #[.slice a l.tk.n cap, .int .i64 l.tk.leak, .int .i64 l.tk.foot, .int .i64 l.start.lo, .int .i64 l.start.hi, .slice ae l.es.length cape]] w fun v _ => v = l.readyV := by
 have hF := wide_wide
 refine Ct_start (args := [_]) Tryz.func30 rf Tryz.ntmps30 rf ?_
 refine zR fun ds => ?_
 refine WS_new hF rf (y_box rf) (fun b1 => ?_)
 refine WS_new hF rf (y_alloc Tryz.zeroValue59 rf) (fun b2 => ?_)
 refine za (.int .i64 _) hF ?_
 refine zP fun ds => ?_
 refine zD hF (y_loadN rf Tryz.isAgg62 Tryz.sizeOf62 (Mem.own (us := [.slice _ _ _, .int .i64 _, .int .i64 _, .int .i64 _, .int .i64 _, .slice _ _ _]) 1 rf rf) rf) ?_
 refine WS_gen hF rf (y_callL rf rf Tryz.call73 (fun w hw => asked_any l a cap ae cape w hn (hx.st w hw) (he.st w hw))) ?_
 rintro _ Hg ⟨p, rfl, hg1, hg2⟩
 refine zm (.tuple _) hF ?_
 refine zD hF (y_extract (c := .pointer _) rf rf) ?_
 refine zD hF (y_extract (c := .int .i64 _) rf rf) ?_
 refine za (.pointer _) hF ?_
 refine za (.int .i64 _) hF ?_
 refine zO ?_
 refine zR fun ds => ?_
 refine zm (.int .i64 _) hF ?_
 refine zD hF (y_neq rf rf) ?_
 refine zN ?_
 refine W_cond rf (fun c2 => ?_) (fun c2 => ?_)
 ·
  try simp only [qz1, qz2, qz3, qz4, qz5, qz6, qz7, qz8] at c2
  obtain rfl := hg2 c2
  refine zR fun ds => ?_
  refine zD hF (y_buildL bd59 rf) ?_
  refine zm (.int .i64 _) hF ?_
  refine WS_store hF (i := 0) rf rf Tryz.sizeOf59 rf rf rf d20 ?_
  refine za (.int .i64 _) hF ?_
  refine zN ?_
  refine W_ret ?_
  refine Then_ret ?_
  refine Fin_ret [_, .int .i64 _] [] Tryz.results30 ⟨lvN rf Tryz.isAgg59 Tryz.sizeOf59 (Mem.own (us := [.int .i64 _, .int .i64 _]) 0 rf rf) rf, by rfl, trivial⟩ HSub.nil ?_
  show Value.tuple _ = _
  unfold Lg.readyV
  rw [if_neg c2]; rfl
 ·
  try simp only [qz1, qz2, qz3, qz4, qz5, qz6, qz7, qz8] at c2
  obtain ⟨kb, rfl, bk, g, fb, capf, junk, ab, bb, rfl⟩ := hg1 c2
  have hok := l.ok_of (l.aerr0 c2).1
  have hne := (l.aerr0 c2).2
  have hfull := hok.tk.full_bd
  have hlb := hok.last_bd hne
  have hf0 := hok.tk.foot0
  have hf1 := hok.tk.foot1
  have hup := hok.tk.eight_bd hf0 hf1
  have hfe : 0 ≤ l.tk.up l.tk.foot ∧ l.tk.up l.tk.foot ≤ 100000 := by unfold Tk.up; omega
  refine zU ?_
  refine W_seq ?_
  refine W_draw0 hF Tryzmixed [6] dk0 (fun ds => ?_)
  refine P_det rf (Over_nil (y_move (c := .pointer _) rf)) ?_
  refine P_det rf (Over_nil (y_callL rf rf Tryz.call74 (fun w hw => last_any kb l w (Kn.own (a := a) (cap := cap) (ae := ae) (cape := cape) (bk := bk) (g := g) (fb := fb) (capf := capf) (junk := junk) (ab := ab) (bb := bb) (by unfold knBlocks; repeat (first | exact List.Sublist.refl _ | exact List.nil_sublist _ | apply List.Sublist.cons_cons | apply List.Sublist.cons)) c2 hx he w hw)))) ?_
  refine P_det rf (Over_nil (y_move (c := .pointer _) rf)) ?_
  refine P_det rf (Over_nil znk) ?_
  refine P_det rf (Over_nil (y_fieldAddr rf fa133_0)) ?_
  refine P_det rf (Over_nil (y_load1 rf Tryz.isAgg130 (Mem.own1 0 rf rf))) ?_
  refine P_det rf (Over_nil znk) ?_
  refine P_det rf (Over_nil (y_fieldAddr rf fa141_0)) ?_
  refine P_det rf (Over_nil (y_load1 rf Tryz.isAgg134 (Mem.own1 4 rf rf))) ?_
  refine P_det rf (Over_nil (y_move (c := .pointer _) rf)) ?_
  refine P_det rf (Over_nil znk) ?_
  refine P_det rf (Over_nil (y_fieldAddr rf fa133_0)) ?_
  refine P_det rf (Over_nil (y_load1 rf Tryz.isAgg130 (Mem.own1 0 rf rf))) ?_
  refine P_det rf (Over_nil znk) ?_
  refine P_det rf (Over_nil (y_fieldAddr rf fa141_0)) ?_
  refine P_det rf (Over_nil (y_load1 rf Tryz.isAgg134 (Mem.own1 4 rf rf))) ?_
  refine P_det rf (Over_nil znk) ?_
  refine P_det rf (Over_nil (y_fieldAddr rf fa143_0)) ?_
  refine P_det rf (Over_nil (y_fieldAddr rf fa57_2)) ?_
  refine P_det rf (Over_nil (y_load1 rf Tryz.isAgg3 (Mem.own1 5 rf rf))) ?_
  refine P_det rf (Over_nil (y_callL rf rf Tryz.call75 (fun w hw => up_any g 0 l.tk l.tk.foot w (Gg.own (by repeat (first | exact List.mem_cons_self | apply List.mem_cons_of_mem)) (Tk.ok_iff.2 hok.tk) hx w hw) hf0 hf1))) ?_
  apply P_newS _ rf rf rf (Over_nil (y_alloc Tryz.zeroValue59 rf))
  refine P_st 6 0 rf rf rf rf rf (Over_nil (st_new (fun _ => by rfl) Tryz.sizeOf59 rf rf d20)) ?_
  refine P_det rf (Over_out rf (Over_nil (y_assign (c := .int .i64 _) rf))) ?_
  refine PW_end rf ?_
  refine OverAll_cons (fun w6 l6 => ?_)
  refine OverAll_nil ?_
  rintro ⟨-, h6⟩
  obtain ⟨b3, rfl, rfl⟩ := h6
  refine zS fun ds => ?_
  refine zD hF (y_fieldAddr rf fa59_0) ?_
  refine zD hF (y_load1 rf Tryz.isAgg3 (Mem.own1 0 rf rf)) ?_
  refine zm (.int .i64 _) hF ?_
  refine zD hF (y_sub rf rf ui) ?_
  refine zD hF (y_max rf rf) ?_
  refine zD hF (y_fieldAddr rf fa59_1) ?_
  refine zD hF (y_load1 rf Tryz.isAgg3 (Mem.own1 0 rf rf)) ?_
  refine zm (.int .i64 _) hF ?_
  refine zD hF (y_sub rf rf ui) ?_
  refine zD hF (y_max rf rf) ?_
  refine zD hF (y_buildL bd59_0_1 rf) ?_
  refine WS_store hF (i := 7) rf rf Tryz.sizeOf59 rf rf rf d20 ?_
  refine za (.int .i64 _) hF ?_
  refine zN ?_
  refine W_ret ?_
  refine Fin_ret [_, .int .i64 _] [] Tryz.results30 ⟨lvN rf Tryz.isAgg59 Tryz.sizeOf59 (Mem.own (us := [.int .i64 _, .int .i64 _]) 7 rf rf) rf, by rfl, trivial⟩ HSub.nil ?_
  show Value.tuple _ = _
  unfold Lg.readyV
  rw [if_pos c2]; rfl
def Lg.roomV (l : Lg) : Value :=
 if l.aerr = 0 then .tuple #[.agg (Sn.sub ⟨l.tk.full, l.tk.full⟩ l.last).cells.toArray, .int .i64 0] else .tuple #[.agg Sn.z.cells.toArray, .int .i64 l.aerr]
def cmpI (x y : Int) : Int := if x < y then -1 else if y < x then 1 else 0
theorem compare_any (x y : Int) (w : World) : Ct Tryz.prog 86 #[.int .i64 x, .int .i64 y] w fun v _ => v = .int .i64 (cmpI x y) := by
 have hF := wide_wide
 refine Ct_start (args := [_, _]) Tryz.func86 rf Tryz.ntmps86 rf ?_
 refine zR fun ds => ?_
 refine za (.int .i64 _) hF ?_
 refine zP fun ds => ?_
 refine zm (.int .i64 _) hF ?_
 refine zD hF (y_callL rf rf Tryz.call118 (fun w hw => cnan_any _ w)) ?_
 refine za (.bool _) hF ?_
 refine zP fun ds => ?_
 refine zm (.int .i64 _) hF ?_
 refine zD hF (y_callL rf rf Tryz.call118 (fun w hw => cnan_any _ w)) ?_
 refine za (.bool _) hF ?_
 refine zO ?_
 refine zR fun ds => ?_
 refine zm (.bool _) hF ?_
 refine zN ?_
 refine W_cond rf (fun c3 => ?_) (fun c3 => ?_)
 ·cases c3
 ·
  try simp only [qz1, qz2, qz3, qz4, qz5, qz6, qz7, qz8] at c3
  refine zU ?_
  refine W_seq ?_
  refine zR fun ds => ?_
  refine zm (.bool _) hF ?_
  refine zN ?_
  refine W_cond rf (fun c7 => ?_) (fun c7 => ?_)
  ·cases c7
  ·
   try simp only [qz1, qz2, qz3, qz4, qz5, qz6, qz7, qz8] at c7
   refine zU ?_
   refine W_seq ?_
   refine zR fun ds => ?_
   refine zm (.int .i64 _) hF ?_
   refine zm (.int .i64 _) hF ?_
   refine zD hF (y_lss rf rf) ?_
   refine zN ?_
   refine W_cond rf (fun c9 => ?_) (fun c9 => ?_)
   ·
    try simp only [qz1, qz2, qz3, qz4, qz5, qz6, qz7, qz8] at c9
    refine zR fun ds => ?_
    refine za (.int .i64 _) hF ?_
    refine zN ?_
    refine W_ret ?_
    refine Then_ret ?_
    refine Fin_ret [.int .i64 _] [] Tryz.results86 ⟨by rfl, trivial⟩ HSub.nil ?_
    show Value.int _ _ = _
    unfold cmpI
    rw [if_pos om0]
   ·
    try simp only [qz1, qz2, qz3, qz4, qz5, qz6, qz7, qz8] at c9
    refine zU ?_
    refine W_seq ?_
    refine zR fun ds => ?_
    refine zm (.int .i64 _) hF ?_
    refine zm (.int .i64 _) hF ?_
    refine zD hF (y_gtr rf rf) ?_
    refine zN ?_
    refine W_cond rf (fun c11 => ?_) (fun c11 => ?_)
    ·
     try simp only [qz1, qz2, qz3, qz4, qz5, qz6, qz7, qz8] at c11
     refine zR fun ds => ?_
     refine za (.int .i64 _) hF ?_
     refine zN ?_
     refine W_ret ?_
     refine Then_ret ?_
     refine Fin_ret [.int .i64 _] [] Tryz.results86 ⟨by rfl, trivial⟩ HSub.nil ?_
     show Value.int _ _ = _
     unfold cmpI
     rw [if_neg om0, if_pos om0]
    ·
     try simp only [qz1, qz2, qz3, qz4, qz5, qz6, qz7, qz8] at c11
     refine W_skip ?_
     refine zS fun ds => ?_
     refine za (.int .i64 _) hF ?_
     refine zN ?_
     refine W_ret ?_
     refine Fin_ret [.int .i64 _] [] Tryz.results86 ⟨by rfl, trivial⟩ HSub.nil ?_
     show Value.int _ _ = _
     unfold cmpI
     rw [if_neg om0, if_neg om0]
def worstS (t : Tk) (s : Sn) (i : Int) : Int := max (min (max 0 (t.up i - s.lo)) (s.hi - s.lo + 1)) (s.hi - s.lo + 1 - min (max 0 (t.up i - s.lo)) (s.hi - s.lo + 1))
def Lg.worst (l : Lg) (i : Int) : Int := worstS l.tk l.last i
def bestN (f : Nat → Int) : Nat → Nat
 | 0 => 0
 | k + 1 => if f k < f (bestN f k) then k else bestN f k
def Lg.wN (l : Lg) (k : Nat) : Int := l.worst (k : Int)
def Lg.hN (l : Lg) : Nat := 8 * (l.tk.n - 1) + 1
def Lg.askV (l : Lg) : Value :=
 if l.aerr = 0 then if l.last.hi = l.last.lo then .tuple #[.int .i64 0, .int .i64 0, .int .i64 6] else .tuple #[.int .i64 (bestN l.wN l.hN : Nat), .int .i64 (l.wN (bestN l.wN l.hN)), .int .i64 0] else .tuple #[.int .i64 0, .int .i64 0, .int .i64 l.aerr]
def ForthV (l : Lg) (v : Value) (Hn : List Blk) : Prop :=
 ∃ fb m cap junk f, v = .tuple #[.slice (some ⟨fb, 0, none⟩) m cap, .bool l.holdsB] ∧ Hn = [(fb, CB (snRow f m ++ junk) 59)] ∧ (l.holdsB = true → m = l.es.length + 1 ∧ f = l.hold)
def RBackV (l : Lg) (v : Value) (Hn : List Blk) : Prop := ∃ ab, v = .slice (some ⟨ab, 0, none⟩) (l.es.length + 1) (l.es.length + 1) ∧ Hn = [(ab, CB (snRow l.aft (l.es.length + 1)) 59)]
theorem en_len (x : En) : x.cells.length = 4 := rfl
theorem infEntry : (Tryz.prog.info? 90).map (fun i => (i.zero, i.size, i.bytes)) = some (some (.agg #[.int .i64 0, .int .i64 0, .int .i64 0, .int .i64 0]), 4, 32) := by kernel_rfl
def TwinL (l : Lg) (v : Value) (Hn : List Blk) : Prop :=
 ∃ a cap ae cape H1 H2, v = .agg #[.slice a l.tk.n cap, .int .i64 l.tk.leak, .int .i64 l.tk.foot, .int .i64 l.start.lo, .int .i64 l.start.hi, .slice ae l.es.length cape] ∧ NewRow 3 1 l.tk.n (iv l.tk.pints) (.slice a l.tk.n cap) H1 ∧ NewRow 90 4 l.es.length (rowOf En.cells l.e l.es.length) (.slice ae l.es.length cape) H2 ∧ Hn = H1 ++ H2
def Lg.holdsV (l : Lg) (i : Int) : Value :=
 if l.aerr = 0 then if inB 0 l.es.length [i] then .tuple #[.agg (l.at i.toNat).cells.toArray, .int .i64 0] else .tuple #[.agg Sn.z.cells.toArray, .int .i64 2] else .tuple #[.agg Sn.z.cells.toArray, .int .i64 l.aerr]
def Lg.moved (l : Lg) (k : Nat) : Sn := if (l.e k).kind = 2 then (l.e k).size.met ((l.before k (l.hold k)).sub (l.aft (k + 1))) else (l.e k).size.met ((l.aft (k + 1)).sub (l.before k (l.hold k)))
def Lg.movedV (l : Lg) (i : Int) : Value :=
 if l.aerr = 0 then if inB 1 l.es.length [i] && !decide ((l.e (i - 1).toNat).kind = 3) then .tuple #[.agg (l.moved (i - 1).toNat).cells.toArray, .int .i64 0] else .tuple #[.agg Sn.z.cells.toArray, .int .i64 2] else .tuple #[.agg Sn.z.cells.toArray, .int .i64 l.aerr]
def Lg.lostV (l : Lg) (i : Int) : Value :=
 if l.aerr = 0 then if inB 1 ((l.es.length : Int) - 1) [i] then .tuple #[.agg ((Sn.met ⟨0, l.drip i.toNat⟩ ((l.hold i.toNat).sub (l.ahd i.toNat)))).cells.toArray, .int .i64 0] else .tuple #[.agg Sn.z.cells.toArray, .int .i64 2] else .tuple #[.agg Sn.z.cells.toArray, .int .i64 l.aerr]
def Lg.tr (l : Lg) : Nat → Int
 | 0 => (l.at 0).lo
 | k + 1 => max (l.after k ⟨l.tr k, l.tr k⟩).lo (l.aft (k + 1)).lo
def iEnc (x : Int) : List Value := [.int .i64 x]
theorem ii_len (x : Int) : (iEnc x).length = 1 := rfl
abbrev iRow (f : Nat → Int) (n : Nat) : List Value := rowOf iEnc f n
def TruthV (l : Lg) (v : Value) (Hn : List Blk) : Prop :=
 (l.aerr ≠ 0 → v = .tuple #[.slice none 0 0, .int .i64 l.aerr] ∧ Hn = []) ∧ (l.aerr = 0 → ∃ tb cap junk, v = .tuple #[.slice (some ⟨tb, 0, none⟩) (l.es.length + 1) cap, .int .i64 0] ∧ l.es.length + 1 ≤ cap ∧ Hn = [(tb, CB (iRow l.tr (l.es.length + 1) ++ junk) 3)])
def maxN (f : Nat → Int) : Nat → Int
 | 0 => f 0
 | k + 1 => max (maxN f k) (f k)
theorem At.iRow {w : World} {b : Nat} {f : Nat → Int} {n k o : Nat} (h : At w b 0 (iRow f n)) (hk : k < n) (ho : o = k * 1) : At w b o [.int .i64 (f k)] := At.rowOf (enc := iEnc) ii_len h hk ho
def fillF (v0 : Int) (f i : Nat) : Int := if i < f then v0 else 0
section
variable {C : Ctx} {e : Env} {H : List Blk} {d : Option Tmp} {ty : TypeId} {pos : String} {af : Array Edge} {g : Option (Nat × Bool)}
end
set_option maxRecDepth 100000
set_option maxHeartbeats 1000000
def never : Int := -1099511627776
def mxF (g : Nat → Int) (a : Nat) : Nat → Int
 | 0 => never
 | n + 1 => max (mxF g a n) (g (a + n))
def mvA (hi : Int) (t : Nat) : Nat := (max 0 ((t : Int) - hi)).toNat
def mvN (F : Nat) (lo hi : Int) (t : Nat) : Nat := (min (F : Int) ((t : Int) - lo) - max 0 ((t : Int) - hi) + 1).toNat
def mvG (wo : Int) (best : Nat → Int) (t : Nat) (v : Nat) : Int := best v + wo * ((v : Int) - (t : Int))
def mv (F : Nat) (lo hi wo : Int) (best : Nat → Int) (t : Nat) : Int := mxF (mvG wo best t) (mvA hi t) (mvN F lo hi t)
def nxF (F : Nat) (lo hi wo : Int) (best : Nat → Int) (t c j : Nat) : Int := if j < t then mv F lo hi wo best j else if j = t then mxF (mvG wo best t) (mvA hi t) c else never
theorem WS_sub {C : Ctx} {F : Fence} {n : Nat} {ds : List Deferred} {all : Array Oper} {Q : Exit → Env → List Blk → Prop} {rest : List Oper} {e : Env} {H H' : List Blk} (hs : HSub H H') (k : WS C F n ds all Q rest e H') : WS C F n ds all Q rest e H :=
 fun w hw a ha => k w ⟨hw.1, hs _ _ hw.2, hw.3⟩ a ha
def dipF (d : Sn) (best : Nat → Int) (v : Nat) : Int := if inB d.lo d.hi [(v : Int)] then best v else never
def Lg.best0 (l : Lg) (v : Nat) : Int := if l.start.lo ≤ (v : Int) ∧ (v : Int) ≤ l.start.hi then 0 else never
def Lg.bstep (l : Lg) (F : Nat) (sign : Int) (k : Nat) (best : Nat → Int) : Nat → Int :=
 if (l.e k).kind = 1 then mv F (l.e k).size.lo (l.e k).size.hi 0 (mv F (-l.drip k) 0 sign best)
 else if (l.e k).kind = 2 then mv F (-(l.e k).size.hi) (-(l.e k).size.lo) 0 (mv F (-l.drip k) 0 sign best)
 else dipF (l.tk.dip (l.e k).size) (mv F (-l.drip k) 0 sign best)
def Lg.bestK (l : Lg) (F : Nat) (sign : Int) : Nat → Nat → Int
 | 0 => l.best0
 | k + 1 => l.bstep F sign k (l.bestK F sign k)
def Lg.lostI (l : Lg) (sign : Int) : Int := maxN (l.bestK l.tk.full.toNat sign l.es.length) (l.tk.full.toNat + 1)
def stF (lo : Int) (c v : Nat) : Int := if lo ≤ (v : Int) ∧ (v : Int) < lo + (c : Int) then 0 else never
def dpF (d : Sn) (best : Nat → Int) (j v : Nat) : Int := if v < j then dipF d best v else best v
def Lg.leakedV (l : Lg) : Value := if l.aerr = 0 then .tuple #[.agg (Sn.cells ⟨-l.lostI (-1), l.lostI 1⟩).toArray, .int .i64 0] else .tuple #[.agg Sn.z.cells.toArray, .int .i64 l.aerr]
def Sn.no : Sn := ⟨1, 0⟩
def noF (c j : Nat) : Sn := if j < c then Sn.no else Sn.z
def Sn.wth (s way : Sn) : Sn := if s.hi < s.lo then way else ⟨min s.lo way.lo, max s.hi way.hi⟩
def cw (cb : Bool) (x : Int) : Int := if cb = true then x else 0
def psN (S : Nat → Sn) (lo hi : Int) (v : Nat) : Nat := if (S v).hi < (S v).lo then 0 else (hi - lo + 1).toNat
def psI (S : Nat → Sn) (F : Nat) (cb : Bool) (lo : Int) (v c : Nat) (out : Nat → Sn) (t : Nat) : Sn :=
 if lo ≤ (t : Int) - (v : Int) ∧ (t : Int) - (v : Int) < lo + (c : Int) ∧ t ≤ F then (out t).wth ⟨(S v).lo - cw cb ((t : Int) - (v : Int)), (S v).hi - cw cb ((t : Int) - (v : Int))⟩ else out t
def psO (S : Nat → Sn) (F : Nat) (cb : Bool) (lo hi : Int) : Nat → Nat → Sn
 | 0 => fun _ => Sn.no
 | v + 1 => psI S F cb lo v (psN S lo hi v) (psO S F cb lo hi v)
theorem never_eq : never = -1099511627776 := rfl
def Rep (M : Int) (s : Sn) (p m : Int) : Prop := (s = Sn.no ∧ p ≤ never + M ∧ m ≤ never + M) ∨ (0 ≤ s.lo ∧ s.lo ≤ s.hi ∧ s.hi ≤ M ∧ p = s.hi ∧ m = -s.lo)
theorem Rep.wth {M : Int} {a b : Sn} {p m q r : Int} (hM : M ≤ 1000000) (h : Rep M a p m) (h0 : 0 ≤ b.lo) (h1 : b.lo ≤ b.hi) (h2 : b.hi ≤ M) (hq : q = b.hi) (hr : r = -b.lo) : Rep M (a.wth b) (max p q) (max m r) := by
 have hn := never_eq
 subst hq hr
 refine .inr ?_
 unfold Sn.wth
 obtain ⟨rfl, hp, hm⟩ | ⟨g0, g1, g2, rfl, rfl⟩ := h
 ·rw [if_pos dc]; omega
 ·rw [if_neg om0]; refine ⟨?_, ?_, ?_, ?_, ?_⟩ <;> simp only <;> omega
theorem Rep.skip {M : Int} {a : Sn} {p m q r : Int} (hM : M ≤ 1000000) (h : Rep M a p m) (hq : q ≤ never + M) (hr : r ≤ never + M) : Rep M a (max p q) (max m r) := by
 have hn := never_eq
 obtain ⟨rfl, hp, hm⟩ | ⟨g0, g1, g2, rfl, rfl⟩ := h
 ·exact .inl ⟨rfl, by omega, by omega⟩
 ·exact .inr ⟨g0, g1, g2, by omega, by omega⟩
theorem Rep.mono {M N : Int} {a : Sn} {p m : Int} (h : Rep M a p m) (hMN : M ≤ N) : Rep N a p m := by
 obtain ⟨rfl, hp, hm⟩ | ⟨g0, g1, g2, g3, g4⟩ := h
 ·exact .inl ⟨rfl, by omega, by omega⟩
 ·exact .inr ⟨g0, g1, by omega, g3, g4⟩
theorem Rep.bd {M : Int} {a : Sn} {p m : Int} (h : Rep M a p m) (hM : 0 ≤ M ∧ M ≤ 1000000) : 0 ≤ a.lo ∧ a.lo ≤ 1000000 ∧ 0 ≤ a.hi ∧ a.hi ≤ 1000000 := by
 obtain ⟨rfl, hp, hm⟩ | ⟨g0, g1, g2, g3, g4⟩ := h
 ·decide
 ·omega
def wmx (g : Nat → Int) (a n : Nat) : Nat → Int
 | 0 => never
 | V + 1 => if a ≤ V ∧ V < a + n then max (wmx g a n V) (g V) else wmx g a n V
def stS (lo : Int) (c t : Nat) : Sn := if lo ≤ (t : Int) ∧ (t : Int) < lo + (c : Int) then Sn.z else Sn.no
def Lg.sum0 (l : Lg) (t : Nat) : Sn := if l.start.lo ≤ (t : Int) ∧ (t : Int) ≤ l.start.hi then Sn.z else Sn.no
def Lg.sum1 (l : Lg) (F k : Nat) (S : Nat → Sn) : Nat → Sn := if 0 < k then psO S F true (-(min (F : Int) (l.drip k))) 0 (F + 1) else S
def dpS (d : Sn) (S : Nat → Sn) (j t : Nat) : Sn := if t < j ∧ inB d.lo d.hi [(t : Int)] = false then Sn.no else S t
def Lg.sum2 (l : Lg) (F k : Nat) (S : Nat → Sn) : Nat → Sn :=
 if (l.e k).kind = 1 then psO S F false (l.e k).size.lo (l.e k).size.hi (F + 1)
 else if (l.e k).kind = 2 then psO S F false (-(l.e k).size.hi) (-(l.e k).size.lo) (F + 1)
 else dpS (l.tk.dip (l.e k).size) S (F + 1)
def Lg.sumK (l : Lg) (F : Nat) : Nat → Nat → Sn
 | 0 => l.sum0
 | k + 1 => l.sum2 F k (l.sum1 F k (l.sumK F k))
def outS (S : Nat → Sn) : Nat → Sn
 | 0 => Sn.no
 | V + 1 => if (S V).hi < (S V).lo then outS S V else (outS S V).wth (S V)
set_option maxHeartbeats 800000
set_option maxHeartbeats 1000000
theorem bs60_1_0 {x0_0 : Int} {x0_1 : Int} {x0_2 : Int} {x0_3 : Int} : ∀ w, (Instr.buildSlice 60 1 #[(0, .agg #[.int .i64 x0_0, .int .i64 x0_1, .int .i64 x0_2, .int .i64 x0_3])]).run Tryz.prog w = .ok (.slice (some ⟨w.heap.size, 0, none⟩) 1 1) (w.alloc (CB [.int .i64 x0_0, .int .i64 x0_1, .int .i64 x0_2, .int .i64 x0_3] 90)) := fun w => by kernel_rfl
def kpB (D : List Int) (i : Nat) : Bool := !(D.contains ((i : Int) + 1))
def kpK (D : List Int) (i : Nat) : List Nat := (List.range i).filter (kpB D)
def Lg.woK (l : Lg) (D : List Int) (i : Nat) : Lg := ⟨l.tk, l.start, (kpK D i).map l.e⟩
def Lg.wo (l : Lg) (D : List Int) : Lg := l.woK D l.es.length
def Lg.ent (l : Lg) (i : Nat) : Ent := ((i : Int) + 1, .agg (l.e i).cells.toArray, i)
theorem kpK_succ (D : List Int) (i : Nat) : kpK D (i + 1) = if kpB D i then kpK D i ++ [i] else kpK D i := by
 unfold kpK
 rw [List.range_succ, List.filter_append]
 by_cases h : kpB D i = true
 ·rw [if_pos h]; simp [h]
 ·rw [if_neg h]; simp [h]
theorem ent_key (l : Lg) (i : Nat) (k : Int) : hasK k (l.ent i) = decide ((i : Int) + 1 = k) := by
 unfold hasK Lg.ent
 simp only []
 by_cases h : (i : Int) + 1 = k <;> simp [h]
theorem find_ent (l : Lg) (p : Nat → Bool) (i : Nat) : ∀ m, (((List.range m).filter p).map l.ent).find? (hasK ((i : Int) + 1)) = if i < m ∧ p i = true then some (l.ent i) else none
 | 0 => by simp
 | m + 1 => by
  rw [List.range_succ, List.filter_append, List.map_append, List.find?_append, find_ent l p i m]
  by_cases h : i < m ∧ p i = true
  ·rw [if_pos h, if_pos ⟨by omega, h.2⟩]; rfl
  ·rw [if_neg h, Option.none_or]
   by_cases hp : p m = true
   ·simp only [List.filter_cons, hp, if_true, List.filter_nil, List.map_cons, List.map_nil, List.find?_cons, ent_key]
    by_cases he : m = i
    ·subst he
     simp [hp]
    ·rw [if_neg (fun h2 => h ⟨by omega, h2.2⟩)]
     have : ¬ ((m : Int) + 1 = (i : Int) + 1) := by omega
     simp [this]
   ·have hz : (List.filter p [m]).map l.ent = [] := by simp [hp]
    rw [hz, if_neg (fun h2 => by
     obtain ⟨h3, h4⟩ := h2
     by_cases he : m = i
     ·subst he; exact hp h4
     ·exact h ⟨by omega, h4⟩)]
    rfl
theorem erase_ent (l : Lg) (p : Nat → Bool) (t : Int) : ∀ m, (((List.range m).filter p).map l.ent).eraseP (hasK t) = ((List.range m).filter fun i => p i && !decide ((i : Int) + 1 = t)).map l.ent
 | 0 => by simp
 | m + 1 => by
  have ih := erase_ent l p t m
  rw [List.range_succ, List.filter_append, List.filter_append, List.map_append, List.map_append]
  by_cases hany : ∃ x ∈ ((List.range m).filter p).map l.ent, hasK t x = true
  ·obtain ⟨x, hx, hk⟩ := hany
   rw [List.eraseP_append_left hk _ hx, ih]
   congr 1
   obtain ⟨i, hi, rfl⟩ := List.mem_map.1 hx
   rw [ent_key, decide_eq_true_eq] at hk
   have him : i < m := by simpa using (List.mem_filter.1 hi).1
   have hne : ¬ ((m : Int) + 1 = t) := by omega
   by_cases hp : p m = true <;> simp [hp, hne]
  ·have hall : ∀ b ∈ ((List.range m).filter p).map l.ent, ¬ hasK t b = true := fun b hb hk => hany ⟨b, hb, hk⟩
   rw [List.eraseP_append_right _ (by simpa using hall)]
   rw [List.eraseP_of_forall_not (by simpa using hall)] at ih
   rw [← ih]
   congr 1
   by_cases hp : p m = true
   ·simp only [List.filter_cons, hp, if_true, List.filter_nil, List.map_cons, List.map_nil, Bool.true_and]
    by_cases ht : (m : Int) + 1 = t
    ·simp [ht, ent_key]
    ·simp [ht, ent_key]
   ·simp [hp]
theorem kpB_snoc (D : List Int) (d : Int) (i : Nat) : kpB (D ++ [d]) i = (kpB D i && !decide ((i : Int) + 1 = d)) := by
 unfold kpB
 rw [Bool.eq_iff_iff]
 simp
theorem take_snoc {D : List Int} {j : Nat} (h : j < D.length) : D.take (j + 1) = D.take j ++ [D.getD j 0] := by
 rw [List.take_succ_eq_append_getElem h]
 simp [List.getD_eq_getElem?_getD, h]
theorem erase_kp (l : Lg) (D : List Int) {j : Nat} (h : j < D.length) (m : Nat) : ((kpK (D.take j) m).map l.ent).eraseP (hasK (D.getD j 0)) = (kpK (D.take (j + 1)) m).map l.ent := by
 unfold kpK
 rw [erase_ent, take_snoc h]
 congr 1
 exact List.filter_congr fun i _ => (kpB_snoc _ _ _).symm
theorem Lg.woK_len (l : Lg) (D : List Int) (i : Nat) : (l.woK D i).es.length = (kpK D i).length := List.length_map _
theorem Lg.woK_e (l : Lg) (D : List Int) (i : Nat) : rowOf En.cells (l.woK D (i + 1)).e (l.woK D (i + 1)).es.length = if kpB D i then rowOf En.cells (l.woK D i).e (l.woK D i).es.length ++ (l.e i).cells else rowOf En.cells (l.woK D i).e (l.woK D i).es.length := by
 rw [l.woK_len, l.woK_len]
 by_cases h : kpB D i = true
 ·rw [if_pos h, kpK_succ, if_pos h, List.length_append, List.length_singleton, rowOf_succ]
  have he : ∀ j, j < (kpK D i).length → (l.woK D (i + 1)).e j = (l.woK D i).e j := fun j hj => by
   unfold Lg.woK Lg.e
   simp only
   rw [kpK_succ, if_pos h, List.map_append]
   simp [List.getD_eq_getElem?_getD, List.getElem?_append_left, hj]
  rw [rowOf_congr _ he]
  congr 1
  unfold Lg.woK Lg.e
  simp only
  rw [kpK_succ, if_pos h, List.map_append]
  simp [List.getD_eq_getElem?_getD]
 ·rw [if_neg h]
  unfold Lg.woK Lg.e
  simp only
  rw [kpK_succ, if_neg h]
theorem kpK_le (D : List Int) (i : Nat) : (kpK D i).length ≤ i := by
 have := List.length_filter_le (kpB D) (List.range i)
 rw [List.length_range] at this
 exact this
def WoV (l : Lg) (D : List Int) (g : Nat) (a : Option Addr) (cap : Nat) (v : Value) (Hn : List Blk) : Prop :=
 ∃ cb ae cape H2, v = .pointer (some ⟨cb, 0, none⟩) ∧ Hn = (cb, CB (bookCells g (l.wo D) a cap ae cape) 141) :: H2 ∧ Row 90 4 ae (l.wo D).es.length cape (rowOf En.cells (l.wo D).e (l.wo D).es.length) H2
theorem without_any (bk g : Nat) (l : Lg) (a : Option Addr) (cap : Nat) (ae : Option Addr) (cape : Nat) (ta : Option Addr) (tn tcap : Nat) (D : List Int) (w : World) (hok : l.Ok) (h1 : At w bk 0 (bookCells g l a cap ae cape)) (he : Ens w ae l.es.length cape l.es) (hD : Ints w ta tn tcap D) (htn : tn ≤ 1000000) :
  Ct Tryz.prog 114 #[.pointer (some ⟨bk, 0, none⟩), .slice ta tn tcap] w (WoV l D g a cap) := by
 have hn12 := hok.n12
 have hlenD := hD.len
 have hF := wide_wide
 refine Ct_start (args := [_, _]) Tryz.func114 rf Tryz.ntmps114 rf ?_
 refine zR fun ds => ?_
 refine za (.pointer _) hF ?_
 refine zP fun ds => ?_
 refine WS_newM hF rf y_makeMap (fun mb => ?_)
 refine za (.map _) hF ?_
 refine zO ?_
 refine zR fun ds => ?_
 refine zm (.pointer _) hF ?_
 refine zD hF znk ?_
 refine zD hF (y_fieldAddr rf fa141_1) ?_
 refine zD hF (y_fieldAddr rf fa62_2) ?_
 refine zD hF (y_load1 rf Tryz.isAgg60 zo) ?_
 refine zD hF (y_len rf Tryz.runUnderlying60) ?_
 refine zm (.int .i64 _) hF ?_
 refine zN ?_
 refine W_block ?_
 refine W_loop (γ := Nat) (fun k => k ≤ l.es.length) (fun k => [(0, .pointer (some ⟨bk, 0, none⟩)), (1, .slice ta tn tcap), (5, .map (some mb)), (19, .slice ae l.es.length cape), (20, .int .i64 (l.es.length : Int)), (21, .int .i64 (k : Int))]) (fun k => [(mb, MO ((kpK [] k).map l.ent) k)]) (fun k => l.es.length - k) (0) (Nat.zero_le _) s10 (List.Sublist.refl _) ?_
 intro k e hk
 refine zR fun ds => ?_
 refine zD hF (y_lss rf rf) ?_
 refine zO ?_
 refine W_cond rf (fun c3 => ?_) (fun c3 => ?_)
 ·
  try simp only [qz1, qz2, qz3, qz4, qz5, qz6, qz7, qz8] at c3
  obtain ⟨b, o, rfl, hc⟩ := he.cell k om0
  change At w b _ (l.e k).cells at hc
  have hmk : (kpK [] (k + 1)).map l.ent = (kpK [] k).map l.ent ++ [((k : Int) + 1, .agg (l.e k).cells.toArray, k)] := by rw [kpK_succ, if_pos (show kpB [] k = true from rfl), List.map_append]; rfl
  have hfind : ((kpK [] k).map l.ent).find? (hasK ((k : Int) + 1)) = none := by
   have := find_ent l (kpB []) k k
   rw [if_neg om0] at this
   exact this
  refine zU ?_
  refine W_seq ?_
  refine W_block ?_
  refine zR fun ds => ?_
  refine zm (.int .i64 _) hF ?_
  refine zD hF (y_index (k := k) rf rf r1 d10 Tryz.runUnderlying60 Tryz.sizeOf90) ?_
  refine zD hF (y_loadN rf Tryz.isAgg90 Tryz.sizeOf90 (zq [.int .i64 _, .int .i64 _, .int .i64 _, .int .i64 _]) rf) ?_
  refine WS_new hF rf (y_alloc Tryz.zeroValue90 rf) (fun b1 => ?_)
  refine za (.int .i64 _) hF ?_
  refine WS_store hF (i := 0) rf rf Tryz.sizeOf90 rf rf rf d20 ?_
  refine zQ fun ds => ?_
  refine zm (.map _) hF ?_
  refine zm (.int .i64 _) hF ?_
  refine zD hF (y_add rf rf ui) ?_
  refine zD hF (y_loadN rf Tryz.isAgg90 Tryz.sizeOf90 (Mem.own (us := [.int .i64 _, .int .i64 _, .int .i64 _, .int .i64 _]) 0 rf rf) rf) ?_
  refine WS_mapUpd hF (i := 1) rf rf rf Tryz.underlying215 Tryz.underlying3 rf hfind ?_
  refine WS_nil ?_
  refine InB_normal ?_
  refine zT fun ds => ?_
  refine zD hF (y_add rf rf ui) ?_
  refine zm (.int .i64 _) hF ?_
  refine WS_nil ?_
  exact Loop_next (k + 1) om0 s10 (by rw [hmk]; exact s20) om0
 ·
  try simp only [qz1, qz2, qz3, qz4, qz5, qz6, qz7, qz8] at c3
  refine W_exit ?_
  refine Then_exit ?_
  refine Loop_exit ?_
  refine InB_same ?_
  refine Then_normal ?_
  refine W_seq ?_
  refine zR fun ds => ?_
  refine zm (.slice _ _ _) hF ?_
  refine zD hF (y_len rf Tryz.runUnderlying22) ?_
  refine zm (.int .i64 _) hF ?_
  refine zN ?_
  refine W_block ?_
  refine W_loop (γ := Nat) (fun j => j ≤ tn) (fun j => [(0, .pointer (some ⟨bk, 0, none⟩)), (5, .map (some mb)), (31, .slice ta tn tcap), (32, .int .i64 (tn : Int)), (33, .int .i64 (j : Int))]) (fun j => [(mb, MO ((kpK (D.take j) l.es.length).map l.ent) l.es.length)]) (fun j => tn - j) (0) (Nat.zero_le _) s10 ((by obtain rfl : k = l.es.length := om0; exact s20)) ?_
  intro j e hj
  refine zR fun ds => ?_
  refine zD hF (y_lss rf rf) ?_
  refine zO ?_
  refine W_cond rf (fun c8 => ?_) (fun c8 => ?_)
  ·
   try simp only [qz1, qz2, qz3, qz4, qz5, qz6, qz7, qz8] at c8
   obtain ⟨bt, ot, rfl, hct⟩ := hD.cell j om0
   refine zU ?_
   refine W_seq ?_
   refine W_block ?_
   refine zR fun ds => ?_
   refine zD hF (y_index (k := j) rf rf r1 d10 Tryz.runUnderlying22 Tryz.sizeOf3) ?_
   refine zD hF (y_load1 rf Tryz.isAgg3 zo) ?_
   refine za (.int .i64 _) hF ?_
   refine zQ fun ds => ?_
   refine zm (.map _) hF ?_
   refine zm (.int .i64 _) hF ?_
   refine WS_delete hF (i := 0) rf rf Tryz.underlying215 Tryz.underlying3 rf ?_
   refine WS_nil ?_
   refine InB_normal ?_
   refine zT fun ds => ?_
   refine zD hF (y_add rf rf ui) ?_
   refine zm (.int .i64 _) hF ?_
   refine WS_nil ?_
   exact Loop_next (j + 1) om0 s10 (by rw [← erase_kp l D (j := j) om0]; exact s20) om0
  ·
   try simp only [qz1, qz2, qz3, qz4, qz5, qz6, qz7, qz8] at c8
   refine W_exit ?_
   refine Then_exit ?_
   refine Loop_exit ?_
   refine InB_same ?_
   refine zS fun ds => ?_
   refine zm (.pointer _) hF ?_
   refine zD hF znk ?_
   refine zD hF (y_loadN rf Tryz.isAgg141 Tryz.sizeOf141 (zq [.pointer _, .slice _ _ _, .int .i64 _, .int .i64 _, .int .i64 _, .int .i64 _, .slice _ _ _, _, _, _, _, _, _, _, _, _, _, _, _]) rf) ?_
   refine WS_new hF rf (y_alloc Tryz.zeroValue141 rf) (fun cb => ?_)
   refine WS_store hF (i := 0) rf rf Tryz.sizeOf141 rf rf rf d20 ?_
   refine zP fun ds => ?_
   refine zD hF (y_fieldAddr rf fa141_1) ?_
   refine zD hF (y_fieldAddr rf fa62_2) ?_
   refine WS_store hF (i := 0) rf rf Tryz.sizeOf60 rf rf rf d20 ?_
   refine zO ?_
   refine zR fun ds => ?_
   refine zm (.pointer _) hF ?_
   refine zD hF znk ?_
   refine zD hF (y_fieldAddr rf fa141_1) ?_
   refine zD hF (y_fieldAddr rf fa62_2) ?_
   refine zD hF (y_load1 rf Tryz.isAgg60 zo) ?_
   refine zD hF (y_len rf Tryz.runUnderlying60) ?_
   refine zm (.int .i64 _) hF ?_
   refine zN ?_
   refine W_block ?_
   refine W_loop (γ := Nat × Option Addr × Nat × List Blk) (fun p => p.1 ≤ l.es.length ∧ Row 90 4 p.2.1 (l.woK D p.1).es.length p.2.2.1 (rowOf En.cells (l.woK D p.1).e (l.woK D p.1).es.length) p.2.2.2) (fun p => [(5, .map (some mb)), (10, .pointer (some ⟨cb, 0, none⟩)), (50, .int .i64 (l.es.length : Int)), (51, .int .i64 (p.1 : Int))]) (fun p => (cb, CB (bookCells g (l.woK D p.1) a cap p.2.1 p.2.2.1) 141) :: (mb, MO ((kpK D l.es.length).map l.ent) l.es.length) :: p.2.2.2) (fun p => l.es.length - p.1) ((0, none, 0, [])) ⟨Nat.zero_le _, Row.nil 90 4⟩ s10 ((by obtain rfl : j = tn := om0; rw [List.take_of_length_le (show D.length ≤ j by omega)]; exact s20)) ?_
   rintro ⟨i, ra, rcap, Hf⟩ e ⟨hi, hrow⟩
   refine zR fun ds => ?_
   refine zD hF (y_lss rf rf) ?_
   refine zO ?_
   refine W_cond rf (fun c15 => ?_) (fun c15 => ?_)
   ·
    try simp only [qz1, qz2, qz3, qz4, qz5, qz6, qz7, qz8] at c15
    have hin : i < l.es.length := by omega
    have hkl : (l.woK D i).es.length ≤ i := by rw [l.woK_len]; exact kpK_le D i
    have hlk : lookV (.agg #[.int .i64 0, .int .i64 0, .int .i64 0, .int .i64 0]) ((((kpK D l.es.length).map l.ent).find? (hasK ((i : Int) + 1))).map (·.2.1)) = .tuple #[.agg (if kpB D i then l.e i else En.z).cells.toArray, .bool (kpB D i)] := by
     rw [show ((kpK D l.es.length).map l.ent).find? (hasK ((i : Int) + 1)) = _ from find_ent l (kpB D) i l.es.length]
     by_cases h : kpB D i = true
     ·rw [if_pos ⟨hin, h⟩, if_pos h, h]; rfl
     ·rw [if_neg (fun h2 => h h2.2), if_neg h, Bool.eq_false_iff.2 h]; rfl
    refine zU ?_
    refine W_seq ?_
    refine W_block ?_
    refine zR fun ds => ?_
    refine zm (.int .i64 _) hF ?_
    refine za (.int .i64 _) hF ?_
    refine zP fun ds => ?_
    refine zm (.map _) hF ?_
    refine zm (.int .i64 _) hF ?_
    refine zD hF (y_add rf rf ui) ?_
    refine zD hF (y_lookupE (i := 1) rf rf Tryz.underlying215 Tryz.underlying3 Tryz.zeroValue90 rf hlk) ?_
    refine zm (.tuple _) hF ?_
    refine zD hF (y_extract (c := .agg _) rf rf) ?_
    refine zD hF (y_extract (c := .bool _) rf rf) ?_
    refine WS_new hF rf (y_alloc Tryz.zeroValue90 rf) (fun bz => ?_)
    refine WS_store hF (i := 0) rf rf Tryz.sizeOf90 rf rf rf d20 ?_
    refine za (.bool _) hF ?_
    refine zP fun ds => ?_
    refine zm (.bool _) hF ?_
    refine zN ?_
    refine W_cond rf (fun c18 => ?_) (fun c18 => ?_)
    ·
     try simp only [qz1, qz2, qz3, qz4, qz5, qz6, qz7, qz8] at c18
     refine W_region_lit (fun ds => ?_)
     refine zD hF (y_fieldAddr rf fa141_1) ?_
     refine zD hF (y_fieldAddr rf fa62_2) ?_
     refine zD hF (y_load1 rf Tryz.isAgg60 (Mem.own1 1 rf rf)) ?_
     refine zD hF (y_loadN rf Tryz.isAgg90 Tryz.sizeOf90 (Mem.own (us := [.int .i64 _, .int .i64 _, .int .i64 _, .int .i64 _]) 0 rf rf) rf) ?_
     refine WS_newS hF rf (y_buildSliceL bs60_1_0 rf) (fun b2 => ?_)
     refine WS_appendE hF (n' := (l.woK D i).es.length) (H1 := [_, _, _, _]) rf rf rf Tryz.underlying60 infEntry rf rf hrow (.inr ⟨_, _, rfl, Mem.own (us := [.int _ _, .int _ _, .int _ _, .int _ _]) 0 rf rf⟩) rf rf om0 om0 ?_
     intro ra2 rcap2 Hf2 hrow2
     have hle : (l.woK D (i + 1)).es.length = (l.woK D i).es.length + 1 := by rw [l.woK_len, l.woK_len, kpK_succ, if_pos c18, List.length_append]; rfl
     have hrow3 : Row 90 4 ra2 (l.woK D (i + 1)).es.length rcap2 (rowOf En.cells (l.woK D (i + 1)).e (l.woK D (i + 1)).es.length) Hf2 := by
      rw [l.woK_e, if_pos c18, hle]
      have he2 : (if kpB D i then l.e i else En.z) = l.e i := if_pos c18
      rw [← he2]
      exact hrow2
     refine zD hF (y_fieldAddr rf fa141_1) ?_
     refine zD hF (y_fieldAddr rf fa62_2) ?_
     refine WS_store hF (i := 2) rf rf Tryz.sizeOf60 rf rf rf d20 ?_
     refine WS_nil ?_
     refine InB_normal ?_
     refine zT fun ds => ?_
     refine zD hF (y_add rf rf ui) ?_
     refine zm (.int .i64 _) hF ?_
     refine WS_nil ?_
     exact Loop_next (i + 1, ra2, rcap2, Hf2) ⟨by omega, hrow3⟩ s10 (by unfold bookCells; rw [hle]; exact s20) (by simp only; omega)
    ·
     try simp only [qz1, qz2, qz3, qz4, qz5, qz6, qz7, qz8] at c18
     have hkk : kpK D (i + 1) = kpK D i := by rw [kpK_succ, if_neg (by rw [c18]; exact Bool.false_ne_true)]
     have hww : l.woK D (i + 1) = l.woK D i := by unfold Lg.woK; rw [hkk]
     refine W_skip ?_
     refine InB_normal ?_
     refine zT fun ds => ?_
     refine zD hF (y_add rf rf ui) ?_
     refine zm (.int .i64 _) hF ?_
     refine WS_nil ?_
     exact Loop_next (i + 1, ra, rcap, Hf) ⟨by omega, by rw [hww]; exact hrow⟩ s10 (by rw [hww]; exact s20) (by simp only; omega)
   ·
    try simp only [qz1, qz2, qz3, qz4, qz5, qz6, qz7, qz8] at c15
    refine W_exit ?_
    refine Then_exit ?_
    refine Loop_exit ?_
    refine InB_same ?_
    refine zS fun ds => ?_
    refine za (.pointer _) hF ?_
    refine zN ?_
    refine W_ret ?_
    refine Fin_ret [.pointer _] ((cb, _) :: Hf) Tryz.results114 ⟨by rfl, trivial⟩ ((SubP.hsub (SubP.pick 0 rf (by exact SubP.drop (SubP.refl))))) ?_
    obtain rfl : i = l.es.length := by have : i ≤ l.es.length := hi; omega
    exact ⟨cb, ra, rcap, Hf, rfl, rfl, hrow⟩
theorem kp_sorted {l : Lg} (h : l.Ok) (D : List Int) : ∀ i, i ≤ l.es.length → (∀ j, j < (l.woK D i).es.length → ∃ m, m < i ∧ (l.woK D i).e j = l.e m) ∧ ∀ j, j + 1 < (l.woK D i).es.length → ((l.woK D i).e j).day ≤ ((l.woK D i).e (j + 1)).day
 | 0, _ => ⟨fun j hj => by simp [Lg.woK, kpK] at hj, fun j hj => by simp [Lg.woK, kpK] at hj⟩
 | i + 1, hi => by
  obtain ⟨h1, h2⟩ := kp_sorted h D i om0
  have hdm : ∀ a b, a ≤ b → b < l.es.length → (l.e a).day ≤ (l.e b).day := by
   intro a b hab
   induction b with
   | zero => intro _; obtain rfl : a = 0 := om0; exact Int.le_refl _
   | succ b ih =>
    intro hb
    by_cases hx : a = b + 1
    ·subst hx; exact Int.le_refl _
    ·exact Int.le_trans (ih om0 om0) (h.mono b hb)
  by_cases hk : kpB D i = true
  ·have hlen : (l.woK D (i + 1)).es.length = (l.woK D i).es.length + 1 := by rw [l.woK_len, l.woK_len, kpK_succ, if_pos hk, List.length_append]; rfl
   have he : ∀ j, j < (l.woK D i).es.length → (l.woK D (i + 1)).e j = (l.woK D i).e j := fun j hj => by
    rw [l.woK_len] at hj
    unfold Lg.woK Lg.e
    simp only
    rw [kpK_succ, if_pos hk, List.map_append]
    simp [List.getD_eq_getElem?_getD, List.getElem?_append_left, hj]
   have hl : (l.woK D (i + 1)).e (l.woK D i).es.length = l.e i := by
    rw [l.woK_len]
    unfold Lg.woK Lg.e
    simp only
    rw [kpK_succ, if_pos hk, List.map_append]
    simp [List.getD_eq_getElem?_getD]
   refine ⟨fun j hj => ?_, fun j hj => ?_⟩
   ·by_cases hjl : j < (l.woK D i).es.length
    ·obtain ⟨m, hm, hme⟩ := h1 j hjl
     exact ⟨m, by omega, (he j hjl).trans hme⟩
    ·obtain rfl : j = (l.woK D i).es.length := by omega
     exact ⟨i, by omega, hl⟩
   ·by_cases hjl : j + 1 < (l.woK D i).es.length
    ·rw [he j om0, he (j + 1) hjl]; exact h2 j hjl
    ·have hje : j + 1 = (l.woK D i).es.length := by omega
     obtain ⟨m, hm, hme⟩ := h1 j om0
     rw [he j om0, hje, hl, hme]
     exact hdm m i om0 om0
  ·have hw : l.woK D (i + 1) = l.woK D i := by unfold Lg.woK; rw [kpK_succ, if_neg hk]
   rw [hw]
   exact ⟨fun j hj => by obtain ⟨m, hm, hme⟩ := h1 j hj; exact ⟨m, by omega, hme⟩, h2⟩
theorem Lg.Ok.wo {l : Lg} (h : l.Ok) (D : List Int) : (l.wo D).Ok := by
 obtain ⟨h1, h2⟩ := kp_sorted h D l.es.length (Nat.le_refl _)
 have hl := kpK_le D l.es.length
 have hn := h.n12
 refine ⟨h.tk, h.start, by show (l.woK D _).es.length ≤ 12; rw [l.woK_len]; omega, fun k hk => ?_, fun k hk => h2 k hk, fun k hk => ?_, fun k hk => ?_⟩
 ·obtain ⟨m, hm, he⟩ := h1 k hk
  show 0 ≤ ((l.woK D _).e k).day ∧ _ ≤ _
  rw [show (l.wo D).e k = l.e m from he, he]; exact h.day m hm
 ·obtain ⟨m, hm, he⟩ := h1 k hk
  rw [show (l.wo D).e k = l.e m from he]; exact h.kind m hm
 ·obtain ⟨m, hm, he⟩ := h1 k hk
  rw [show (l.wo D).e k = l.e m from he]; exact h.size m hm
theorem bs22_0  : ∀ w, (Instr.buildSlice 22 0 #[]).run Tryz.prog w = .ok (.slice (some ⟨w.heap.size, 0, none⟩) 0 0) (w.alloc (CB [] 3)) := fun w => by kernel_rfl
theorem clone_any (ta : Option Addr) (tn tcap : Nat) (D : List Int) (w : World) (hD : Ints w ta tn tcap D) (htn : tn ≤ 1000000) (hnil : ta = none ∧ tn = 0 ∨ ta ≠ none ∧ 0 < tn) :
  Ct Tryz.prog 72 #[.slice ta tn tcap] w fun v Hn => ∃ a' cap', v = .slice a' tn cap' ∧ Row 3 1 a' tn cap' (iv D) Hn ∧ (a' = none ∧ tn = 0 ∨ a' ≠ none ∧ 0 < tn) := by
 have hlen : (iv D).length = tn * 1 := by rw [Nat.mul_one]; exact (List.length_map _).trans hD.len
 have hF := wide_wide
 refine Ct_start (args := [_]) Tryz.func72 rf Tryz.ntmps72 rf ?_
 refine zR fun ds => ?_
 refine za (.slice _ _ _) hF ?_
 refine zO ?_
 refine zR fun ds => ?_
 refine zm (.slice _ _ _) hF ?_
 refine zD hF (y_eqlNil rf rf Tryz.runUnderlying22) ?_
 refine zN ?_
 refine W_cond rf (fun c1 => ?_) (fun c1 => ?_)
 ·
  try simp only [qz1, qz2, qz3, qz4, qz5, qz6, qz7, qz8] at c1
  have ht : ta = none ∧ tn = 0 := by
   rcases hnil with h | h
   ·exact h
   ·cases ta with
    | none => exact absurd rfl h.1
    | some _ => cases c1
  obtain ⟨rfl, rfl⟩ := ht
  obtain rfl : D = [] := List.length_eq_zero_iff.1 hD.len
  refine zR fun ds => ?_
  refine za (.slice _ _ _) hF ?_
  refine zN ?_
  refine W_ret ?_
  refine Then_ret ?_
  refine Fin_ret [.slice _ _ _] [] Tryz.results72 ⟨by rfl, trivial⟩ HSub.nil ?_
  exact ⟨none, 0, rfl, Row.nil 3 1, .inl ⟨rfl, rfl⟩⟩
 ·
  try simp only [qz1, qz2, qz3, qz4, qz5, qz6, qz7, qz8] at c1
  have ht : ta ≠ none ∧ 0 < tn := by
   rcases hnil with h | h
   ·rw [h.1] at c1; cases c1
   ·exact h
  refine W_skip ?_
  refine zS fun ds => ?_
  refine WS_newS hF rf (y_buildSliceL bs22_0 rf) (fun b1 => ?_)
  refine zm (.slice _ _ _) hF ?_
  refine WS_gen hF rf (y_append0 rf rf Tryz.underlying22 infInt rf hD.src hlen om0 om0) ?_
  rintro _ Hc hrow
  obtain ⟨a', cap', rfl, hle, ⟨hm, b, junk, rfl, rfl, hl2⟩ | ⟨h0, _⟩⟩ := hrow
  case inr => omega
  refine za (.slice _ _ _) hF ?_
  refine zN ?_
  refine W_ret ?_
  refine Fin_ret [.slice _ _ _] [(b, _)] Tryz.results72 ⟨by rfl, trivial⟩ (HSub.sub (by repeat (first | exact List.Sublist.refl _ | exact List.sublist_append_left _ _ | exact List.nil_sublist _ | apply List.Sublist.cons_cons | apply List.Sublist.cons | refine List.Sublist.trans ?_ (List.sublist_append_right _ _)))) ?_
  exact ⟨_, _, rfl, .inr ⟨b, junk, rfl, rfl, hlen, hl2, hle⟩, .inr ⟨by simp, hm⟩⟩
theorem Row.mem {C : Ctx} {H Hn : List Blk} {T : TypeId} {b o n cap k : Nat} {xs : List Int} (h : Row T 1 (some ⟨b, o, none⟩) n cap (iv xs) Hn) (hl : xs.length = n) (hs : Hn.Sublist H) (hk : k < n) : Mem C H b (o + k * 1) [.int .i64 (xs.getD k 0)] :=
 fun w hw => (Row.ints h hl hs w hw).at hk
def firstSome {β : Type} (f : Nat → Option β) (a : Nat) : Nat → Option β
 | 0 => none
 | n + 1 => match f a with
  | some r => some r
  | none => firstSome f (a + 1) n
def frD (D : List Int) : Nat := (D.getD (D.length - 1) 0).toNat
def Lg.stk (l : Lg) : Nat → List Int → Option (List Int)
 | 0, D => if (l.wo D).holdsB then some D else none
 | m + 1, D => firstSome (fun i => if (l.e i).kind = 3 then l.stk m (D ++ [(i : Int) + 1]) else none) (frD D) (l.es.length - frD D)
def Lg.stkF (l : Lg) (m : Nat) (D : List Int) (i : Nat) : Option (List Int) := if (l.e i).kind = 3 then l.stk m (D ++ [(i : Int) + 1]) else none
def StkV (base : Value → List Blk → List Blk) (r : Option (List Int)) (L : List Blk) (v : Value) (H' : List Blk) : Prop :=
 ∃ bb s L', v = .bool bb ∧ H' = base s L' ∧ (bb = true → r = none ∧ L' = L) ∧ (bb = false → ∃ R fa fn fcap Hf, r = some R ∧ s = .slice fa fn fcap ∧ Row 3 1 fa fn fcap (iv R) Hf ∧ R.length = fn ∧ Hf.Sublist L')
def Lg.wr (l : Lg) : Option (List Int) := firstSome (fun n => l.stk n []) 0 (l.es.length + 1)
def WrongV (l : Lg) (v : Value) (Hn : List Blk) : Prop :=
 (l.err ≠ 0 → v = .tuple #[.slice none 0 0, .int .i64 l.err] ∧ Hn = []) ∧
 (l.err = 0 → (∀ R, l.wr = some R → ∃ fa fn fcap, v = .tuple #[.slice fa fn fcap, .int .i64 0] ∧ Row 3 1 fa fn fcap (iv R) Hn ∧ R.length = fn) ∧ (l.wr = none → v = .tuple #[.slice none 0 0, .int .i64 6] ∧ Hn = []))
theorem valid_any (l : Lg) (a : Option Addr) (cap : Nat) (ae : Option Addr) (cape : Nat) (w : World) (hn : l.tk.n ≤ 1000000) (hx : Ints w a l.tk.n cap l.tk.pints) (he : Ens w ae l.es.length cape l.es) : Ct Tryz.prog 77 #[.agg #[.slice a l.tk.n cap, .int .i64 l.tk.leak, .int .i64 l.tk.foot, .int .i64 l.start.lo, .int .i64 l.start.hi, .slice ae l.es.length cape]] w fun v _ => v = .int .i64 l.err := by
 have hF := wide_wide
 refine Ct_start (args := [_]) Tryz.func77 rf Tryz.ntmps77 rf ?_
 refine zR fun ds => ?_
 refine WS_new hF rf (y_box rf) (fun b1 => ?_)
 refine za (.int .i64 _) hF ?_
 refine zP fun ds => ?_
 refine zD hF (y_loadN rf Tryz.isAgg62 Tryz.sizeOf62 (Mem.own (us := [.slice _ _ _, .int .i64 _, .int .i64 _, .int .i64 _, .int .i64 _, .slice _ _ _]) 0 rf rf) rf) ?_
 refine WS_gen hF rf (y_callL rf rf Tryz.call108 (fun w hw => opened_any l a cap ae cape w hn (hx.st w hw) (he.st w hw))) ?_
 rintro _ Hg ⟨p, rfl, hg1, hg2⟩
 refine zm (.tuple _) hF ?_
 refine zD hF (y_extract (c := .pointer _) rf rf) ?_
 refine zD hF (y_extract (c := .int .i64 _) rf rf) ?_
 refine za (.pointer _) hF ?_
 refine za (.int .i64 _) hF ?_
 refine zP fun ds => ?_
 refine zm (.int .i64 _) hF ?_
 refine za (.int .i64 _) hF ?_
 refine zN ?_
 refine W_ret ?_
 refine Fin_ret [.int .i64 _] [] Tryz.results77 ⟨by rfl, trivial⟩ HSub.nil ?_
 rfl
set_option maxHeartbeats 800000
def Lg.trs (l : Lg) : List Int := if l.aerr = 0 then (List.range (l.es.length + 1)).map l.tr else []
end Go.Proofs.YtjekjehgmljbgaaGreatDoor.T
namespace Go.Eng
open Go.RowKit
section
variable {C : Ctx} {F : Fence} {n : Nat} {ds : List Deferred} {all : Array Oper} {Q : Exit → Env → List Blk → Prop} {rest : List Oper} {e : Env} {H : List Blk} {d : Option Tmp} {ty : TypeId} {pos : String} {af : Array Edge} {g : Option (Nat × Bool)}
theorem WS_appendN (hF : Wide F) {x y : Operand} {T E : TypeId} {a a' : Option Addr} {n' m cap cap' sz by_ : Nat} {us news : List Value} {z : Value} {H1 Hn : List Blk} (hc : chk n all e ⟨d, .call ⟨.builtin .append, #[x, y], #[T, T]⟩, ty, pos, af, g⟩ = true)
  (hx : ev e x = .slice a n' cap) (hy : ev e y = .slice a' m cap') (hT : C.P.underlying T = some (.slice E)) (hinf : (C.P.info? E).map (fun i => (i.zero, i.size, i.bytes)) = some (some z, sz, by_))
  (hzs : z.cells.size = sz) (hH : H = H1 ++ Hn) (hrow : NewRow E sz n' us (.slice a n' cap) Hn) (hul : us.length = n' * sz) (hs : Src C H a' m news) (hl : news.length = m * sz) (hone : news.all Value.oneCell' = true) (hb : (n' + m) * by_ ≤ 140737488355328) (hm : n' + m ≤ 140737488355328) (h0 : 0 < m)
  (hk : ∀ a' cap' Hn', NewRow E sz (n' + m) (us ++ news) (.slice a' (n' + m) cap') Hn' → WS C F n ds all Q rest (updo e d (.slice a' (n' + m) cap')) (H1 ++ Hn')) :
  WS C F n ds all Q (⟨d, .call ⟨.builtin .append, #[x, y], #[T, T]⟩, ty, pos, af, g⟩ :: rest) e H := by
 by_cases hn : n' = 0
 ·subst hn
  have hu : us = [] := by simpa using hul
  subst hu
  obtain ⟨a1, cap1, he, hle, ⟨h, _⟩ | ⟨_, rfl, rfl⟩⟩ := hrow
  ·omega
  cases he
  rw [Nat.zero_add] at hb hm hk
  refine WS_gen hF hc (y_append0 hx hy hT hinf hzs hs hl hb hm) fun v Hv hv => ?_
  have hv2 := hv
  obtain ⟨a2, cap2, rfl, _⟩ := hv
  subst hH
  intro w hw act ha
  exact hk a2 cap2 Hv (by rw [List.nil_append]; exact hv2) w ⟨hw.1, hw.2.perm (by rw [List.append_nil]; exact List.perm_append_comm), hw.3⟩ act ha
 ·obtain ⟨a1, cap1, he, hr⟩ := hrow.row hul om0
  cases he
  refine WS_appendE hF hc hx hy hT hinf hzs hH hr hs hl hone hb hm fun a2 cap2 Hn' hr2 => hk a2 cap2 Hn' ?_
  obtain ⟨_, h, _⟩ | ⟨b, junk, rfl, rfl, h1, h2, h3⟩ := hr2
  ·omega
  ·exact ⟨_, _, rfl, h3, .inl ⟨by omega, b, junk, rfl, rfl, h2⟩⟩
end
end Go.Eng
namespace Go.Proofs.YtjekjehgmljbgaaGreatDoor.T
open Go.RowKit Go.Proofs Go.Eng
set_option maxRecDepth 100000
set_option maxHeartbeats 1000000
theorem bs60_0  : ∀ w, (Instr.buildSlice 60 0 #[]).run Tryz.prog w = .ok (.slice (some ⟨w.heap.size, 0, none⟩) 0 0) (w.alloc (CB [] 90)) := fun w => by kernel_rfl
theorem hsub_front {A B : List Blk} {x y : Blk} : HSub (A ++ (B ++ [x, y])) (x :: y :: (A ++ B)) := fun _ _ h => h.perm (by rw [← List.append_assoc]; exact List.perm_append_comm (l₁ := [x, y]))
theorem cloneE_any (l : Lg) (ae : Option Addr) (cape : Nat) (w : World) (hnes : l.es.length ≤ 1000000) (he : Ens w ae l.es.length cape l.es) :
  Ct Tryz.prog 143 #[.slice ae l.es.length cape] w (NewRow 90 4 l.es.length (rowOf En.cells l.e l.es.length)) := by
 have hlen : (rowOf En.cells l.e l.es.length).length = l.es.length * 4 := rowOf_len en_len _ _
 have hF := wide_wide
 refine Ct_start (args := [_]) Tryz.func143 rf Tryz.ntmps143 rf ?_
 refine zR fun ds => ?_
 refine za (.slice _ _ _) hF ?_
 refine zO ?_
 refine zR fun ds => ?_
 refine zm (.slice _ _ _) hF ?_
 refine zD hF (y_eqlNil rf rf Tryz.runUnderlying60) ?_
 refine zN ?_
 refine W_cond rf (fun c1 => ?_) (fun c1 => ?_)
 ·
  try simp only [qz1, qz2, qz3, qz4, qz5, qz6, qz7, qz8] at c1
  refine zR fun ds => ?_
  refine za (.slice _ _ _) hF ?_
  refine zN ?_
  refine W_ret ?_
  refine Then_ret ?_
  refine Fin_ret [.slice _ _ _] [] Tryz.results143 ⟨by rfl, trivial⟩ HSub.nil ?_
  have h0 : l.es.length = 0 := by
   rcases Nat.eq_zero_or_pos l.es.length with h | h
   ·exact h
   ·obtain ⟨b, o, rfl, _⟩ := he.cell 0 h
    cases c1
  rw [h0]
  exact ⟨none, 0, rfl, Nat.le_refl _, .inr ⟨rfl, rfl, rfl⟩⟩
 ·
  try simp only [qz1, qz2, qz3, qz4, qz5, qz6, qz7, qz8] at c1
  refine W_skip ?_
  refine zS fun ds => ?_
  refine WS_newS hF rf (y_buildSliceL bs60_0 rf) (fun b1 => ?_)
  refine zm (.slice _ _ _) hF ?_
  refine WS_gen hF rf (y_append0 rf rf Tryz.underlying60 infEntry rf (Rws.src en_len he) hlen om0 om0) ?_
  rintro _ Hc ⟨a', cap', rfl, hle, hd⟩
  refine za (.slice _ _ _) hF ?_
  refine zN ?_
  refine W_ret ?_
  refine Fin_ret [.slice _ _ _] Hc Tryz.results143 ⟨by rfl, trivial⟩ (HSub.sub (by repeat (first | exact List.Sublist.refl _ | exact List.sublist_append_left _ _ | exact List.nil_sublist _ | apply List.Sublist.cons_cons | apply List.Sublist.cons | refine List.Sublist.trans ?_ (List.sublist_append_right _ _)))) ?_
  exact ⟨a', cap', rfl, hle, hd⟩
theorem copied_any (l : Lg) (a : Option Addr) (cap : Nat) (ae : Option Addr) (cape : Nat) (w : World) (hnes : l.es.length ≤ 1000000) (h0 : 0 < l.tk.n) (hn : l.tk.n ≤ 1000000) (hx : Ints w a l.tk.n cap l.tk.pints) (he : Ens w ae l.es.length cape l.es) : Ct Tryz.prog 113 #[.agg #[.slice a l.tk.n cap, .int .i64 l.tk.leak, .int .i64 l.tk.foot, .int .i64 l.start.lo, .int .i64 l.start.hi, .slice ae l.es.length cape]] w (TwinL l) := by
 have hnn : a = none ∧ l.tk.n = 0 ∨ a ≠ none ∧ 0 < l.tk.n := .inr ⟨by obtain ⟨b, o, rfl, _⟩ := hx.cell 0 h0; simp, h0⟩
 have hF := wide_wide
 refine Ct_start (args := [_]) Tryz.func113 rf Tryz.ntmps113 rf ?_
 refine zR fun ds => ?_
 refine WS_new hF rf (y_box rf) (fun b1 => ?_)
 refine WS_new hF rf (y_alloc Tryz.zeroValue62 rf) (fun b2 => ?_)
 refine zO ?_
 apply W_drawMT 9 hF Tryzmixed [] [] [] rf dk0 dc HSub.refl
 intro ds
 refine P_det rf (Over_nil (y_fieldAddr rf fa62_0)) ?_
 refine P_det rf (Over_nil (y_fieldAddr rf fa57_0)) ?_
 refine P_det rf (Over_nil (y_load1 rf Tryz.isAgg22 (Mem.own1 1 rf rf))) ?_
 refine P_new rf rf (Over_nil (y_callL rf rf Tryz.call72 (fun w hw => clone_any a l.tk.n cap l.tk.pints w (hx.st w hw) hn hnn))) ?_
 refine P_det rf (Over_out rf (Over_nil (y_fieldAddr rf fa62_2))) ?_
 refine P_det rf (Over_out rf (Over_nil (y_load1 rf Tryz.isAgg60 (Mem.own1 1 rf rf)))) ?_
 refine P_new rf rf (Over_out rf (Over_nil (y_callL rf rf Tryz.call143 (fun w hw => cloneE_any l ae cape w hnes (he.st w hw))))) ?_
 refine P_det rf (Over_out rf (Over_out rf (Over_nil (y_fieldAddr rf fa62_0)))) ?_
 refine P_det rf (Over_out rf (Over_out rf (Over_nil (y_fieldAddr rf fa57_0)))) ?_
 refine PW_end rf ?_
 refine OverAll_cons (fun w9 l9 => ?_)
 refine OverAll_cons (fun w6 l6 => ?_)
 refine OverAll_nil ?_
 rintro ⟨⟨-, h9⟩, h6⟩
 obtain ⟨a1, cap1, rfl, hr1, _⟩ := h6
 obtain ⟨a2, cap2, rfl, hle2, hd2⟩ := h9
 refine WS_sub hsub_front ?_
 refine WS_store hF (i := 1) rf rf Tryz.sizeOf22 rf rf rf d20 ?_
 refine zD hF (y_fieldAddr rf fa62_2) ?_
 refine WS_store hF (i := 1) rf rf Tryz.sizeOf60 rf rf rf d20 ?_
 refine zP fun ds => ?_
 refine zD hF (y_loadN rf Tryz.isAgg62 Tryz.sizeOf62 (Mem.own (us := [.slice _ _ _, .int .i64 _, .int .i64 _, .int .i64 _, .int .i64 _, .slice _ _ _]) 1 rf rf) rf) ?_
 refine WS_store hF (i := 0) rf rf Tryz.sizeOf62 rf rf rf d20 ?_
 refine zN ?_
 refine W_ret ?_
 refine Fin_ret [_] (l6 ++ l9) Tryz.results113 ⟨lvN rf Tryz.isAgg62 Tryz.sizeOf62 (Mem.own (us := [.slice _ _ _, .int .i64 _, .int .i64 _, .int .i64 _, .int .i64 _, .slice _ _ _]) 0 rf rf) rf, trivial⟩ (HSub.sub (by repeat (first | exact List.Sublist.refl _ | exact List.sublist_append_left _ _ | exact List.nil_sublist _ | apply List.Sublist.cons_cons | apply List.Sublist.cons | refine List.Sublist.trans ?_ (List.sublist_append_right _ _)))) ?_
 exact ⟨a1, cap1, a2, cap2, _, _, rfl, Row.newRow hr1 h0, ⟨_, _, rfl, hle2, hd2⟩, rfl⟩
def Lg.put (l : Lg) (x : En) : Lg := ⟨l.tk, l.start, l.es ++ [x]⟩
theorem Lg.put_len (l : Lg) (x : En) : (l.put x).es.length = l.es.length + 1 := by unfold Lg.put; simp
theorem Lg.put_row (l : Lg) (x : En) : rowOf En.cells (l.put x).e (l.es.length + 1) = rowOf En.cells l.e l.es.length ++ x.cells := by
 rw [rowOf_succ]
 congr 1
 ·refine rowOf_congr _ fun k hk => ?_
  unfold Lg.e Lg.put
  simp only [List.getD_eq_getElem?_getD, List.getElem?_append_left hk]
 ·unfold Lg.e Lg.put
  simp
def Lg.addE (l : Lg) (x : En) : Int := if l.err = 0 then if l.es.length = 12 then 9 else if (l.put x).err = 0 then 0 else 32 else l.err
def zeroLg : Value := .agg #[.slice none 0 0, .int .i64 0, .int .i64 0, .int .i64 0, .int .i64 0, .slice none 0 0]
def AddV (l : Lg) (x : En) (v : Value) (Hn : List Blk) : Prop :=
 ∃ v0, v = .tuple #[v0, .int .i64 (l.addE x)] ∧ (l.addE x ≠ 0 → v0 = zeroLg ∧ Hn = []) ∧ (l.addE x = 0 → TwinL (l.put x) v0 Hn)
theorem bd62  : ∀ w, (Instr.build 62 #[]).run Tryz.prog w = .ok (.agg #[.slice none 0 0, .int .i64 0, .int .i64 0, .int .i64 0, .int .i64 0, .slice none 0 0]) w := fun w => by kernel_rfl
theorem add_any (l : Lg) (a : Option Addr) (cap : Nat) (ae : Option Addr) (cape : Nat) (x : En) (w : World) (hn : l.tk.n ≤ 1000000) (hx : Ints w a l.tk.n cap l.tk.pints) (he : Ens w ae l.es.length cape l.es) : Ct Tryz.prog 79 #[.agg #[.slice a l.tk.n cap, .int .i64 l.tk.leak, .int .i64 l.tk.foot, .int .i64 l.start.lo, .int .i64 l.start.hi, .slice ae l.es.length cape], .agg x.cells.toArray] w (AddV l x) := by
 have hF := wide_wide
 refine Ct_start (args := [_, _]) Tryz.func79 rf Tryz.ntmps79 rf ?_
 refine zR fun ds => ?_
 refine WS_new hF rf (y_box rf) (fun b1 => ?_)
 refine WS_new hF rf (y_box rf) (fun b2 => ?_)
 refine WS_new hF rf (y_alloc Tryz.zeroValue62 rf) (fun b3 => ?_)
 refine za (.int .i64 _) hF ?_
 refine zO ?_
 refine zR fun ds => ?_
 refine zD hF (y_loadN rf Tryz.isAgg62 Tryz.sizeOf62 (Mem.own (us := [.slice _ _ _, .int .i64 _, .int .i64 _, .int .i64 _, .int .i64 _, .slice _ _ _]) 2 rf rf) rf) ?_
 refine zD hF (y_callL rf rf Tryz.call77 (fun w hw => valid_any l a cap ae cape w hn (hx.st w hw) (he.st w hw))) ?_
 refine za (.int .i64 _) hF ?_
 refine zP fun ds => ?_
 refine zm (.int .i64 _) hF ?_
 refine zD hF (y_neq rf rf) ?_
 refine zN ?_
 refine W_cond rf (fun c2 => ?_) (fun c2 => ?_)
 ·
  try simp only [qz1, qz2, qz3, qz4, qz5, qz6, qz7, qz8] at c2
  refine zR fun ds => ?_
  refine zD hF (y_buildL bd62 rf) ?_
  refine zm (.int .i64 _) hF ?_
  refine WS_store hF (i := 0) rf rf Tryz.sizeOf62 rf rf rf d20 ?_
  refine za (.int .i64 _) hF ?_
  refine zN ?_
  refine W_ret ?_
  refine Then_ret ?_
  refine Fin_ret [_, .int .i64 _] [] Tryz.results79 ⟨lvN rf Tryz.isAgg62 Tryz.sizeOf62 (Mem.own (us := [.slice _ _ _, .int .i64 _, .int .i64 _, .int .i64 _, .int .i64 _, .slice _ _ _]) 0 rf rf) rf, by rfl, trivial⟩ HSub.nil ?_
  have hE : l.addE x = l.err := if_neg c2
  exact ⟨zeroLg, by rw [hE]; rfl, fun _ => ⟨rfl, rfl⟩, fun h => absurd (hE ▸ h) c2⟩
 ·
  try simp only [qz1, qz2, qz3, qz4, qz5, qz6, qz7, qz8] at c2
  have hok := l.ok_of c2
  have hn12 := hok.n12
  have hn2 := hok.tk.n2
  refine zU ?_
  refine W_seq ?_
  refine zR fun ds => ?_
  refine zD hF (y_fieldAddr rf fa62_2) ?_
  refine zD hF (y_load1 rf Tryz.isAgg60 (Mem.own1 2 rf rf)) ?_
  refine zD hF (y_len rf Tryz.runUnderlying60) ?_
  refine zD hF (y_eql rf rf) ?_
  refine zN ?_
  refine W_cond rf (fun c4 => ?_) (fun c4 => ?_)
  ·
   try simp only [qz1, qz2, qz3, qz4, qz5, qz6, qz7, qz8] at c4
   refine zR fun ds => ?_
   refine zD hF (y_buildL bd62 rf) ?_
   refine WS_store hF (i := 0) rf rf Tryz.sizeOf62 rf rf rf d20 ?_
   refine za (.int .i64 _) hF ?_
   refine zN ?_
   refine W_ret ?_
   refine Then_ret ?_
   refine Fin_ret [_, .int .i64 _] [] Tryz.results79 ⟨lvN rf Tryz.isAgg62 Tryz.sizeOf62 (Mem.own (us := [.slice _ _ _, .int .i64 _, .int .i64 _, .int .i64 _, .int .i64 _, .slice _ _ _]) 0 rf rf) rf, by rfl, trivial⟩ HSub.nil ?_
   have hE : l.addE x = 9 := by unfold Lg.addE; rw [if_pos c2, if_pos om0]
   exact ⟨zeroLg, by rw [hE]; rfl, fun _ => ⟨rfl, rfl⟩, fun h => absurd (hE ▸ h) dc⟩
  ·
   try simp only [qz1, qz2, qz3, qz4, qz5, qz6, qz7, qz8] at c4
   refine W_skip ?_
   refine zS fun ds => ?_
   refine zD hF (y_loadN rf Tryz.isAgg62 Tryz.sizeOf62 (Mem.own (us := [.slice _ _ _, .int .i64 _, .int .i64 _, .int .i64 _, .int .i64 _, .slice _ _ _]) 2 rf rf) rf) ?_
   refine WS_gen hF rf (y_callL rf rf Tryz.call113 (fun w hw => copied_any l a cap ae cape w om0 om0 hn (hx.st w hw) (he.st w hw))) ?_
   rintro _ _ ⟨a1, cap1, a2, cap2, H1, H2, rfl, hr1, hr2, rfl⟩
   refine WS_back ?_
   refine WS_store hF (i := 2) rf rf Tryz.sizeOf62 rf rf rf d20 ?_
   refine zP fun ds => ?_
   refine zD hF (y_fieldAddr rf fa62_2) ?_
   refine zD hF (y_load1 rf Tryz.isAgg60 (Mem.own1 2 rf rf)) ?_
   refine zD hF (y_loadN rf Tryz.isAgg90 Tryz.sizeOf90 (Mem.own (us := [.int .i64 _, .int .i64 _, .int .i64 _, .int .i64 _]) 1 rf rf) rf) ?_
   refine WS_newS hF rf (y_buildSliceL bs60_1_0 rf) (fun b4 => ?_)
   refine WS_appendN hF (H1 := (_ :: _ :: _ :: _ :: H1)) (Hn := H2) rf rf rf Tryz.underlying60 infEntry rf rf hr2 (rowOf_len en_len _ _) (.inr ⟨_, _, rfl, Mem.own (us := [.int _ _, .int _ _, .int _ _, .int _ _]) 0 rf rf⟩) rf rf om0 om0 om0 ?_
   intro a3 cap3 H3 hr3
   have hr4 : NewRow 90 4 (l.put x).es.length (rowOf En.cells (l.put x).e (l.put x).es.length) (.slice a3 (l.put x).es.length cap3) H3 := by
    rw [l.put_len, l.put_row]; exact hr3
   rw [show l.es.length + 1 = (l.put x).es.length from (l.put_len x).symm]
   refine zD hF (y_fieldAddr rf fa62_2) ?_
   refine WS_store hF (i := 3) rf rf Tryz.sizeOf60 rf rf rf d20 ?_
   refine zO ?_
   refine zR fun ds => ?_
   refine zD hF (y_loadN rf Tryz.isAgg62 Tryz.sizeOf62 (Mem.own (us := [.slice _ _ _, .int .i64 _, .int .i64 _, .int .i64 _, .int .i64 _, .slice _ _ _]) 3 rf rf) rf) ?_
   refine zD hF (y_callL rf rf Tryz.call77 (fun w hw => valid_any (l.put x) a1 cap1 a3 cap3 w hn (NewRow.ints hr1 hx.len (by repeat (first | exact List.Sublist.refl _ | exact List.sublist_append_left _ _ | exact List.nil_sublist _ | apply List.Sublist.cons_cons | apply List.Sublist.cons | refine List.Sublist.trans ?_ (List.sublist_append_right _ _))) w hw) (NewRow.rws en_len hr4 rfl (by repeat (first | exact List.Sublist.refl _ | exact List.sublist_append_left _ _ | exact List.nil_sublist _ | apply List.Sublist.cons_cons | apply List.Sublist.cons | refine List.Sublist.trans ?_ (List.sublist_append_right _ _))) w hw))) ?_
   refine zD hF (y_neq rf rf) ?_
   refine zN ?_
   refine W_cond rf (fun c8 => ?_) (fun c8 => ?_)
   ·
    try simp only [qz1, qz2, qz3, qz4, qz5, qz6, qz7, qz8] at c8
    refine zR fun ds => ?_
    refine zD hF (y_buildL bd62 rf) ?_
    refine WS_store hF (i := 1) rf rf Tryz.sizeOf62 rf rf rf d20 ?_
    refine za (.int .i64 _) hF ?_
    refine zN ?_
    refine W_ret ?_
    refine Then_ret ?_
    refine Fin_ret [_, .int .i64 _] [] Tryz.results79 ⟨lvN rf Tryz.isAgg62 Tryz.sizeOf62 (Mem.own (us := [.slice _ _ _, .int .i64 _, .int .i64 _, .int .i64 _, .int .i64 _, .slice _ _ _]) 1 rf rf) rf, by rfl, trivial⟩ HSub.nil ?_
    have hE : l.addE x = 32 := by unfold Lg.addE; rw [if_pos c2, if_neg om0, if_neg c8]
    exact ⟨zeroLg, by rw [hE]; rfl, fun _ => ⟨rfl, rfl⟩, fun h => absurd (hE ▸ h) dc⟩
   ·
    try simp only [qz1, qz2, qz3, qz4, qz5, qz6, qz7, qz8] at c8
    refine W_skip ?_
    refine zS fun ds => ?_
    refine zD hF (y_loadN rf Tryz.isAgg62 Tryz.sizeOf62 (Mem.own (us := [.slice _ _ _, .int .i64 _, .int .i64 _, .int .i64 _, .int .i64 _, .slice _ _ _]) 3 rf rf) rf) ?_
    refine WS_store hF (i := 1) rf rf Tryz.sizeOf62 rf rf rf d20 ?_
    refine za (.int .i64 _) hF ?_
    refine zN ?_
    refine W_ret ?_
    refine Fin_ret [_, .int .i64 _] (H1 ++ H3) Tryz.results79 ⟨lvN rf Tryz.isAgg62 Tryz.sizeOf62 (Mem.own (us := [.slice _ _ _, .int .i64 _, .int .i64 _, .int .i64 _, .int .i64 _, .slice _ _ _]) 1 rf rf) rf, by rfl, trivial⟩ (HSub.sub (by repeat (first | exact List.Sublist.refl _ | exact List.sublist_append_left _ _ | exact List.nil_sublist _ | apply List.Sublist.cons_cons | apply List.Sublist.cons | refine List.Sublist.trans ?_ (List.sublist_append_right _ _)))) ?_
    have hE : l.addE x = 0 := by unfold Lg.addE; rw [if_pos c2, if_neg om0, if_pos c8]
    exact ⟨_, by rw [hE]; rfl, fun h => absurd hE h, fun _ => ⟨a1, cap1, a3, cap3, H1, H3, rfl, hr1, hr4, rfl⟩⟩
def prevD (D : List Int) : Nat → Int
 | 0 => 0
 | j + 1 => D.getD j 0
def okT (n : Int) (D : List Int) (j : Nat) : Bool := inB (prevD D j + 1) n [D.getD j 0]
theorem prev_bd {n : Int} {D : List Int} (hn : 0 ≤ n) : ∀ k, (∀ j, j < k → okT n D j = true) → 0 ≤ prevD D k ∧ prevD D k ≤ n
 | 0, _ => ⟨Int.le_refl _, hn⟩
 | k + 1, h => by
  have h1 := prev_bd hn k fun j hj => h j om0
  have h2 := inB1.1 (h k om0)
  show 0 ≤ D.getD k 0 ∧ D.getD k 0 ≤ n
  omega
def Lg.strE (l : Lg) (D : List Int) : Int := if l.err = 0 then if (List.range D.length).all (okT l.es.length D) = true then 0 else 32 else l.err
theorem Lg.strE_ok {l : Lg} {D : List Int} (h : l.err = 0) (hk : ∀ j, j < D.length → okT l.es.length D j = true) : l.strE D = 0 := by
 unfold Lg.strE
 rw [if_pos h, if_pos (List.all_eq_true.2 fun j hj => hk j (List.mem_range.1 hj))]
theorem Lg.strE_no {l : Lg} {D : List Int} {k : Nat} (h : l.err = 0) (hk : k < D.length) (hb : okT l.es.length D k = false) : l.strE D = 32 := by
 unfold Lg.strE
 rw [if_pos h, if_neg fun hall => ?_]
 rw [List.all_eq_true.1 hall k (List.mem_range.2 hk)] at hb
 cases hb
def StrikeV (l : Lg) (D : List Int) (v : Value) (Hn : List Blk) : Prop :=
 ∃ v0, v = .tuple #[v0, .int .i64 (l.strE D)] ∧ (l.strE D ≠ 0 → v0 = zeroLg ∧ Hn = []) ∧ (l.strE D = 0 → TwinL (l.wo D) v0 Hn)
theorem strike_any (l : Lg) (a : Option Addr) (cap : Nat) (ae : Option Addr) (cape : Nat) (ta : Option Addr) (tn tcap : Nat) (D : List Int) (w : World) (htn : tn ≤ 1000000) (hD : Ints w ta tn tcap D) (hn : l.tk.n ≤ 1000000) (hx : Ints w a l.tk.n cap l.tk.pints) (he : Ens w ae l.es.length cape l.es) : Ct Tryz.prog 78 #[.agg #[.slice a l.tk.n cap, .int .i64 l.tk.leak, .int .i64 l.tk.foot, .int .i64 l.start.lo, .int .i64 l.start.hi, .slice ae l.es.length cape], .slice ta tn tcap] w (StrikeV l D) := by
 have hDl := hD.len
 have hF := wide_wide
 refine Ct_start (args := [_, _]) Tryz.func78 rf Tryz.ntmps78 rf ?_
 refine zR fun ds => ?_
 refine WS_new hF rf (y_box rf) (fun b1 => ?_)
 refine WS_new hF rf (y_alloc Tryz.zeroValue62 rf) (fun b2 => ?_)
 refine za (.int .i64 _) hF ?_
 refine zP fun ds => ?_
 refine zD hF (y_loadN rf Tryz.isAgg62 Tryz.sizeOf62 (Mem.own (us := [.slice _ _ _, .int .i64 _, .int .i64 _, .int .i64 _, .int .i64 _, .slice _ _ _]) 1 rf rf) rf) ?_
 refine WS_gen hF rf (y_callL rf rf Tryz.call108 (fun w hw => opened_any l a cap ae cape w hn (hx.st w hw) (he.st w hw))) ?_
 rintro _ Hg ⟨p, rfl, hg1, hg2⟩
 refine zm (.tuple _) hF ?_
 refine zD hF (y_extract (c := .pointer _) rf rf) ?_
 refine zD hF (y_extract (c := .int .i64 _) rf rf) ?_
 refine za (.pointer _) hF ?_
 refine za (.int .i64 _) hF ?_
 refine zO ?_
 refine zR fun ds => ?_
 refine zm (.int .i64 _) hF ?_
 refine zD hF (y_neq rf rf) ?_
 refine zN ?_
 refine W_cond rf (fun c2 => ?_) (fun c2 => ?_)
 ·
  try simp only [qz1, qz2, qz3, qz4, qz5, qz6, qz7, qz8] at c2
  obtain rfl := hg2 c2
  refine zR fun ds => ?_
  refine zD hF (y_buildL bd62 rf) ?_
  refine zm (.int .i64 _) hF ?_
  refine WS_store hF (i := 0) rf rf Tryz.sizeOf62 rf rf rf d20 ?_
  refine za (.int .i64 _) hF ?_
  refine zN ?_
  refine W_ret ?_
  refine Then_ret ?_
  refine Fin_ret [_, .int .i64 _] [] Tryz.results78 ⟨lvN rf Tryz.isAgg62 Tryz.sizeOf62 (Mem.own (us := [.slice _ _ _, .int .i64 _, .int .i64 _, .int .i64 _, .int .i64 _, .slice _ _ _]) 0 rf rf) rf, by rfl, trivial⟩ HSub.nil ?_
  have hE : l.strE D = l.err := if_neg c2
  exact ⟨zeroLg, by rw [hE]; rfl, fun _ => ⟨rfl, rfl⟩, fun h => absurd (hE ▸ h) c2⟩
 ·
  try simp only [qz1, qz2, qz3, qz4, qz5, qz6, qz7, qz8] at c2
  obtain ⟨g, bk, rfl, rfl⟩ := hg1 c2
  have hok := l.ok_of c2
  have hn12 := hok.n12
  have hn2 := hok.tk.n2
  refine W_skip ?_
  refine zS fun ds => ?_
  refine za (.int .i64 _) hF ?_
  refine zO ?_
  refine zR fun ds => ?_
  refine zm (.slice _ _ _) hF ?_
  refine zD hF (y_len rf Tryz.runUnderlying22) ?_
  refine zm (.int .i64 _) hF ?_
  refine zN ?_
  refine W_block ?_
  refine W_loop (γ := Nat) (fun k => k ≤ tn ∧ ∀ j, j < k → okT l.es.length D j = true) (fun k => [(1, .slice ta tn tcap), (2, .pointer (some ⟨b1, 0, none⟩)), (4, .pointer (some ⟨b2, 0, none⟩)), (6, .pointer (some ⟨bk, 0, none⟩)), (8, .int .i64 (prevD D k)), (20, .slice ta tn tcap), (21, .int .i64 (tn : Int)), (22, .int .i64 (k : Int))]) (fun _ => _) (fun k => tn - k) (0) ⟨Nat.zero_le _, fun j hj => absurd hj om0⟩ s10 (List.Sublist.refl _) ?_
  rintro k e ⟨hk, hp⟩
  refine zR fun ds => ?_
  refine zD hF (y_lss rf rf) ?_
  refine zO ?_
  refine W_cond rf (fun c6 => ?_) (fun c6 => ?_)
  ·
   try simp only [qz1, qz2, qz3, qz4, qz5, qz6, qz7, qz8] at c6
   obtain ⟨tb, to, rfl, htc⟩ := hD.cell k om0
   have hpb := prev_bd (n := l.es.length) (D := D) om0 k hp
   refine zU ?_
   refine W_seq ?_
   refine W_block ?_
   refine zR fun ds => ?_
   refine zD hF (y_index (k := k) rf rf r1 d10 Tryz.runUnderlying22 Tryz.sizeOf3) ?_
   refine zD hF (y_load1 rf Tryz.isAgg3 zo) ?_
   refine za (.int .i64 _) hF ?_
   refine zO ?_
   refine zR fun ds => ?_
   refine zm (.int .i64 _) hF ?_
   refine zD hF (y_add rf rf ui) ?_
   refine zD hF (y_fieldAddr rf fa62_2) ?_
   refine zD hF (y_load1 rf Tryz.isAgg60 (Mem.own1 3 rf rf)) ?_
   refine zD hF (y_len rf Tryz.runUnderlying60) ?_
   refine zm (.int .i64 _) hF ?_
   refine WS_newS hF rf (y_buildSliceL bs22_1_0 rf) (fun b3 => ?_)
   refine zD hF (y_callL rf rf Tryz.call80 (fun w hw => in_any _ _ _ _ _ _ w dc (by first | exact Ints.one 0 rfl w hw | exact Ints.two 0 rfl w hw))) ?_
   refine zD hF (y_not rf) ?_
   refine zN ?_
   refine W_cond rf (fun c8 => ?_) (fun c8 => ?_)
   ·
    try simp only [qz1, qz2, qz3, qz4, qz5, qz6, qz7, qz8] at c8
    refine zR fun ds => ?_
    refine zD hF (y_buildL bd62 rf) ?_
    refine WS_store hF (i := 3) rf rf Tryz.sizeOf62 rf rf rf d20 ?_
    refine za (.int .i64 _) hF ?_
    refine zN ?_
    refine W_ret ?_
    refine Then_ret ?_
    refine InB_ret ?_
    refine Then_ret ?_
    refine Loop_ret ?_
    refine InB_ret ?_
    refine Then_ret ?_
    refine Fin_ret [_, .int .i64 _] [] Tryz.results78 ⟨lvN rf Tryz.isAgg62 Tryz.sizeOf62 (Mem.own (us := [.slice _ _ _, .int .i64 _, .int .i64 _, .int .i64 _, .int .i64 _, .slice _ _ _]) 3 rf rf) rf, by rfl, trivial⟩ HSub.nil ?_
    have hE : l.strE D = 32 := Lg.strE_no c2 (k := k) om0 c8
    exact ⟨zeroLg, by rw [hE]; rfl, fun _ => ⟨rfl, rfl⟩, fun h => absurd (hE ▸ h) dc⟩
   ·
    try simp only [qz1, qz2, qz3, qz4, qz5, qz6, qz7, qz8] at c8
    have hp2 : ∀ j, j < k + 1 → okT l.es.length D j = true := fun j hj => by
     obtain hj | rfl : j < k ∨ j = k := by omega
     ·exact hp j hj
     ·exact c8
    refine W_skip ?_
    refine zT fun ds => ?_
    refine zm (.int .i64 _) hF ?_
    refine za (.int .i64 _) hF ?_
    refine WS_nil ?_
    refine InB_normal ?_
    refine zT fun ds => ?_
    refine zD hF (y_add rf rf ui) ?_
    refine zm (.int .i64 _) hF ?_
    refine WS_nil ?_
    exact Loop_next (k + 1) ⟨by omega, hp2⟩ s10 s20 om0
  ·
   try simp only [qz1, qz2, qz3, qz4, qz5, qz6, qz7, qz8] at c6
   refine W_exit ?_
   refine Then_exit ?_
   refine Loop_exit ?_
   refine InB_same ?_
   refine zS fun ds => ?_
   refine zm (.pointer _) hF ?_
   refine zm (.slice _ _ _) hF ?_
   refine WS_gen hF rf (y_callL rf rf Tryz.call114 (fun w hw => without_any bk g l a cap ae cape ta tn tcap D w hok (At.block0 (by repeat (first | exact List.mem_cons_self | apply List.mem_cons_of_mem | apply List.mem_append_right)) w hw) (he.st w hw) (hD.st w hw) htn)) ?_
   rintro _ _ ⟨cb, ae2, cape2, H2, rfl, rfl, hrow2⟩
   refine WS_back ?_
   have hwn : (l.wo D).es.length ≤ 12 := (hok.wo D).n12
   refine zD hF znk ?_
   refine zD hF (y_fieldAddr rf fa141_1) ?_
   refine zD hF (y_loadN rf Tryz.isAgg62 Tryz.sizeOf62 (Mem.own (us := [.slice _ _ _, .int .i64 _, .int .i64 _, .int .i64 _, .int .i64 _, .slice _ _ _]) 4 rf rf) rf) ?_
   refine WS_gen hF rf (y_callL rf rf Tryz.call113 (fun w hw => copied_any (l.wo D) a cap ae2 cape2 w om0 (show 0 < l.tk.n by omega) hn (hx.st w hw) (Row.rws en_len hrow2 rfl (by repeat (first | exact List.Sublist.refl _ | exact List.sublist_append_left _ _ | exact List.nil_sublist _ | apply List.Sublist.cons_cons | apply List.Sublist.cons | refine List.Sublist.trans ?_ (List.sublist_append_right _ _))) w hw))) ?_
   rintro _ Ht hT
   have hT2 := hT
   obtain ⟨a1, cap1, a2, cap2, H3, H4, rfl, hr1, hr2, rfl⟩ := hT
   refine WS_back ?_
   refine WS_store hF (i := 2) rf rf Tryz.sizeOf62 rf rf rf d20 ?_
   refine za (.int .i64 _) hF ?_
   refine zN ?_
   refine W_ret ?_
   refine Fin_ret [_, .int .i64 _] (H3 ++ H4) Tryz.results78 ⟨lvN rf Tryz.isAgg62 Tryz.sizeOf62 (Mem.own (us := [.slice _ _ _, .int .i64 _, .int .i64 _, .int .i64 _, .int .i64 _, .slice _ _ _]) 2 rf rf) rf, by rfl, trivial⟩ (HSub.sub (by repeat (first | exact List.Sublist.refl _ | exact List.sublist_append_left _ _ | exact List.nil_sublist _ | apply List.Sublist.cons_cons | apply List.Sublist.cons | refine List.Sublist.trans ?_ (List.sublist_append_right _ _)))) ?_
   have hE : l.strE D = 0 := Lg.strE_ok c2 fun j hj => hp j om0
   exact ⟨_, by rw [hE]; rfl, fun h => absurd hE h, fun _ => hT2⟩
def lexB : List Int → List Int → Bool
 | x :: xs, y :: ys => if x = y then lexB xs ys else decide (x < y)
 | _, _ => false
def befB (xs ys : List Int) : Bool := if xs.length = ys.length then lexB xs ys else decide (xs.length < ys.length)
end Go.Proofs.YtjekjehgmljbgaaGreatDoor.T
namespace Go.Eng
section
variable {C : Ctx} {e : Env} {H : List Blk} {d : Option Tmp} {ty : TypeId} {pos : String} {af : Array Edge} {g : Option (Nat × Bool)} {x y : Operand} {t t' : TypeId} {m i : Nat}
end
end Go.Eng
namespace Go.Proofs.YtjekjehgmljbgaaGreatDoor.T
open Go.RowKit Go.Proofs Go.Eng
set_option maxRecDepth 100000
set_option maxHeartbeats 1000000
def setL (s n : Nat) : List Int := ((List.range n).filter fun i => s.testBit i).map fun i : Nat => (i : Int) + 1
theorem setL_succ (s n : Nat) : setL s (n + 1) = if s.testBit n then setL s n ++ [(n : Int) + 1] else setL s n := by
 unfold setL
 rw [List.range_succ, List.filter_append]
 cases h : s.testBit n <;> simp [h]
def Lg.dipsB (l : Lg) (s n : Nat) : Bool := (List.range n).all fun i => !s.testBit i || decide ((l.e i).kind = 3)
def betB (T : List Int) : Option (List Int) → Bool
 | none => true
 | some R => befB T R
def Lg.bestW (l : Lg) : Nat → Option (List Int)
 | 0 => none
 | s + 1 => if l.dipsB s l.es.length && betB (setL s l.es.length) (l.bestW s) && (l.wo (setL s l.es.length)).holdsB then some (setL s l.es.length) else l.bestW s
def RWrongV (l : Lg) (v : Value) (Hn : List Blk) : Prop :=
 (l.err ≠ 0 → v = .tuple #[.slice none 0 0, .int .i64 l.err] ∧ Hn = []) ∧
 (l.err = 0 → (∀ R, l.bestW (2 ^ l.es.length) = some R → ∃ fa fn fcap, v = .tuple #[.slice fa fn fcap, .int .i64 0] ∧ Row 3 1 fa fn fcap (iv R) Hn ∧ R.length = fn) ∧ (l.bestW (2 ^ l.es.length) = none → v = .tuple #[.slice none 0 0, .int .i64 6] ∧ Hn = []))
def Lg.Fits (l : Lg) (lo : Int) (E : List Int) : Prop := E.Pairwise (· < ·) ∧ ∀ x ∈ E, lo < x ∧ x ≤ (l.es.length : Int) ∧ (l.e (x - 1).toNat).kind = 3
def Lg.Val (l : Lg) (T : List Int) : Prop := l.Fits 0 T ∧ (l.wo T).holdsB = true
theorem Lg.Fits.tail {l : Lg} {lo x : Int} {E : List Int} (h : l.Fits lo (x :: E)) : l.Fits x E :=
 ⟨(List.pairwise_cons.1 h.1).2, fun y hy => ⟨(List.pairwise_cons.1 h.1).1 y hy, (h.2 y (List.mem_cons_of_mem _ hy)).2⟩⟩
theorem setL_of (n : Nat) : ∀ T : List Int, T.Pairwise (· < ·) → (∀ x ∈ T, 0 < x ∧ x ≤ (n : Int)) → ∃ s, s < 2 ^ n ∧ setL s n = T := by
 induction n with
 | zero =>
  intro T _ h
  refine ⟨0, by decide, ?_⟩
  cases T with
  | nil => rfl
  | cons x T => have := h x List.mem_cons_self; omega
 | succ n ih =>
  intro T hp h
  have small : (∀ x ∈ T, x ≤ (n : Int)) → ∃ s, s < 2 ^ (n + 1) ∧ setL s (n + 1) = T := fun hs => by
   obtain ⟨s, h1, h2⟩ := ih T hp fun x hx => ⟨(h x hx).1, hs x hx⟩
   refine ⟨s, by rw [Nat.pow_succ]; omega, ?_⟩
   rw [setL_succ, Nat.testBit_lt_two_pow h1]
   exact h2
  rcases List.eq_nil_or_concat T with rfl | ⟨L, x, rfl⟩
  ·exact small fun x hx => by cases hx
  ·rw [List.concat_eq_append] at hp h small ⊢
   have hlt : ∀ y ∈ L, y < x := fun y hy => (List.pairwise_append.1 hp).2.2 y hy x List.mem_cons_self
   have hx := h x (List.mem_append_right _ List.mem_cons_self)
   by_cases hxn : x = (n : Int) + 1
   ·obtain ⟨s, h1, h2⟩ := ih L (List.pairwise_append.1 hp).1 fun y hy => ⟨(h y (List.mem_append_left _ hy)).1, by have := hlt y hy; omega⟩
    refine ⟨2 ^ n + s, by rw [Nat.pow_succ]; omega, ?_⟩
    rw [setL_succ, Nat.testBit_two_pow_add_eq, Nat.testBit_lt_two_pow h1]
    have : setL (2 ^ n + s) n = setL s n := by
     unfold setL
     congr 1
     exact List.filter_congr fun i hi => Nat.testBit_two_pow_add_gt (List.mem_range.1 hi) s
    rw [this, h2, hxn]; rfl
   ·refine small fun y hy => ?_
    rcases List.mem_append.1 hy with hy | hy
    ·have := hlt y hy; omega
    ·rw [List.mem_singleton.1 hy]; omega
theorem Lg.Val.set {l : Lg} {T : List Int} (h : l.Val T) : ∃ s, s < 2 ^ l.es.length ∧ setL s l.es.length = T :=
 setL_of _ T h.1.1 fun x hx => ⟨(h.1.2 x hx).1, (h.1.2 x hx).2.1⟩
def Lg.wrL (l : Lg) : List Int := if l.err = 0 then l.wr.getD [] else []
def Lg.wrE (l : Lg) : Int := if l.err = 0 then (if l.wr.isSome then 0 else 6) else l.err
def WrI (l : Lg) (v : Value) (Hn : List Blk) : Prop :=
 ∃ fa fcap, v = .tuple #[.slice fa l.wrL.length fcap, .int .i64 l.wrE] ∧ ∀ (C : Ctx) (H : List Blk) (w : World), Hn.Sublist H → St C H w → Ints w fa l.wrL.length fcap l.wrL
theorem WrongV.ints {l : Lg} {v : Value} {Hn : List Blk} (h : WrongV l v Hn) : WrI l v Hn := by
 unfold WrI Lg.wrL Lg.wrE
 by_cases h0 : l.err = 0
 ·rw [if_pos h0, if_pos h0]
  cases hw : l.wr with
  | none =>
   obtain ⟨rfl, rfl⟩ := (h.2 h0).2 hw
   exact ⟨none, 0, rfl, fun C H w _ _ => Ints.nil _ _ _⟩
  | some R =>
   obtain ⟨fa, fn, fcap, rfl, hr, rfl⟩ := (h.2 h0).1 R hw
   exact ⟨fa, fcap, rfl, fun C H w hs hw => Row.ints hr rfl hs w hw⟩
 ·rw [if_neg h0, if_neg h0]
  obtain ⟨rfl, rfl⟩ := h.1 h0
  exact ⟨none, 0, rfl, fun C H w _ _ => Ints.nil _ _ _⟩
def Lg.zero : Lg := ⟨⟨[], 0, 0⟩, ⟨0, 0⟩, []⟩
def Lg.addL (l : Lg) (x : En) : Lg := if l.addE x = 0 then l.put x else Lg.zero
def Lg.strL (l : Lg) (D : List Int) : Lg := if l.strE D = 0 then l.wo D else Lg.zero
theorem twin_zero : TwinL Lg.zero zeroLg [] := ⟨none, 0, none, 0, [], [], rfl, ⟨none, 0, rfl, Nat.le_refl _, .inr ⟨rfl, rfl, rfl⟩⟩, ⟨none, 0, rfl, Nat.le_refl _, .inr ⟨rfl, rfl, rfl⟩⟩, rfl⟩
theorem AddV.twin {l : Lg} {x : En} {v : Value} {Hn : List Blk} (h : AddV l x v Hn) : ∃ v0, v = .tuple #[v0, .int .i64 (l.addE x)] ∧ TwinL (l.addL x) v0 Hn := by
 obtain ⟨v0, rfl, h1, h2⟩ := h
 refine ⟨v0, rfl, ?_⟩
 unfold Lg.addL
 by_cases h0 : l.addE x = 0
 ·rw [if_pos h0]; exact h2 h0
 ·obtain ⟨rfl, rfl⟩ := h1 h0
  rw [if_neg h0]; exact twin_zero
theorem StrikeV.twin {l : Lg} {D : List Int} {v : Value} {Hn : List Blk} (h : StrikeV l D v Hn) : ∃ v0, v = .tuple #[v0, .int .i64 (l.strE D)] ∧ TwinL (l.strL D) v0 Hn := by
 obtain ⟨v0, rfl, h1, h2⟩ := h
 refine ⟨v0, rfl, ?_⟩
 unfold Lg.strL
 by_cases h0 : l.strE D = 0
 ·rw [if_pos h0]; exact h2 h0
 ·obtain ⟨rfl, rfl⟩ := h1 h0
  rw [if_neg h0]; exact twin_zero
end Go.Proofs.YtjekjehgmljbgaaGreatDoor.T
namespace Go.Proofs.YtjekjehgmljbgaaGreatDoor.T
open Go.RowKit Go.Eng
structure Cn where
 sz : List Int
 inn : List Int
 st : Int
def Cn.n (c : Cn) : Nat := c.sz.length
def Cn.s (c : Cn) (k : Nat) : Int := c.sz.getD k 0
def Cn.i (c : Cn) (k : Nat) : Int := c.inn.getD k 0
def Cn.fitB (c : Cn) (m : Nat) : Bool := (List.range m).all fun k => inB 0 (c.s k) [c.i k]
def Cn.okB (c : Cn) : Bool := (inB 1 3 [(c.n : Int)] && decide (c.inn.length = c.n)) && (inB 1 20 c.sz && inB 0 600 [c.st]) && c.fitB c.n
theorem Cn.fitB_succ (c : Cn) (m : Nat) : c.fitB (m + 1) = (c.fitB m && inB 0 (c.s m) [c.i m]) := by
 unfold Cn.fitB; rw [List.range_succ, List.all_append]; simp
theorem Cn.fitB_false {c : Cn} {k m : Nat} (h : k < m) (hk : inB 0 (c.s k) [c.i k] = false) : c.fitB m = false := by
 unfold Cn.fitB
 exact List.all_eq_false.2 ⟨k, List.mem_range.2 h, by simp [hk]⟩
theorem inB_all {lo hi : Int} {xs : List Int} : inB lo hi xs = true ↔ ∀ k, k < xs.length → lo ≤ xs.getD k 0 ∧ xs.getD k 0 ≤ hi := by
 unfold inB
 simp only [List.all_eq_true, Bool.not_eq_true', outB_iff]
 constructor
 ·intro h k hk
  have := h xs[k] (List.getElem_mem hk)
  simpa [List.getD_eq_getElem?_getD, hk] using this
 ·intro h x hx
  obtain ⟨k, hk, rfl⟩ := List.getElem_of_mem hx
  simpa [List.getD_eq_getElem?_getD, hk] using h k hk
structure Cn.Ok (c : Cn) : Prop where
 n1 : 1 ≤ c.n
 n3 : c.n ≤ 3
 len : c.inn.length = c.n
 st0 : 0 ≤ c.st
 st1 : c.st ≤ 600
 s : ∀ k, k < c.n → 1 ≤ c.s k ∧ c.s k ≤ 20
 i : ∀ k, k < c.n → 0 ≤ c.i k ∧ c.i k ≤ c.s k
theorem Cn.ok_iff {c : Cn} : c.okB = true ↔ c.Ok := by
 unfold Cn.okB Cn.fitB
 simp only [Bool.and_eq_true, inB1, decide_eq_true_eq, List.all_eq_true, List.mem_range]
 rw [inB_all]
 constructor
 ·rintro ⟨⟨⟨⟨h1, h2⟩, h3⟩, h4, h5, h6⟩, h7⟩
  exact ⟨by omega, by omega, h3, h5, h6, h4, h7⟩
 ·intro h
  have := h.n1
  have := h.n3
  exact ⟨⟨⟨⟨by omega, by omega⟩, h.len⟩, h.s, h.st0, h.st1⟩, h.i⟩
structure Po where
 f : Int
 t : Int
deriving DecidableEq
def Po.cells (p : Po) : List Value := [.int .i64 p.f, .int .i64 p.t]
def Po.z : Po := ⟨0, 0⟩
structure Co where
 a : Int
 b : Int
 c : Int
 d : Int
deriving DecidableEq
def Co.cells (x : Co) : List Value := [.int .i64 x.a, .int .i64 x.b, .int .i64 x.c, .int .i64 x.d]
def Co.z : Co := ⟨0, 0, 0, 0⟩
def Co.g (x : Co) : Nat → Int
 | 0 => x.a
 | 1 => x.b
 | 2 => x.c
 | _ => x.d
def Co.w (x : Co) (k : Nat) (v : Int) : Co :=
 match k with
 | 0 => ⟨v, x.b, x.c, x.d⟩
 | 1 => ⟨x.a, v, x.c, x.d⟩
 | 2 => ⟨x.a, x.b, v, x.d⟩
 | _ => ⟨x.a, x.b, x.c, v⟩
theorem lt4 {k : Nat} (h : k < 4) : k = 0 ∨ k = 1 ∨ k = 2 ∨ k = 3 := by omega
theorem Co.drop (x : Co) {k : Nat} (h : k < 4) : ∃ rest, List.drop (0 + k * 1) x.cells = [.int .i64 (x.g k)] ++ rest := by
 obtain rfl | rfl | rfl | rfl := lt4 h
 all_goals exact ⟨_, rfl⟩
theorem Co.splice (x : Co) (v : Int) {k : Nat} (h : k < 4) : splice x.cells (0 + k * 1) [.int .i64 v] = (x.w k v).cells := by
 obtain rfl | rfl | rfl | rfl := lt4 h
 all_goals rfl
theorem Co.g_w (x : Co) (v : Int) {k j : Nat} (hk : k < 4) (hj : j < 4) : (x.w k v).g j = if j = k then v else x.g j := by
 obtain rfl | rfl | rfl | rfl := lt4 hk <;> obtain rfl | rfl | rfl | rfl := lt4 hj
 all_goals rfl
theorem Co.ext4 {x y : Co} (h : ∀ k, k < 4 → x.g k = y.g k) : x = y := by
 obtain ⟨a, b, c, d⟩ := x
 obtain ⟨a', b', c', d'⟩ := y
 have h0 : a = a' := h 0 dc
 have h1 : b = b' := h 1 dc
 have h2 : c = c' := h 2 dc
 have h3 : d = d' := h 3 dc
 subst h0 h1 h2 h3; rfl
def Cn.co (c : Cn) : Co := ⟨c.st, c.i 0, c.i 1, c.i 2⟩
def Cn.room (c : Cn) (k : Nat) : Int := if k = 0 then 600 else c.s (k - 1)
def Cn.vldB (c : Cn) (p : Po) : Bool := inB 0 (c.n : Int) [p.f, p.t] && decide (p.f ≠ p.t)
def Cn.lack (c : Cn) (x : Co) (t : Nat) : Int := c.room t - x.g t
def Cn.amt (c : Cn) (x : Co) (f t : Nat) : Int := min (x.g f) (c.lack x t)
def Cn.noB (c : Cn) (x : Co) (f t : Nat) : Bool := decide (f = 0) && decide (x.g f < c.lack x t) || decide (t = 0) && decide (c.lack x t < x.g f)
def Cn.to (c : Cn) (x : Co) (f t : Nat) : Co := (x.w f (x.g f - c.amt x f t)).w t (x.g t + c.amt x f t)
def Cn.canB (c : Cn) (x : Co) (f t : Nat) : Bool := !c.noB x f t && decide (0 < c.amt x f t)
def Cn.of (c : Cn) (x : Co) : Cn := ⟨c.sz, [x.b, x.c, x.d].take c.n, x.a⟩
structure Cn.In (c : Cn) (x : Co) : Prop where
 lo : ∀ k, k < 4 → 0 ≤ x.g k
 hi : ∀ k, k ≤ c.n → x.g k ≤ c.room k
 z : ∀ k, c.n < k → k < 4 → x.g k = 0
theorem Cn.room_s (c : Cn) (k : Nat) : c.room (k + 1) = c.s k := rfl
theorem Cn.co_g (c : Cn) (k : Nat) (h : k < 3) : c.co.g (k + 1) = c.i k := by
 obtain rfl | rfl | rfl : k = 0 ∨ k = 1 ∨ k = 2 := by omega
 all_goals rfl
theorem Cn.Ok.co_in {c : Cn} (h : c.Ok) : c.In c.co := by
 have h3 := h.n3
 refine ⟨fun k hk => ?_, fun k hk => ?_, fun k hk hk4 => ?_⟩
 ·cases k with
  | zero => exact h.st0
  | succ k =>
   rw [c.co_g k om0]
   by_cases hkn : k < c.n
   ·exact (h.i k hkn).1
   ·unfold Cn.i
    rw [List.getD_eq_getElem?_getD, List.getElem?_eq_none (by rw [h.len]; omega)]
    exact Int.le_refl _
 ·cases k with
  | zero => exact h.st1
  | succ k => rw [c.co_g k om0]; exact (h.i k om0).2
 ·cases k with
  | zero => omega
  | succ k =>
   rw [c.co_g k om0]
   unfold Cn.i
   rw [List.getD_eq_getElem?_getD, List.getElem?_eq_none (by rw [h.len]; omega)]
   rfl
theorem Cn.to_g (c : Cn) (x : Co) {f t k : Nat} (hf : f < 4) (ht : t < 4) (hk : k < 4) : (c.to x f t).g k = if k = t then x.g t + c.amt x f t else if k = f then x.g f - c.amt x f t else x.g k := by
 unfold Cn.to
 rw [Co.g_w _ _ ht hk, Co.g_w _ _ hf hk]
theorem Cn.In.to {c : Cn} {x : Co} {f t : Nat} (h : c.In x) (hn : c.n ≤ 3) (hf : f ≤ c.n) (ht : t ≤ c.n) (ha : 0 ≤ c.amt x f t) : c.In (c.to x f t) := by
 have hm : c.amt x f t ≤ x.g f ∧ c.amt x f t ≤ c.room t - x.g t := by unfold Cn.amt Cn.lack; omega
 have h0 := h.lo t om0
 refine ⟨fun k hk => ?_, fun k hk => ?_, fun k hk hk4 => ?_⟩
 ·rw [c.to_g x om0 om0 hk]
  have := h.lo k hk
  split
  ·omega
  ·split <;> omega
 ·rw [c.to_g x om0 om0 om0]
  split
  ·rename_i hkt; subst hkt; omega
  ·split
   ·rename_i hkf
    subst hkf
    have := h.hi k hk
    omega
   ·exact h.hi k hk
 ·rw [c.to_g x om0 om0 hk4, if_neg om0, if_neg om0]
  exact h.z k hk hk4
theorem Cn.canB_iff {c : Cn} {x : Co} {f t : Nat} : c.canB x f t = true ↔ (¬ (f = 0 ∧ x.g f < c.lack x t) ∧ ¬ (t = 0 ∧ c.lack x t < x.g f)) ∧ 0 < c.amt x f t := by
 unfold Cn.canB Cn.noB
 simp only [Bool.and_eq_true, Bool.not_eq_true', Bool.or_eq_false_iff, Bool.and_eq_false_iff, decide_eq_true_eq, decide_eq_false_iff_not]
 constructor
 ·rintro ⟨⟨h1, h2⟩, h3⟩; exact ⟨⟨by omega, by omega⟩, h3⟩
 ·rintro ⟨⟨h1, h2⟩, h3⟩; exact ⟨⟨by omega, by omega⟩, h3⟩
theorem Cn.of_i (c : Cn) (x : Co) (k : Nat) (h : k < c.n) (hn : c.n ≤ 3) : (c.of x).i k = x.g (k + 1) := by
 unfold Cn.i Cn.of
 obtain rfl | rfl | rfl : k = 0 ∨ k = 1 ∨ k = 2 := by omega
 all_goals
  obtain h1 | h1 | h1 : c.n = 1 ∨ c.n = 2 ∨ c.n = 3 := by omega
  all_goals first | omega | (simp only [h1]; rfl)
theorem Cn.of_len (c : Cn) (x : Co) (hn : c.n ≤ 3) : (c.of x).inn.length = c.n := by
 unfold Cn.of
 simp only [List.length_take, List.length_cons, List.length_nil]
 omega
theorem Cn.Ok.of {c : Cn} (h : c.Ok) {x : Co} (hx : c.In x) : (c.of x).Ok := by
 refine ⟨h.n1, h.n3, c.of_len x h.n3, hx.lo 0 dc, hx.hi 0 (Nat.zero_le _), h.s, fun k hk => ?_⟩
 have hk' : k < c.n := hk
 have := h.n3
 rw [c.of_i x k hk h.n3]
 exact ⟨hx.lo (k + 1) om0, hx.hi (k + 1) om0⟩
theorem Cn.Ok.co_of {c : Cn} (h : c.Ok) : c.of c.co = c := by
 obtain ⟨s, i, t⟩ := c
 have h1 := h.n1
 have h3 := h.n3
 have hl := h.len
 change i.length = s.length at hl
 unfold Cn.of Cn.co Cn.n Cn.i
 simp only [Cn.mk.injEq, and_true, true_and]
 rw [← hl]
 change s.length ≤ 3 at h3
 match i, hl with
 | [], _ => rfl
 | [_], _ => rfl
 | [_, _], _ => rfl
 | [_, _, _], _ => rfl
 | _ :: _ :: _ :: _ :: _, hl => simp only [List.length_cons] at hl; omega
def Cn.stp (c : Cn) (x : Co) (p : Po) : Co := c.to x p.f.toNat p.t.toNat
def Cn.pE (c : Cn) (x : Co) (p : Po) : Int := if c.vldB p then if c.canB x p.f.toNat p.t.toNat then 0 else 6 else 81
def Cn.runK (c : Cn) (l : List Po) : Nat → Co
 | 0 => c.co
 | k + 1 => c.stp (c.runK l k) (l.getD k Po.z)
def bk (x y : Co) : Int := max 0 (y.a - x.a)
def Cn.backK (c : Cn) (l : List Po) : Nat → Int
 | 0 => 0
 | k + 1 => c.backK l k + bk (c.runK l k) (c.runK l (k + 1))
def Cn.badK (c : Cn) (l : List Po) : Nat → Nat → Option Nat
 | _, 0 => none
 | k, m + 1 => if c.pE (c.runK l k) (l.getD k Po.z) = 0 then c.badK l (k + 1) m else some k
def Cn.zero : Cn := ⟨[], [], 0⟩
def Cn.err (c : Cn) : Int := if c.okB then 0 else 80
def Cn.bad (c : Cn) (l : List Po) : Option Nat := c.badK l 0 l.length
def Cn.plC (c : Cn) (l : List Po) : Cn := if c.okB then match c.bad l with | none => c.of (c.runK l l.length) | some _ => Cn.zero else Cn.zero
def Cn.plB (c : Cn) (l : List Po) : Int := if c.okB then match c.bad l with | none => c.backK l l.length | some _ => 0 else 0
def Cn.plA (c : Cn) (l : List Po) : Int := if c.okB then match c.bad l with | none => 0 | some k => (k : Int) else 0
def Cn.plE (c : Cn) (l : List Po) : Int := if c.okB then match c.bad l with | none => 0 | some k => c.pE (c.runK l k) (l.getD k Po.z) else 80
def Cn.poC (c : Cn) (p : Po) : Cn := if c.okB then if c.pE c.co p = 0 then c.of (c.stp c.co p) else Cn.zero else Cn.zero
def Cn.poE (c : Cn) (p : Po) : Int := if c.okB then c.pE c.co p else 80
theorem Cn.vld_iff {c : Cn} {p : Po} : c.vldB p = true ↔ (0 ≤ p.f ∧ p.f ≤ c.n) ∧ (0 ≤ p.t ∧ p.t ≤ c.n) ∧ p.f ≠ p.t := by
 unfold Cn.vldB
 simp only [Bool.and_eq_true, inB2, decide_eq_true_eq]
 constructor
 ·rintro ⟨⟨h1, h2⟩, h3⟩; exact ⟨h1, h2, h3⟩
 ·rintro ⟨h1, h2, h3⟩; exact ⟨⟨h1, h2⟩, h3⟩
theorem Cn.pE_zero {c : Cn} {x : Co} {p : Po} : c.pE x p = 0 ↔ c.vldB p = true ∧ c.canB x p.f.toNat p.t.toNat = true := by
 unfold Cn.pE
 split
 ·rename_i h; split
  ·rename_i h2; simp [h, h2]
  ·rename_i h2; simp [h2]
 ·rename_i h; simp [h]
theorem Cn.In.stp {c : Cn} {x : Co} {p : Po} (h : c.In x) (hn : c.n ≤ 3) (hp : c.pE x p = 0) : c.In (c.stp x p) := by
 obtain ⟨h1, h2⟩ := Cn.pE_zero.1 hp
 rw [Cn.vld_iff] at h1
 exact h.to hn om0 om0 (Int.le_of_lt (Cn.canB_iff.1 h2).2)
end Go.Proofs.YtjekjehgmljbgaaGreatDoor.T
namespace Go.Proofs.YtjekjehgmljbgaaGreatDoor.T
open Go.RowKit Go.Proofs Go.Eng
set_option maxRecDepth 100000
set_option maxHeartbeats 1000000
theorem fa158_0 : ∀ b o w, (Instr.fieldAt 158 (.pointer (some ⟨b, o, none⟩)) 0).run Tryz.prog w = .ok (.pointer (some ⟨b, o + 0, none⟩)) w := fun b o w => by kernel_rfl
theorem fa24_0 : ∀ b o w, (Instr.fieldAt 24 (.pointer (some ⟨b, o, none⟩)) 0).run Tryz.prog w = .ok (.pointer (some ⟨b, o + 0, none⟩)) w := fun b o w => by kernel_rfl
theorem fa24_1 : ∀ b o w, (Instr.fieldAt 24 (.pointer (some ⟨b, o, none⟩)) 1).run Tryz.prog w = .ok (.pointer (some ⟨b, o + 1, none⟩)) w := fun b o w => by kernel_rfl
theorem fa24_2 : ∀ b o w, (Instr.fieldAt 24 (.pointer (some ⟨b, o, none⟩)) 2).run Tryz.prog w = .ok (.pointer (some ⟨b, o + 2, none⟩)) w := fun b o w => by kernel_rfl
def firstP (p : Int → Bool) : List Int → Nat → Int
 | [], _ => -1
 | x :: l, k => if p x then (k : Int) else firstP p l (k + 1)
theorem firstP_step {p : Int → Bool} {xs : List Int} {k : Nat} (h : k < xs.length) :
  firstP p (xs.drop k) k = if p (xs.getD k 0) then (k : Int) else firstP p (xs.drop (k + 1)) (k + 1) := by
 rw [List.drop_eq_getElem_cons h]; simp [firstP, h, List.getD_eq_getElem?_getD]
theorem firstP_lt {p : Int → Bool} : ∀ {xs : List Int} {k : Nat}, decide (0 ≤ firstP p xs k) = xs.any p
 | [], _ => by simp [firstP]
 | x :: l, k => by
  have ih := firstP_lt (p := p) (xs := l) (k := k + 1)
  unfold firstP
  cases hx : p x
  ·simp only [Bool.false_eq_true, if_false, List.any_cons, hx, Bool.false_or, ih]
  ·simp [hx]
structure Tells (P : Program) (w : World) (fid : FuncId) (caps : List Value) (p : Int → Bool) : Prop where
 enter : ∀ args w, (callFunc fid args).run P w = .ok (.enter fid args) w
 call : ∀ x w', Below w.heap.size w w' → Ct P fid (Value.int .i64 x :: caps).toArray w' fun v _ => v = .bool (p x)
theorem Tells.st {C : Ctx} {H : List Blk} {fid : FuncId} {caps : List Value} {p : Int → Bool} (h : Tells C.P C.w0 fid caps p) (w : World) (hw : St C H w) : Tells C.P w fid caps p :=
 ⟨h.enter, fun x w' hb => h.call x w' (hw.1.trans (hb.mono hw.1.size))⟩
theorem ixP_any (fid : FuncId) (caps : List Value) (p : Int → Bool) (a : Option Addr) (n cap : Nat) (xs : List Int) (w : World) (hn : (n : Int) ≤ 9223372036854775806) (hx : Ints w a n cap xs) (hp : Tells Tryz.prog w fid caps p) :
  Ct Tryz.prog 124 #[.slice a n cap, .func (.func fid) #[] caps.toArray] w fun v _ => v = .int .i64 (firstP p xs 0) := by
 have hl := hx.len
 have hF := wide_wide
 refine Ct_start (args := [_, _]) Tryz.func124 rf Tryz.ntmps124 rf ?_
 refine zR fun ds => ?_
 refine za (.int .i64 _) hF ?_
 refine zO ?_
 refine zR fun ds => ?_
 refine zm (.slice _ _ _) hF ?_
 refine zD hF (y_len rf Tryz.runUnderlying22) ?_
 refine zm (.int .i64 _) hF ?_
 refine zN ?_
 refine W_block ?_
 refine W_loop (γ := Nat) (fun k => k ≤ n ∧ firstP p (xs.drop k) k = firstP p xs 0) (fun k => [(8, .int .i64 (k : Int)), (7, .int .i64 (n : Int)), (0, .slice a n cap), (1, .func (.func fid) #[] caps.toArray)]) (fun _ => _) (fun k => n - k) (0) ⟨Nat.zero_le _, by simp⟩ s10 (List.Sublist.refl _) ?_
 intro k e hk
 refine zR fun ds => ?_
 refine zD hF (y_lss rf rf) ?_
 refine zO ?_
 refine W_cond rf (fun c2 => ?_) (fun c2 => ?_)
 ·
  try simp only [qz1, qz2, qz3, qz4, qz5, qz6, qz7, qz8] at c2
  obtain ⟨b, o, rfl, hc⟩ := hx.cell k om0
  refine zU ?_
  refine W_seq ?_
  refine W_block ?_
  refine zR fun ds => ?_
  refine zm (.int .i64 _) hF ?_
  refine za (.int .i64 _) hF ?_
  refine zP fun ds => ?_
  refine zm (_) hF ?_
  refine zm (.slice _ _ _) hF ?_
  refine zm (.int .i64 _) hF ?_
  refine zD hF (y_index (k := k) rf rf r1 d10 Tryz.runUnderlying22 Tryz.sizeOf3) ?_
  refine zD hF (y_load1 rf Tryz.isAgg3 zo) ?_
  refine zD hF (y_callL (first := []) (captured := caps) rf rf hp.enter (fun w hw => hp.call _ w hw.1)) ?_
  refine zN ?_
  refine W_cond rf (fun c4 => ?_) (fun c4 => ?_)
  ·
   try simp only [qz1, qz2, qz3, qz4, qz5, qz6, qz7, qz8] at c4
   refine zR fun ds => ?_
   refine zm (.int .i64 _) hF ?_
   refine za (.int .i64 _) hF ?_
   refine zN ?_
   refine W_ret ?_
   refine InB_ret ?_
   refine Then_ret ?_
   refine Loop_ret ?_
   refine InB_ret ?_
   refine Then_ret ?_
   refine Fin_ret [.int .i64 _] [] Tryz.results124 ⟨by rfl, trivial⟩ HSub.nil ?_
   show _ = _
   rw [firstP_step om0, c4] at hk
   simp [tupOf, ← hk.2]
  ·
   try simp only [qz1, qz2, qz3, qz4, qz5, qz6, qz7, qz8] at c4
   refine W_skip ?_
   refine InB_normal ?_
   refine zT fun ds => ?_
   refine zD hF (y_add rf rf ui) ?_
   refine zm (.int .i64 _) hF ?_
   refine WS_nil ?_
   exact Loop_next (k + 1) ⟨by omega, by rw [firstP_step om0, c4] at hk; exact hk.2⟩ s10 s20 om0
 ·
  try simp only [qz1, qz2, qz3, qz4, qz5, qz6, qz7, qz8] at c2
  refine W_exit ?_
  refine Then_exit ?_
  refine Loop_exit ?_
  refine InB_same ?_
  refine zS fun ds => ?_
  refine za (.int .i64 _) hF ?_
  refine zN ?_
  refine W_ret ?_
  refine Fin_ret [.int .i64 _] [] Tryz.results124 ⟨by rfl, trivial⟩ HSub.nil ?_
  show _ = _
  obtain rfl : k = n := by omega
  rw [← hk.2, ← hl]; simp [tupOf, firstP]
theorem ctP_any (fid : FuncId) (caps : List Value) (p : Int → Bool) (a : Option Addr) (n cap : Nat) (xs : List Int) (w : World) (hn : (n : Int) ≤ 9223372036854775806) (hx : Ints w a n cap xs) (hp : Tells Tryz.prog w fid caps p) :
  Ct Tryz.prog 97 #[.slice a n cap, .func (.func fid) #[] caps.toArray] w fun v _ => v = .bool (xs.any p) := by
 have hF := wide_wide
 refine Ct_start (args := [_, _]) Tryz.func97 rf Tryz.ntmps97 rf ?_
 refine zR fun ds => ?_
 refine za (.bool _) hF ?_
 refine zP fun ds => ?_
 refine zm (.slice _ _ _) hF ?_
 refine zm (_) hF ?_
 refine zD hF (y_callL rf rf Tryz.call124 (fun w hw => ixP_any fid caps p a n cap xs w hn (hx.st w hw) (hp.st w hw))) ?_
 refine zD hF (y_geq rf rf) ?_
 refine za (.bool _) hF ?_
 refine zN ?_
 refine W_ret ?_
 refine Fin_ret [.bool _] [] Tryz.results97 ⟨by rfl, trivial⟩ HSub.nil ?_
 show Value.bool _ = _
 rw [firstP_lt]
theorem cin1_any (n lo hi : Int) (p q o1 o2 : Nat) (w : World) (h1 : At w p o1 [.int .i64 lo]) (h2 : At w q o2 [.int .i64 hi]) :
  Ct Tryz.prog 98 #[.int .i64 n, .pointer (some ⟨p, o1, none⟩), .pointer (some ⟨q, o2, none⟩)] w fun v _ => v = .bool (outB lo hi n) := by
 have hF := wide_wide
 refine Ct_start (args := [_, _, _]) Tryz.func98 rf Tryz.ntmps98 rf ?_
 refine zR fun ds => ?_
 refine za (.bool _) hF ?_
 refine zP fun ds => ?_
 refine zm (.int .i64 _) hF ?_
 refine zD hF (y_load1 rf Tryz.isAgg3 zo) ?_
 refine zD hF (y_lss rf rf) ?_
 refine zm (.bool _) hF ?_
 refine WS_split 8 rf (fun g1_3 => ?_) (fun g1_3 => ?_)
 ·
  try simp only [qz1, qz2, qz3, qz4, qz5, qz6, qz7, qz8] at g1_3
  refine zno hF ?_
  refine zno hF ?_
  refine zno hF ?_
  refine zD hF (zpk (.bool _)) ?_
  refine za (.bool _) hF ?_
  refine zN ?_
  refine W_ret ?_
  refine Fin_ret [.bool _] [] Tryz.results98 ⟨by rfl, trivial⟩ HSub.nil ?_
  show _ = _
  simp [tupOf, outB, *] <;> omega
 ·
  try simp only [qz1, qz2, qz3, qz4, qz5, qz6, qz7, qz8] at g1_3
  refine zm (.int .i64 _) hF ?_
  refine zD hF (y_load1 rf Tryz.isAgg3 zo) ?_
  refine zD hF (y_gtr rf rf) ?_
  refine zD hF (zpk (.bool _)) ?_
  refine za (.bool _) hF ?_
  refine zN ?_
  refine W_ret ?_
  refine Fin_ret [.bool _] [] Tryz.results98 ⟨by rfl, trivial⟩ HSub.nil ?_
  show _ = _
  simp [tupOf, outB, *] <;> omega
theorem cin_any (a : Option Addr) (n cap : Nat) (xs : List Int) (lo hi : Int) (w : World) (hn : (n : Int) ≤ 9223372036854775806) (hx : Ints w a n cap xs) :
  Ct Tryz.prog 52 #[.int .i64 lo, .int .i64 hi, .slice a n cap] w fun v _ => v = .bool (inB lo hi xs) := by
 have hF := wide_wide
 refine Ct_start (args := [_, _, _]) Tryz.func52 rf Tryz.ntmps52 rf ?_
 refine zR fun ds => ?_
 refine WS_new hF rf (y_box rf) (fun b1 => ?_)
 refine WS_new hF rf (y_box rf) (fun b2 => ?_)
 refine za (.bool _) hF ?_
 refine zP fun ds => ?_
 refine zm (.slice _ _ _) hF ?_
 refine zD hF (y_makeFuncL rf rf) ?_
 refine zD hF (y_callL rf rf Tryz.call97 (fun w hw => ctP_any 98 [_, _] (outB lo hi) a n cap xs w hn (hx.st w hw) ⟨Tryz.call98, fun x w' hb => cin1_any x lo hi _ _ 0 0 w' (At.old hb (Mem.own1 1 rfl rfl w hw)) (At.old hb (Mem.own1 0 rfl rfl w hw))⟩)) ?_
 refine zD hF (y_not rf) ?_
 refine za (.bool _) hF ?_
 refine zN ?_
 refine W_ret ?_
 refine Fin_ret [.bool _] [] Tryz.results52 ⟨by rfl, trivial⟩ HSub.nil ?_
 show Value.bool _ = _
 rw [inB_any]
def Cn.chkB (c : Cn) : Nat → Bool
 | 0 => inB 1 3 [(c.n : Int)] && decide (c.inn.length = c.n)
 | 1 => inB 1 20 c.sz && inB 0 600 [c.st]
 | _ => c.fitB c.n
theorem chk1_any (c : Cn) (a1 : Option Addr) (p1 : Nat) (a2 : Option Addr) (p2 : Nat) (w : World) (hn : c.n ≤ 1000000) (hm : c.inn.length ≤ 1000000) (h1 : Ints w a1 c.n p1 c.sz) (h2 : Ints w a2 c.inn.length p2 c.inn) : Ct Tryz.prog 190 #[.agg #[.slice a1 c.n p1, .slice a2 c.inn.length p2, .int .i64 c.st]] w fun v _ => v = .bool (c.chkB 0) := by
 have hF := wide_wide
 refine Ct_start (args := [_]) Tryz.func190 rf Tryz.ntmps190 rf ?_
 refine zR fun ds => ?_
 refine WS_new hF rf (y_box rf) (fun b1 => ?_)
 refine za (.bool _) hF ?_
 refine zP fun ds => ?_
 refine zD hF (y_fieldAddr rf fa24_0) ?_
 refine zD hF (y_load1 rf Tryz.isAgg22 (Mem.own1 0 rf rf)) ?_
 refine zD hF (y_len rf Tryz.runUnderlying22) ?_
 refine WS_newS hF rf (y_buildSliceL bs22_1_0 rf) (fun b2 => ?_)
 refine zD hF (y_callL rf rf Tryz.call52 (fun w hw => cin_any _ _ _ _ _ _ w dc (by first | exact Ints.one 0 rfl w hw | exact Ints.two 0 rfl w hw))) ?_
 refine zm (.bool _) hF ?_
 refine WS_split 8 rf (fun g1_5 => ?_) (fun g1_5 => ?_)
 ·
  try simp only [qz1, qz2, qz3, qz4, qz5, qz6, qz7, qz8] at g1_5
  refine zD hF (y_fieldAddr rf fa24_1) ?_
  refine zD hF (y_load1 rf Tryz.isAgg22 (Mem.own1 1 rf rf)) ?_
  refine zD hF (y_len rf Tryz.runUnderlying22) ?_
  refine zD hF (y_fieldAddr rf fa24_0) ?_
  refine zD hF (y_load1 rf Tryz.isAgg22 (Mem.own1 1 rf rf)) ?_
  refine zD hF (y_len rf Tryz.runUnderlying22) ?_
  refine zD hF (y_eql rf rf) ?_
  refine zD hF (zpk (.bool _)) ?_
  refine za (.bool _) hF ?_
  refine zN ?_
  refine W_ret ?_
  refine Fin_ret [.bool _] [] Tryz.results190 ⟨by rfl, trivial⟩ HSub.nil ?_
  show Value.bool _ = _
  unfold Cn.chkB
  simp [*] <;> omega
 ·
  try simp only [qz1, qz2, qz3, qz4, qz5, qz6, qz7, qz8] at g1_5
  refine zno hF ?_
  refine zno hF ?_
  refine zno hF ?_
  refine zno hF ?_
  refine zno hF ?_
  refine zno hF ?_
  refine zno hF ?_
  refine zD hF (zpk (.bool _)) ?_
  refine za (.bool _) hF ?_
  refine zN ?_
  refine W_ret ?_
  refine Fin_ret [.bool _] [] Tryz.results190 ⟨by rfl, trivial⟩ HSub.nil ?_
  show Value.bool _ = _
  unfold Cn.chkB
  simp [*] <;> omega
theorem chk2_any (c : Cn) (a1 : Option Addr) (p1 : Nat) (a2 : Option Addr) (p2 : Nat) (w : World) (hn : c.n ≤ 1000000) (hm : c.inn.length ≤ 1000000) (h1 : Ints w a1 c.n p1 c.sz) (h2 : Ints w a2 c.inn.length p2 c.inn) : Ct Tryz.prog 191 #[.agg #[.slice a1 c.n p1, .slice a2 c.inn.length p2, .int .i64 c.st]] w fun v _ => v = .bool (c.chkB 1) := by
 have hF := wide_wide
 refine Ct_start (args := [_]) Tryz.func191 rf Tryz.ntmps191 rf ?_
 refine zR fun ds => ?_
 refine WS_new hF rf (y_box rf) (fun b1 => ?_)
 refine za (.bool _) hF ?_
 refine zP fun ds => ?_
 refine zD hF (y_fieldAddr rf fa24_0) ?_
 refine zD hF (y_load1 rf Tryz.isAgg22 (Mem.own1 0 rf rf)) ?_
 refine zD hF (y_callL rf rf Tryz.call52 (fun w hw => cin_any _ _ _ _ _ _ w om0 (h1.st w hw))) ?_
 refine zm (.bool _) hF ?_
 refine WS_split 6 rf (fun g1_3 => ?_) (fun g1_3 => ?_)
 ·
  try simp only [qz1, qz2, qz3, qz4, qz5, qz6, qz7, qz8] at g1_3
  refine zD hF (y_fieldAddr rf fa24_2) ?_
  refine zD hF (y_load1 rf Tryz.isAgg3 (Mem.own1 0 rf rf)) ?_
  refine WS_newS hF rf (y_buildSliceL bs22_1_0 rf) (fun b2 => ?_)
  refine zD hF (y_callL rf rf Tryz.call52 (fun w hw => cin_any _ _ _ _ _ _ w dc (by first | exact Ints.one 0 rfl w hw | exact Ints.two 0 rfl w hw))) ?_
  refine zD hF (zpk (.bool _)) ?_
  refine za (.bool _) hF ?_
  refine zN ?_
  refine W_ret ?_
  refine Fin_ret [.bool _] [] Tryz.results191 ⟨by rfl, trivial⟩ HSub.nil ?_
  show Value.bool _ = _
  unfold Cn.chkB
  simp [*]
 ·
  try simp only [qz1, qz2, qz3, qz4, qz5, qz6, qz7, qz8] at g1_3
  refine zno hF ?_
  refine zno hF ?_
  refine zno hF ?_
  refine zno hF ?_
  refine zD hF (zpk (.bool _)) ?_
  refine za (.bool _) hF ?_
  refine zN ?_
  refine W_ret ?_
  refine Fin_ret [.bool _] [] Tryz.results191 ⟨by rfl, trivial⟩ HSub.nil ?_
  show Value.bool _ = _
  unfold Cn.chkB
  simp [*]
theorem chk3_any (c : Cn) (a1 : Option Addr) (p1 : Nat) (a2 : Option Addr) (p2 : Nat) (w : World) (hl : c.inn.length = c.n) (hn : c.n ≤ 1000000) (hm : c.inn.length ≤ 1000000) (h1 : Ints w a1 c.n p1 c.sz) (h2 : Ints w a2 c.inn.length p2 c.inn) : Ct Tryz.prog 192 #[.agg #[.slice a1 c.n p1, .slice a2 c.inn.length p2, .int .i64 c.st]] w fun v _ => v = .bool (c.chkB 2) := by
 have hF := wide_wide
 refine Ct_start (args := [_]) Tryz.func192 rf Tryz.ntmps192 rf ?_
 refine zR fun ds => ?_
 refine WS_new hF rf (y_box rf) (fun b1 => ?_)
 refine za (.bool _) hF ?_
 refine zO ?_
 refine zR fun ds => ?_
 refine zD hF (y_fieldAddr rf fa24_0) ?_
 refine zD hF (y_load1 rf Tryz.isAgg22 (Mem.own1 0 rf rf)) ?_
 refine zD hF (y_len rf Tryz.runUnderlying22) ?_
 refine zm (.int .i64 _) hF ?_
 refine zN ?_
 refine W_block ?_
 refine W_loop (γ := Nat) (fun k => k ≤ c.n ∧ c.fitB k = true) (fun k => [(1, .pointer (some ⟨b1, 0, none⟩)), (6, .slice a1 c.n p1), (7, .int .i64 (c.n : Int)), (8, .int .i64 (k : Int))]) (fun _ => _) (fun k => c.n - k) (0) ⟨Nat.zero_le _, rfl⟩ s10 (List.Sublist.refl _) ?_
 rintro k e ⟨hk, hfit⟩
 refine zR fun ds => ?_
 refine zD hF (y_lss rf rf) ?_
 refine zO ?_
 refine W_cond rf (fun c2 => ?_) (fun c2 => ?_)
 ·
  try simp only [qz1, qz2, qz3, qz4, qz5, qz6, qz7, qz8] at c2
  obtain ⟨b, o, rfl, hc⟩ := h1.cell k om0
  obtain ⟨b', o', rfl, hc'⟩ := h2.cell k om0
  change At w b _ [.int .i64 (c.s k)] at hc
  change At w b' _ [.int .i64 (c.i k)] at hc'
  refine zU ?_
  refine W_seq ?_
  refine W_block ?_
  refine zR fun ds => ?_
  refine zm (.int .i64 _) hF ?_
  refine zD hF (y_index (k := k) rf rf r1 d10 Tryz.runUnderlying22 Tryz.sizeOf3) ?_
  refine zD hF (y_load1 rf Tryz.isAgg3 zo) ?_
  refine za (.int .i64 _) hF ?_
  refine za (.int .i64 _) hF ?_
  refine zP fun ds => ?_
  refine zm (.int .i64 _) hF ?_
  refine zD hF (y_fieldAddr rf fa24_1) ?_
  refine zD hF (y_load1 rf Tryz.isAgg22 (Mem.own1 0 rf rf)) ?_
  refine zm (.int .i64 _) hF ?_
  refine zD hF (y_index (k := k) rf rf r1 d10 Tryz.runUnderlying22 Tryz.sizeOf3) ?_
  refine zD hF (y_load1 rf Tryz.isAgg3 zo) ?_
  refine WS_newS hF rf (y_buildSliceL bs22_1_0 rf) (fun b2 => ?_)
  refine zD hF (y_callL rf rf Tryz.call52 (fun w hw => cin_any _ _ _ _ _ _ w dc (by first | exact Ints.one 0 rfl w hw | exact Ints.two 0 rfl w hw))) ?_
  refine zD hF (y_not rf) ?_
  refine zN ?_
  refine W_cond rf (fun c4 => ?_) (fun c4 => ?_)
  ·
   try simp only [qz1, qz2, qz3, qz4, qz5, qz6, qz7, qz8] at c4
   refine zR fun ds => ?_
   refine za (.bool _) hF ?_
   refine zN ?_
   refine W_ret ?_
   refine InB_ret ?_
   refine Then_ret ?_
   refine Loop_ret ?_
   refine InB_ret ?_
   refine Then_ret ?_
   refine Fin_ret [.bool _] [] Tryz.results192 ⟨by rfl, trivial⟩ HSub.nil ?_
   show Value.bool _ = _
   exact congrArg Value.bool (Cn.fitB_false (k := k) om0 c4).symm
  ·
   try simp only [qz1, qz2, qz3, qz4, qz5, qz6, qz7, qz8] at c4
   refine W_skip ?_
   refine InB_normal ?_
   refine zT fun ds => ?_
   refine zD hF (y_add rf rf ui) ?_
   refine zm (.int .i64 _) hF ?_
   refine WS_nil ?_
   exact Loop_next (k + 1) ⟨by omega, by rw [c.fitB_succ, hfit, c4]; rfl⟩ s10 s20 om0
 ·
  try simp only [qz1, qz2, qz3, qz4, qz5, qz6, qz7, qz8] at c2
  refine W_exit ?_
  refine Then_exit ?_
  refine Loop_exit ?_
  refine InB_same ?_
  refine zS fun ds => ?_
  refine za (.bool _) hF ?_
  refine zN ?_
  refine W_ret ?_
  refine Fin_ret [.bool _] [] Tryz.results192 ⟨by rfl, trivial⟩ HSub.nil ?_
  show Value.bool _ = _
  obtain rfl : k = c.n := by omega
  exact congrArg Value.bool hfit.symm
def chkF : Nat → FuncId
 | 0 => 190
 | 1 => 191
 | _ => 192
def chkV : List Value := [.func (.func 190) #[] #[], .func (.func 191) #[] #[], .func (.func 192) #[] #[]]
def Gv (w : World) : Prop := At w 0 0 chkV
theorem Gv.st {C : Ctx} {H : List Blk} (h : Gv C.w0) (w : World) (hw : St C H w) : Gv w := At.old hw.1 h
theorem chk_enter (k : Nat) : ∀ args w, (callFunc (chkF k) args).run Tryz.prog w = .ok (.enter (chkF k) args) w := by
 match k with
 | 0 => exact Tryz.call190
 | 1 => exact Tryz.call191
 | _ + 2 => exact Tryz.call192
theorem chk_part (k : Nat) (hk : k < 3) : ∀ w, (part 158 chkV.toArray (k * 1)).run Tryz.prog w = .ok (.agg #[.func (.func (chkF k)) #[] #[]]) w := by
 obtain rfl | rfl | rfl : k = 0 ∨ k = 1 ∨ k = 2 := by omega
 all_goals exact fun w => by kernel_rfl
theorem chk_any (k : Nat) (hk : k < 3) (c : Cn) (a1 : Option Addr) (p1 : Nat) (a2 : Option Addr) (p2 : Nat) (w : World) (hj : ∀ j, j < k → c.chkB j = true) (hn : c.n ≤ 1000000) (hm : c.inn.length ≤ 1000000) (h1 : Ints w a1 c.n p1 c.sz) (h2 : Ints w a2 c.inn.length p2 c.inn) : Ct Tryz.prog (chkF k) #[.agg #[.slice a1 c.n p1, .slice a2 c.inn.length p2, .int .i64 c.st]] w fun v _ => v = .bool (c.chkB k) := by
 obtain rfl | rfl | rfl : k = 0 ∨ k = 1 ∨ k = 2 := by omega
 ·exact chk1_any c a1 p1 a2 p2 w hn hm h1 h2
 ·exact chk2_any c a1 p1 a2 p2 w hn hm h1 h2
 ·refine chk3_any c a1 p1 a2 p2 w ?_ hn hm h1 h2
  have := hj 0 dc
  unfold Cn.chkB at this
  simp only [Bool.and_eq_true, decide_eq_true_eq] at this
  exact this.2
theorem Cn.okB_chk (c : Cn) : c.okB = (c.chkB 0 && c.chkB 1 && c.chkB 2) := rfl
theorem Cn.err_bad {c : Cn} {k : Nat} (hk : k < 3) (h : c.chkB k = false) : c.err = 80 := by
 unfold Cn.err
 rw [c.okB_chk]
 obtain rfl | rfl | rfl : k = 0 ∨ k = 1 ∨ k = 2 := by omega
 all_goals simp [h]
theorem Cn.err_ok {c : Cn} (h : ∀ j, j < 3 → c.chkB j = true) : c.err = 0 := by
 unfold Cn.err
 rw [c.okB_chk, h 0 dc, h 1 dc, h 2 dc]
 rfl
theorem ccheck_any (c : Cn) (a1 : Option Addr) (p1 : Nat) (a2 : Option Addr) (p2 : Nat) (w : World) (hG : Gv w) (hn : c.n ≤ 1000000) (hm : c.inn.length ≤ 1000000) (h1 : Ints w a1 c.n p1 c.sz) (h2 : Ints w a2 c.inn.length p2 c.inn) : Ct Tryz.prog 47 #[.agg #[.slice a1 c.n p1, .slice a2 c.inn.length p2, .int .i64 c.st]] w fun v _ => v = .int .i64 c.err := by
 have hG0 : At w 0 0 chkV := hG
 have hF := wide_wide
 refine Ct_start (args := [_]) Tryz.func47 rf Tryz.ntmps47 rf ?_
 refine zR fun ds => ?_
 refine WS_new hF rf (y_box rf) (fun b1 => ?_)
 refine za (.int .i64 _) hF ?_
 refine zO ?_
 refine zR fun ds => ?_
 refine zD hF (y_loadN rf Tryz.isAgg159 Tryz.sizeOf159 (zq [_, _, _]) rf) ?_
 refine zm (.int .i64 _) hF ?_
 refine zN ?_
 refine W_block ?_
 refine W_loop (γ := Nat) (fun k => k ≤ 3 ∧ ∀ j, j < k → c.chkB j = true) (fun k => [(1, .pointer (some ⟨b1, 0, none⟩)), (5, .agg chkV.toArray), (6, .int .i64 (k : Int))]) (fun _ => _) (fun k => 3 - k) (0) ⟨Nat.zero_le _, fun j h => absurd h (Nat.not_lt_zero _)⟩ s10 (List.Sublist.refl _) ?_
 rintro k e ⟨hk, hj⟩
 refine zR fun ds => ?_
 refine zD hF (y_lss rf rf) ?_
 refine zO ?_
 refine W_cond rf (fun c2 => ?_) (fun c2 => ?_)
 ·
  try simp only [qz1, qz2, qz3, qz4, qz5, qz6, qz7, qz8] at c2
  refine zU ?_
  refine W_seq ?_
  refine W_block ?_
  refine zR fun ds => ?_
  refine zD hF (y_indexV (k := k) rf rf rf om0 Tryz.runUnderlying159 Tryz.sizeOf158 (chk_part k om0)) ?_
  refine WS_new hF rf (y_alloc Tryz.zeroValue158 rf) (fun b2 => ?_)
  refine WS_store hF (i := 0) rf rf Tryz.sizeOf158 rf rf rf d20 ?_
  refine zP fun ds => ?_
  refine zD hF (y_fieldAddr rf fa158_0) ?_
  refine zD hF (y_load1 rf Tryz.isAgg27 (Mem.own1 0 rf rf)) ?_
  refine zD hF (y_loadN rf Tryz.isAgg24 Tryz.sizeOf24 (Mem.own (us := [.slice _ _ _, .slice _ _ _, .int .i64 _]) 1 rf rf) rf) ?_
  refine zD hF (y_callL (first := []) (captured := []) rf rf (chk_enter k) (fun w hw => chk_any k om0 c a1 p1 a2 p2 w hj hn hm (h1.st w hw) (h2.st w hw))) ?_
  refine zD hF (y_not rf) ?_
  refine zN ?_
  refine W_cond rf (fun c4 => ?_) (fun c4 => ?_)
  ·
   try simp only [qz1, qz2, qz3, qz4, qz5, qz6, qz7, qz8] at c4
   refine zR fun ds => ?_
   refine za (.int .i64 _) hF ?_
   refine zN ?_
   refine W_ret ?_
   refine InB_ret ?_
   refine Then_ret ?_
   refine Loop_ret ?_
   refine InB_ret ?_
   refine Then_ret ?_
   refine Fin_ret [.int .i64 _] [] Tryz.results47 ⟨by rfl, trivial⟩ HSub.nil ?_
   show Value.int _ _ = _
   rw [Cn.err_bad om0 c4]
  ·
   try simp only [qz1, qz2, qz3, qz4, qz5, qz6, qz7, qz8] at c4
   refine W_skip ?_
   refine InB_normal ?_
   refine zT fun ds => ?_
   refine zD hF (y_add rf rf ui) ?_
   refine zm (.int .i64 _) hF ?_
   refine WS_nil ?_
   exact Loop_next (k + 1) ⟨by omega, fun j hj2 => by by_cases h : j = k; (subst h; exact c4); exact hj j om0⟩ s10 s20 om0
 ·
  try simp only [qz1, qz2, qz3, qz4, qz5, qz6, qz7, qz8] at c2
  refine W_exit ?_
  refine Then_exit ?_
  refine Loop_exit ?_
  refine InB_same ?_
  refine zS fun ds => ?_
  refine za (.int .i64 _) hF ?_
  refine zN ?_
  refine W_ret ?_
  refine Fin_ret [.int .i64 _] [] Tryz.results47 ⟨by rfl, trivial⟩ HSub.nil ?_
  show Value.int _ _ = _
  rw [Cn.err_ok fun j h => hj j om0]
theorem bd24_0_1_2 {x0a : Option Addr} {x0l x0c : Nat} {x1a : Option Addr} {x1l x1c : Nat} {x2 : Int} : ∀ w, (Instr.build 24 #[(0, .slice x0a x0l x0c), (1, .slice x1a x1l x1c), (2, .int .i64 x2)]).run Tryz.prog w = .ok (.agg #[.slice x0a x0l x0c, .slice x1a x1l x1c, .int .i64 x2]) w := fun w => by kernel_rfl
theorem fa47_0 : ∀ b o w, (Instr.fieldAt 47 (.pointer (some ⟨b, o, none⟩)) 0).run Tryz.prog w = .ok (.pointer (some ⟨b, o + 0, none⟩)) w := fun b o w => by kernel_rfl
theorem fa47_1 : ∀ b o w, (Instr.fieldAt 47 (.pointer (some ⟨b, o, none⟩)) 1).run Tryz.prog w = .ok (.pointer (some ⟨b, o + 1, none⟩)) w := fun b o w => by kernel_rfl
theorem sameInts2_any (a a' : Option Addr) (n n' cap cap' : Nat) (xs ys : List Int) (w : World) (hn : n ≤ 1000000) (hx : Ints w a n cap xs) (hy : Ints w a' n' cap' ys) :
  Ct Tryz.prog 23 #[.slice a n cap, .slice a' n' cap'] w fun v _ => v = .bool (decide (xs = ys)) := by
 have hF := wide_wide
 refine Ct_start (args := [_, _]) Tryz.func23 rf Tryz.ntmps23 rf ?_
 refine zR fun ds => ?_
 refine za (.bool _) hF ?_
 refine zO ?_
 refine zR fun ds => ?_
 refine zm (.slice _ _ _) hF ?_
 refine zD hF (y_len rf Tryz.runUnderlying22) ?_
 refine zm (.slice _ _ _) hF ?_
 refine zD hF (y_len rf Tryz.runUnderlying22) ?_
 refine zD hF (y_neq rf rf) ?_
 refine zN ?_
 refine W_cond rf (fun c1 => ?_) (fun c1 => ?_)
 ·
  try simp only [qz1, qz2, qz3, qz4, qz5, qz6, qz7, qz8] at c1
  refine zR fun ds => ?_
  refine za (.bool _) hF ?_
  refine zN ?_
  refine W_ret ?_
  refine Then_ret ?_
  refine Fin_ret [.bool _] [] Tryz.results23 ⟨by rfl, trivial⟩ HSub.nil ?_
  show Value.bool _ = _
  rw [decide_eq_false]
  intro h
  have h1 := hx.len
  have h2 := hy.len
  rw [h] at h1
  omega
 ·
  try simp only [qz1, qz2, qz3, qz4, qz5, qz6, qz7, qz8] at c1
  obtain rfl : n = n' := by omega
  refine zU ?_
  refine W_seq ?_
  refine zR fun ds => ?_
  refine za (.int .i64 _) hF ?_
  refine zN ?_
  refine W_block ?_
  refine W_loop (γ := Nat) (fun k => k ≤ n ∧ ∀ j, j < k → xs.getD j 0 = ys.getD j 0) (fun k => [(5, .int .i64 (k : Int)), (0, .slice a n cap), (1, .slice a' n cap')]) (fun _ => _) (fun k => n - k) (0) ⟨Nat.zero_le _, fun j h => absurd h (Nat.not_lt_zero _)⟩ s10 (List.Sublist.refl _) ?_
  rintro k e ⟨hk, hj⟩
  refine W_seq ?_
  refine zR fun ds => ?_
  refine zm (.int .i64 _) hF ?_
  refine zm (.slice _ _ _) hF ?_
  refine zD hF (y_len rf Tryz.runUnderlying22) ?_
  refine zD hF (y_lss rf rf) ?_
  refine zN ?_
  refine W_cond rf (fun c4 => ?_) (fun c4 => ?_)
  ·
   try simp only [qz1, qz2, qz3, qz4, qz5, qz6, qz7, qz8] at c4
   obtain ⟨b, o, rfl, h1⟩ := hx.cell k om0
   obtain ⟨b', o', rfl, h2⟩ := hy.cell k om0
   refine zU ?_
   refine W_seq ?_
   refine W_block ?_
   refine W_seq ?_
   refine W_draw0 hF Tryzmixed [] dk0 (fun ds => ?_)
   refine P_det rf (Over_nil (y_move (c := .slice _ _ _) rf)) ?_
   refine P_det rf (Over_nil (y_move (c := .int .i64 _) rf)) ?_
   refine P_det rf (Over_nil (y_index (k := k) rf rf r1 d10 Tryz.runUnderlying22 Tryz.sizeOf3)) ?_
   refine P_det rf (Over_nil (y_load1 rf Tryz.isAgg3 zo)) ?_
   refine P_det rf (Over_nil (y_move (c := .slice _ _ _) rf)) ?_
   refine P_det rf (Over_nil (y_move (c := .int .i64 _) rf)) ?_
   refine P_det rf (Over_nil (y_index (k := k) rf rf r1 d10 Tryz.runUnderlying22 Tryz.sizeOf3)) ?_
   refine P_det rf (Over_nil (y_load1 rf Tryz.isAgg3 zo)) ?_
   refine P_det rf (Over_nil (y_neq rf rf)) ?_
   refine PW_end rf ?_
   refine OverAll_nil ?_
   rintro -
   refine Then_normal ?_
   refine W_cond rf (fun c6 => ?_) (fun c6 => ?_)
   ·
    try simp only [qz1, qz2, qz3, qz4, qz5, qz6, qz7, qz8] at c6
    refine zR fun ds => ?_
    refine za (.bool _) hF ?_
    refine zN ?_
    refine W_ret ?_
    refine InB_ret ?_
    refine Then_ret ?_
    refine Loop_ret ?_
    refine InB_ret ?_
    refine Then_ret ?_
    refine Fin_ret [.bool _] [] Tryz.results23 ⟨by rfl, trivial⟩ HSub.nil ?_
    show Value.bool _ = _
    rw [decide_eq_false]
    intro h
    exact c6 (by rw [h])
   ·
    try simp only [qz1, qz2, qz3, qz4, qz5, qz6, qz7, qz8] at c6
    refine W_skip ?_
    refine InB_normal ?_
    refine zT fun ds => ?_
    refine zm (.int .i64 _) hF ?_
    refine zD hF (y_add rf rf ui) ?_
    refine za (.int .i64 _) hF ?_
    refine WS_nil ?_
    exact Loop_next (k + 1) ⟨by omega, fun j h => by by_cases hjk : j = k; (subst hjk; exact c6); exact hj j om0⟩ s10 s20 om0
  ·
   try simp only [qz1, qz2, qz3, qz4, qz5, qz6, qz7, qz8] at c4
   refine W_exit ?_
   refine Then_exit ?_
   refine Loop_exit ?_
   refine InB_same ?_
   refine zS fun ds => ?_
   refine za (.bool _) hF ?_
   refine zN ?_
   refine W_ret ?_
   refine Fin_ret [.bool _] [] Tryz.results23 ⟨by rfl, trivial⟩ HSub.nil ?_
   show Value.bool _ = _
   rw [decide_eq_true]
   have hkn : k = n := by omega
   subst hkn
   refine List.ext_getElem (hx.len.trans hy.len.symm) fun j h1 h2 => ?_
   have := hj j (by rw [← hx.len]; exact h1)
   simpa [List.getD_eq_getElem?_getD, h1, h2] using this
def TwinC (c : Cn) (v : Value) (Hn : List Blk) : Prop :=
 ∃ b1 q1 b2 q2 H1 H2, v = .agg #[.slice b1 c.n q1, .slice b2 c.inn.length q2, .int .i64 c.st] ∧ NewRow 3 1 c.n (iv c.sz) (.slice b1 c.n q1) H1 ∧ NewRow 3 1 c.inn.length (iv c.inn) (.slice b2 c.inn.length q2) H2 ∧ Hn = H1 ++ H2
theorem iv_len (xs : List Int) : (iv xs).length = xs.length * 1 := by rw [Nat.mul_one]; exact List.length_map _
def Cn.has (c : Cn) : Nat → Int
 | 0 => c.st
 | k + 1 => c.i k
theorem Cn.has_co (c : Cn) (k : Nat) (h : k ≤ 3) : c.has k = c.co.g k := by
 cases k with
 | zero => rfl
 | succ k => exact (c.co_g k om0).symm
def Cn.put (c : Cn) (k : Nat) (v : Int) : Cn :=
 match k with
 | 0 => ⟨c.sz, c.inn, v⟩
 | k + 1 => ⟨c.sz, c.inn.set k v, c.st⟩
theorem Cn.of_put (c : Cn) (x : Co) (k : Nat) (v : Int) (hn : c.n ≤ 3) (hk : k ≤ c.n) : (c.of x).put k v = c.of (x.w k v) := by
 obtain rfl | rfl | rfl | rfl : k = 0 ∨ k = 1 ∨ k = 2 ∨ k = 3 := by omega
 ·rfl
 all_goals
  unfold Cn.of Cn.put
  simp only [Cn.mk.injEq, true_and]
  obtain h1 | h1 | h1 : c.n = 1 ∨ c.n = 2 ∨ c.n = 3 := by omega
  all_goals first | omega | (rw [h1]; exact ⟨rfl, rfl⟩)
def Cn.pou (c : Cn) (f t : Nat) (m : Int) : Cn := (c.put f (c.has f - m)).put t (c.has t + m)
theorem Cn.Ok.pou {c : Cn} (h : c.Ok) {f t : Nat} (hf : f ≤ c.n) (ht : t ≤ c.n) (m : Int) : c.pou f t m = c.of ((c.co.w f (c.co.g f - m)).w t (c.co.g t + m)) := by
 have h3 := h.n3
 unfold Cn.pou
 rw [c.has_co f om0, c.has_co t om0]
 conv => lhs; arg 1; arg 1; rw [← h.co_of]
 rw [Cn.of_put _ _ _ _ h3 hf, Cn.of_put _ _ _ _ h3 ht]
theorem splice_iv (xs : List Int) (junk : List Value) (v : Int) (k : Nat) (h : k < xs.length) : splice (iv xs ++ junk) (0 + k * 1) [.int .i64 v] = iv (xs.set k v) ++ junk := by
 unfold splice iv
 rw [Nat.zero_add, Nat.mul_one, List.map_set, List.length_singleton, List.take_append_of_le_length (by simp; omega), List.drop_append_of_le_length (by simp; omega), List.set_eq_take_append_cons_drop, if_pos (by simpa using h)]
 simp
theorem getD_set_ne {xs : List Int} {i j : Nat} {v : Int} (h : i ≠ j) : (xs.set j v).getD i 0 = xs.getD i 0 := by
 simp [List.getD_eq_getElem?_getD, List.getElem?_set, Ne.symm h]
theorem drop_iv {xs : List Int} {junk : List Value} {k : Nat} {v : Int} (h : k < xs.length) (hv : xs.getD k 0 = v) : List.drop (0 + k * 1) (iv xs ++ junk) = [.int .i64 v] ++ List.drop (k + 1) (iv xs ++ junk) := by
 subst hv
 have hlt : k < (iv xs ++ junk).length := by simp [iv]; omega
 rw [show 0 + k * 1 = k by omega, List.drop_eq_getElem_cons hlt]
 simp [iv, h, List.getD_eq_getElem?_getD]
theorem fit_iv {xs : List Int} {junk : List Value} {k : Nat} {v : Value} (h : k < xs.length) : 0 + k * 1 + [v].length ≤ (iv xs ++ junk).length := by simp [iv]; omega
def Cn.amtR (c : Cn) (f t : Nat) : Int := if f = 0 then (if c.lack c.co t ≤ c.st then c.lack c.co t else 0) else if t = 0 then c.co.g f else c.amt c.co f t
theorem Cn.Ok.g0 {c : Cn} (h : c.Ok) {f : Nat} (hf : f ≤ c.n) : 0 ≤ c.co.g f ∧ c.co.g f ≤ 600 := by
 have h3 := h.n3
 have h0 := h.st0
 have h1 := h.st1
 cases f with
 | zero => exact ⟨h0, h1⟩
 | succ k =>
  have hs := h.s k om0
  have hi := h.i k om0
  rw [c.co_g k om0]
  omega
theorem twinC_zero : TwinC Cn.zero (.agg #[.slice none 0 0, .slice none 0 0, .int .i64 0]) [] :=
 ⟨none, 0, none, 0, [], [], rfl, ⟨none, 0, rfl, Nat.le_refl _, .inr ⟨rfl, rfl, rfl⟩⟩, ⟨none, 0, rfl, Nat.le_refl _, .inr ⟨rfl, rfl, rfl⟩⟩, rfl⟩
def PourV (c : Cn) (p : Po) (v : Value) (Hn : List Blk) : Prop := ∃ v0, v = .tuple #[v0, .int .i64 (c.poE p)] ∧ TwinC (c.poC p) v0 Hn
theorem PourV.bad {c : Cn} {p : Po} {e : Int} (h : c.poE p = e) (he : e ≠ 0) : PourV c p (.tuple #[.agg #[.slice none 0 0, .slice none 0 0, .int .i64 0], .int .i64 e]) [] := by
 refine ⟨_, by rw [h], ?_⟩
 have : c.poC p = Cn.zero := by
  unfold Cn.poC
  unfold Cn.poE at h
  split
  ·rename_i hb
   rw [if_pos hb] at h
   rw [if_neg (by rw [h]; exact he)]
  ·rfl
 rw [this]
 exact twinC_zero
theorem Cn.poE_bad {c : Cn} {p : Po} (h : c.okB = false) : c.poE p = 80 := by unfold Cn.poE; rw [h]; rfl
theorem Cn.poE_inv {c : Cn} {p : Po} (h : c.okB = true) (hv : c.vldB p = false) : c.poE p = 81 := by
 unfold Cn.poE Cn.pE; rw [if_pos h, hv]; rfl
theorem Cn.poE_no {c : Cn} {f t : Nat} (h : c.okB = true) (hv : c.vldB ⟨f, t⟩ = true) (hc : ¬ c.canB c.co f t = true) : c.poE ⟨f, t⟩ = 6 := by
 unfold Cn.poE Cn.pE
 rw [if_pos h, if_pos hv, if_neg]
 exact hc
theorem Cn.poE_yes {c : Cn} {f t : Nat} (h : c.okB = true) (hv : c.vldB ⟨f, t⟩ = true) (hc : c.canB c.co f t = true) : c.poE ⟨f, t⟩ = 0 ∧ c.poC ⟨f, t⟩ = c.of (c.to c.co f t) := by
 have h0 : c.pE c.co ⟨f, t⟩ = 0 := Cn.pE_zero.2 ⟨hv, hc⟩
 unfold Cn.poE Cn.poC
 rw [if_pos h, if_pos h, if_pos h0]
 exact ⟨h0, rfl⟩
abbrev Pos := Rws Po.cells 2 Po.z
theorem po_len (p : Po) : p.cells.length = 2 := rfl
theorem TwinC.parts {c : Cn} {v : Value} {Hn : List Blk} (h : TwinC c v Hn) : ∃ z1 q1 z2 q2 H1 H2, v = .agg #[.slice z1 c.n q1, .slice z2 c.inn.length q2, .int .i64 c.st] ∧ NewRow 3 1 c.n (iv c.sz) (.slice z1 c.n q1) H1 ∧ NewRow 3 1 c.inn.length (iv c.inn) (.slice z2 c.inn.length q2) H2 ∧ Hn = H1 ++ H2 := h
theorem Cn.badK_none {c : Cn} {l : List Po} : ∀ {m k : Nat}, (∀ j, k ≤ j → j < k + m → c.pE (c.runK l j) (l.getD j Po.z) = 0) → c.badK l k m = none
 | 0, _, _ => rfl
 | m + 1, k, h => by
  unfold Cn.badK
  rw [if_pos (h k (Nat.le_refl _) om0)]
  exact Cn.badK_none fun j h1 h2 => h j om0 om0
theorem Cn.badK_some {c : Cn} {l : List Po} {i : Nat} (hb : c.pE (c.runK l i) (l.getD i Po.z) ≠ 0) : ∀ {m k : Nat}, k ≤ i → i < k + m → (∀ j, k ≤ j → j < i → c.pE (c.runK l j) (l.getD j Po.z) = 0) → c.badK l k m = some i
 | 0, _, _, h2, _ => by omega
 | m + 1, k, h1, h2, h => by
  unfold Cn.badK
  by_cases hk : k = i
  ·subst hk; rw [if_neg hb]
  ·rw [if_pos (h k (Nat.le_refl _) om0)]
   exact Cn.badK_some hb om0 om0 fun j h3 h4 => h j om0 h4
def PlayV (c : Cn) (l : List Po) (v : Value) (Hn : List Blk) : Prop := ∃ v0, v = .tuple #[v0, .int .i64 (c.plB l), .int .i64 (c.plA l), .int .i64 (c.plE l)] ∧ TwinC (c.plC l) v0 Hn
theorem PlayV.bad {c : Cn} {l : List Po} (h : c.okB = false) : PlayV c l (.tuple #[.agg #[.slice none 0 0, .slice none 0 0, .int .i64 0], .int .i64 0, .int .i64 0, .int .i64 80]) [] := by
 refine ⟨.agg #[.slice none 0 0, .slice none 0 0, .int .i64 0], ?_, ?_⟩
 ·unfold Cn.plB Cn.plA Cn.plE
  rw [h]; rfl
 ·unfold Cn.plC
  rw [h]; exact twinC_zero
theorem PlayV.stop {c : Cn} {l : List Po} {k : Nat} {e : Int} (h : c.okB = true) (hk : k < l.length) (hj : ∀ j, j < k → c.pE (c.runK l j) (l.getD j Po.z) = 0) (he : c.pE (c.runK l k) (l.getD k Po.z) = e) (he0 : e ≠ 0) :
  PlayV c l (.tuple #[.agg #[.slice none 0 0, .slice none 0 0, .int .i64 0], .int .i64 0, .int .i64 (k : Int), .int .i64 e]) [] := by
 have hb : c.bad l = some k := Cn.badK_some (by rw [he]; exact he0) (Nat.zero_le _) om0 fun j _ h => hj j h
 refine ⟨.agg #[.slice none 0 0, .slice none 0 0, .int .i64 0], ?_, ?_⟩
 ·unfold Cn.plB Cn.plA Cn.plE
  rw [h, hb]
  simp only [if_true, he]
 ·unfold Cn.plC
  rw [h, hb]; exact twinC_zero
theorem PlayV.go {c : Cn} {l : List Po} {v0 : Value} {Hn : List Blk} (h : c.okB = true) (hj : ∀ j, j < l.length → c.pE (c.runK l j) (l.getD j Po.z) = 0) (hT : TwinC (c.of (c.runK l l.length)) v0 Hn) :
  PlayV c l (.tuple #[v0, .int .i64 (c.backK l l.length), .int .i64 0, .int .i64 0]) Hn := by
 have hb : c.bad l = none := Cn.badK_none fun j _ h => hj j om0
 refine ⟨v0, ?_, ?_⟩
 ·unfold Cn.plB Cn.plA Cn.plE
  rw [h, hb]; rfl
 ·unfold Cn.plC
  rw [h, hb]; exact hT
theorem Cn.Ok.run_in {c : Cn} (h : c.Ok) {l : List Po} : ∀ {k : Nat}, (∀ j, j < k → c.pE (c.runK l j) (l.getD j Po.z) = 0) → c.In (c.runK l k)
 | 0, _ => h.co_in
 | k + 1, hj => (Cn.Ok.run_in h fun j hk => hj j om0).stp h.n3 (hj k om0)
theorem Cn.Ok.back_bd {c : Cn} (h : c.Ok) {l : List Po} : ∀ {k : Nat}, (∀ j, j < k → c.pE (c.runK l j) (l.getD j Po.z) = 0) → 0 ≤ c.backK l k ∧ c.backK l k ≤ 600 * (k : Int)
 | 0, _ => ⟨Int.le_refl _, Int.le_refl _⟩
 | k + 1, hj => by
  have ih := Cn.Ok.back_bd h (l := l) (k := k) fun j hk => hj j om0
  have h1 := h.run_in (l := l) (k := k) fun j hk => hj j om0
  have h2 := h.run_in (l := l) (k := k + 1) hj
  have a1 := h1.lo 0 dc
  have a2 : (c.runK l (k + 1)).a ≤ 600 := h2.hi 0 (Nat.zero_le _)
  change 0 ≤ (c.runK l k).a at a1
  have hb : c.backK l (k + 1) = c.backK l k + bk (c.runK l k) (c.runK l (k + 1)) := rfl
  rw [hb]
  unfold bk
  omega
end Go.Proofs.YtjekjehgmljbgaaGreatDoor.T
