/- Proved: for every input, with no condition, the law CanLogs returns true and the input reads as it did (Rows.CanLogsSaid). -/
import Derived.Test.YtjekjehgmljbgaaDoorMb4
import Derived.Test.YtjekjehgmljbgaaDoorMb2
import Derived.Test.YtjekjehgmljbgaaDoorTie
import Derived.Test.YtjekjehgmljbgaaDoorCards
import Derived.LaidMore
import Derived.Stop.Joined
import Derived.SevenTiedAt
import Derived.Test.YtjekjehgmljbgaaDoorRows
import Derived.WalkKit
import Derived.ProofKit
import Derived.OpenShut
import Derived.Lib.SmallJoins
import Derived.ChangeOld
import Derived.Below
set_option linter.unusedVariables false
set_option linter.unusedSimpArgs false
/- The program's Pour and Play, walked. -/
namespace Go.Proofs.YtjekjehgmljbgaaDoor.T
open Go.RowKit Go.Proofs Go.Eng
set_option maxRecDepth 100000
set_option maxHeartbeats 1000000
set_option linter.unusedVariables false
set_option linter.unusedSimpArgs false

theorem bd96_0 {x0_0a : Option Addr} {x0_0l x0_0c : Nat} {x0_1a : Option Addr} {x0_1l x0_1c : Nat} {x0_2 : Int} : ∀ w, (Instr.build 96 #[(0, .agg #[.slice x0_0a x0_0l x0_0c, .slice x0_1a x0_1l x0_1c, .int .i64 x0_2])]).run Tryd.prog w = .ok (.agg #[.slice x0_0a x0_0l x0_0c, .slice x0_1a x0_1l x0_1c, .int .i64 x0_2]) w := fun w => by kernel_rfl
theorem bd99_0 {x0 : Int} : ∀ w, (Instr.build 99 #[(0, .int .i64 x0)]).run Tryd.prog w = .ok (.agg #[.int .i64 x0, .int .i64 0, .int .i64 0, .int .i64 0]) w := fun w => by kernel_rfl

theorem cloneN_any (ta : Option Addr) (tn tcap : Nat) (D : List Int) (w : World) (htn : tn ≤ 1000000) (hD : Ints w ta tn tcap D) :
    Ct Tryd.prog 78 #[.slice ta tn tcap] w fun v Hn => ∃ a' cap', v = .slice a' tn cap' ∧ NewRow 3 1 tn (iv D) (.slice a' tn cap') Hn := by
  have hlen : (iv D).length = tn * 1 := by rw [Nat.mul_one]; exact (List.length_map _).trans hD.len
  have hF := wide_wide
  refine Ct_start (args := [_]) Tryd.func78 (by rfl) Tryd.ntmps78 (by rfl) ?_
  refine W_seq ?_
  refine W_region_lit (fun ds => ?_)
  refine WS_det hF (by rfl) (y_assign (c := .slice _ _ _) (by rfl)) ?_
  refine WS_nil ?_
  refine Then_normal ?_
  refine W_seq ?_
  refine W_seq ?_
  refine W_region_lit (fun ds => ?_)
  refine WS_det hF (by rfl) (y_move (c := .slice _ _ _) (by rfl)) ?_
  refine WS_det hF (by rfl) (y_eqlNil (by rfl) (by rfl) Tryd.runUnderlying22) ?_
  refine WS_nil ?_
  refine Then_normal ?_
  refine W_cond (by rfl) (fun c1 => ?_) (fun c1 => ?_)
  ·
    try simp only [Bool.not_eq_true', Bool.not_eq_false', decide_eq_true_eq, decide_eq_false_iff_not, ne_eq, Classical.not_not, Int.not_lt, Int.not_le] at c1
    obtain rfl : ta = none := Option.isNone_iff_eq_none.1 c1
    have h0 : tn = 0 := by
      cases tn with
      | zero => rfl
      | succ n => obtain ⟨b, o, h, _⟩ := hD.cell 0 (Nat.zero_lt_succ n); cases h
    subst h0
    refine W_seq ?_
    refine W_region_lit (fun ds => ?_)
    refine WS_det hF (by rfl) (y_assign (c := .slice _ _ _) (by rfl)) ?_
    refine WS_nil ?_
    refine Then_normal ?_
    refine W_ret ?_
    refine Then_ret ?_
    refine Fin_ret [.slice _ _ _] [] Tryd.results78 ⟨by rfl, trivial⟩ HSub.nil ?_
    exact ⟨none, 0, rfl, none, 0, rfl, Nat.le_refl _, .inr ⟨rfl, rfl, rfl⟩⟩
  ·
    try simp only [Bool.not_eq_true', Bool.not_eq_false', decide_eq_true_eq, decide_eq_false_iff_not, ne_eq, Classical.not_not, Int.not_lt, Int.not_le] at c1
    refine W_skip ?_
    refine Then_normal ?_
    refine W_seq ?_
    refine W_region_lit (fun ds => ?_)
    refine WS_newS hF (by rfl) (y_buildSliceL bs22_0 (by rfl)) (fun b1 => ?_)
    refine WS_det hF (by rfl) (y_move (c := .slice _ _ _) (by rfl)) ?_
    refine WS_gen hF (by rfl) (y_append0 (by rfl) (by rfl) Tryd.underlying22 infInt (by rfl) hD.src hlen (by omega) (by omega)) ?_
    rintro _ Hc hrow
    have hrow2 := hrow
    obtain ⟨a', cap', rfl, _⟩ := hrow2
    refine WS_det hF (by rfl) (y_assign (c := .slice _ _ _) (by rfl)) ?_
    refine WS_nil ?_
    refine Then_normal ?_
    refine W_ret ?_
    refine Fin_ret [.slice _ _ _] Hc Tryd.results78 ⟨by rfl, trivial⟩ (HSub.sub sbA) ?_
    exact ⟨_, _, rfl, hrow⟩
theorem co_splice (c : Cn) (h : c.inn.length ≤ 3) : splice [.int .i64 c.st, .int .i64 0, .int .i64 0, .int .i64 0] (0 + 1 * 1) (iv c.inn) = c.co.cells := by
  obtain ⟨s, i, t⟩ := c
  match i, h with
  | [], _ => rfl
  | [_], _ => rfl
  | [_, _], _ => rfl
  | [_, _, _], _ => rfl
  | _ :: _ :: _ :: _ :: _, h => simp only [List.length_cons] at h; omega
theorem iv_one (xs : List Int) : (iv xs).all Value.oneCell' = true := by
  unfold iv
  rw [List.all_eq_true]
  intro v hv
  obtain ⟨x, _, rfl⟩ := List.mem_map.1 hv
  rfl
theorem bstart_any (c : Cn) (a1 : Option Addr) (p1 : Nat) (a2 : Option Addr) (p2 : Nat) (w : World) (hok : c.Ok) (hn : c.n ≤ 1000000) (hm : c.inn.length ≤ 1000000) (h1 : Ints w a1 c.n p1 c.sz) (h2 : Ints w a2 c.inn.length p2 c.inn) : Ct Tryd.prog 50 #[.agg #[.slice a1 c.n p1, .slice a2 c.inn.length p2, .int .i64 c.st]] w fun v _ => v = .agg c.co.cells.toArray := by
  have hn3 := hok.n3
  have hlen := hok.len
  have hF := wide_wide
  refine Ct_start (args := [_]) Tryd.func50 (by rfl) Tryd.ntmps50 (by rfl) ?_
  refine W_seq ?_
  refine W_region_lit (fun ds => ?_)
  refine WS_new hF (by rfl) (y_box (by rfl)) (fun b1 => ?_)
  refine WS_new hF (by rfl) (y_alloc Tryd.zeroValue99 (by rfl)) (fun b2 => ?_)
  refine WS_nil ?_
  refine Then_normal ?_
  refine W_seq ?_
  refine W_region_lit (fun ds => ?_)
  refine WS_det hF (by rfl) (y_fieldAddr (by rfl) fa96_0) ?_
  refine WS_det hF (by rfl) (y_fieldAddr (by rfl) fa24_2) ?_
  refine WS_det hF (by rfl) (y_load1 (by rfl) Tryd.isAgg3 (Mem.own1 1 (by rfl) (by rfl))) ?_
  refine WS_det hF (by rfl) (y_buildL bd99_0 (by rfl)) ?_
  refine WS_new hF (by rfl) (y_alloc Tryd.zeroValue99 (by rfl)) (fun bx => ?_)
  refine WS_store hF (us := [.int .i64 _, .int .i64 _, .int .i64 _, .int .i64 _]) (i := 0) (by rfl) (by rfl) Tryd.sizeOf99 (by rfl) (by rfl) (by rfl) (by first | decide | exact Nat.le_of_ble_eq_true rfl | simp) ?_
  refine WS_nil ?_
  refine Then_normal ?_
  refine W_seq ?_
  apply W_drawMT 4 hF Trydmixed [] [] [] (by rfl) (by decide +kernel) (by decide) HSub.refl
  intro ds
  refine P_det (by rfl) (Over_nil (y_sliceA_lo (l := 1) (m := 4) (by rfl) (by rfl) (by rfl) (by decide) Tryd.runUnderlying99 Tryd.sizeOf3)) ?_
  refine P_det (by rfl) (Over_nil (y_fieldAddr (by rfl) fa96_0)) ?_
  refine P_det (by rfl) (Over_nil (y_fieldAddr (by rfl) fa24_1)) ?_
  refine P_det (by rfl) (Over_nil (y_load1 (by rfl) Tryd.isAgg22 (Mem.own1 2 (by rfl) (by rfl)))) ?_
  refine PW_end (by rfl) ?_
  refine OverAll_nil ?_
  rintro -
  refine WS_copyS hF (i := 0) (by rfl) (by rfl) (by rfl) Tryd.runUnderlying22 Tryd.sizeOf3 h2.src (iv_len c.inn) (by omega) (iv_one _) (by rfl) (by rw [iv_len]; show 0 + 1 * 1 + _ ≤ 4; omega) ?_
  refine WS_nil ?_
  refine Then_normal ?_
  refine W_seq ?_
  rw [show splice (splice [.int .i64 0, .int .i64 0, .int .i64 0, .int .i64 0] 0 [.int .i64 c.st, .int .i64 0, .int .i64 0, .int .i64 0]) (0 + 1 * 1) (iv c.inn) = c.co.cells from co_splice c (by omega)]
  refine W_region_lit (fun ds => ?_)
  refine WS_det hF (by rfl) (y_loadN (by rfl) Tryd.isAgg99 Tryd.sizeOf99 (Mem.own (us := [.int .i64 _, .int .i64 _, .int .i64 _, .int .i64 _]) 0 (by rfl) (by rfl)) (by rfl)) ?_
  refine WS_store hF (us := [.int .i64 _, .int .i64 _, .int .i64 _, .int .i64 _]) (i := 1) (by rfl) (by rfl) Tryd.sizeOf99 (by rfl) (by rfl) (by rfl) (by first | decide | exact Nat.le_of_ble_eq_true rfl | simp) ?_
  refine WS_nil ?_
  refine Then_normal ?_
  refine W_ret ?_
  refine Fin_ret [_] [] Tryd.results50 ⟨lvN (by rfl) Tryd.isAgg99 Tryd.sizeOf99 (Mem.own (us := [.int .i64 _, .int .i64 _, .int .i64 _, .int .i64 _]) 1 (by rfl) (by rfl)) (by rfl), trivial⟩ HSub.nil ?_
  rfl
theorem ints_of (c : Cn) (x : Co) (hn : c.n ≤ 3) {C : Ctx} {H : List Blk} {b T : Nat} (i : Nat) (hi : H[i]? = some (b, CB x.cells T)) (w : World) (hw : St C H w) : Ints w (some ⟨b, 1, none⟩) c.n 3 (c.of x).inn := by
  have hl := c.of_len x hn
  refine ⟨hl, hn, fun k hk => ⟨b, 1, rfl, ?_⟩⟩
  have := c.of_i x k hk hn
  unfold Cn.i at this
  rw [this]
  obtain ⟨rest, hd⟩ := x.drop (k := k + 1) (by omega)
  rw [show 1 + k * 1 = 0 + (k + 1) * 1 by omega]
  rw [show 0 + (k + 1) * 1 = k + 1 by omega] at hd ⊢
  have hb := hw.get hi
  exact at_block (rest := rest) hb hd
theorem bcans_any (c : Cn) (a1 : Option Addr) (p1 : Nat) (a2 : Option Addr) (p2 : Nat) (x : Co) (w : World) (hok : c.Ok) (hn : c.n ≤ 1000000) (hm : c.inn.length ≤ 1000000) (h1 : Ints w a1 c.n p1 c.sz) (h2 : Ints w a2 c.inn.length p2 c.inn) : Ct Tryd.prog 51 #[.agg #[.slice a1 c.n p1, .slice a2 c.inn.length p2, .int .i64 c.st], .agg x.cells.toArray] w (TwinC (c.of x)) := by
  have hn3 := hok.n3
  have hF := wide_wide
  refine Ct_start (args := [_, _]) Tryd.func51 (by rfl) Tryd.ntmps51 (by rfl) ?_
  refine W_seq ?_
  refine W_region_lit (fun ds => ?_)
  refine WS_new hF (by rfl) (y_box (by rfl)) (fun b1 => ?_)
  refine WS_new hF (by rfl) (y_box (by rfl)) (fun b2 => ?_)
  refine WS_new hF (by rfl) (y_alloc Tryd.zeroValue24 (by rfl)) (fun b3 => ?_)
  refine WS_nil ?_
  refine Then_normal ?_
  refine W_seq ?_
  apply W_draw1D hF Trydmixed [1000000] 18 _ (i := 0) (by rfl) (by decide +kernel)
  intro ds
  refine P_det (by rfl) (Over_out (by rfl) (Over_nil (y_fieldAddr (by rfl) fa96_0))) ?_
  refine P_det (by rfl) (Over_out (by rfl) (Over_nil (y_fieldAddr (by rfl) fa24_0))) ?_
  refine P_det (by rfl) (Over_out (by rfl) (Over_nil (y_load1 (by rfl) Tryd.isAgg22 (Mem.own1 1 (by rfl) (by rfl))))) ?_
  refine P_new (by rfl) (by rfl) (Over_out (by rfl) (Over_nil (y_callL (by rfl) (by rfl) Tryd.call78 (fun w hw => cloneN_any _ _ _ c.sz w hn (h1.st w hw))))) ?_
  refine P_det (by rfl) (Over_out (by rfl) (Over_out (by rfl) (Over_nil (y_fieldAddr (by rfl) fa96_0)))) ?_
  refine P_det (by rfl) (Over_out (by rfl) (Over_out (by rfl) (Over_nil (y_fieldAddr (by rfl) fa24_0)))) ?_
  refine P_det (by rfl) (Over_out (by rfl) (Over_out (by rfl) (Over_nil (y_load1 (by rfl) Tryd.isAgg22 (Mem.own1 1 (by rfl) (by rfl)))))) ?_
  refine P_det (by rfl) (Over_out (by rfl) (Over_out (by rfl) (Over_nil (y_len (by rfl) Tryd.runUnderlying22)))) ?_
  refine P_det (by rfl) (Over_out (by rfl) (Over_out (by rfl) (Over_nil (y_add (by rfl) (by rfl) (by unfold I64; omega))))) ?_
  refine P_det (by rfl) (Over_out (by rfl) (Over_out (by rfl) (Over_nil (YD_eq (y_sliceA_lohi (l := 1) (h := c.n + 1) (m := 4) (by rfl) (by rfl) (by rfl) (by rfl) (by omega) (by decide) (by omega) (by omega) Tryd.runUnderlying99 Tryd.sizeOf3) (show Value.slice (some ⟨b2, 1, none⟩) (c.n + 1 - 1) 3 = .slice (some ⟨b2, 1, none⟩) c.n 3 by rw [Nat.add_sub_cancel]))))) ?_
  refine P_new (by rfl) (by rfl) (Over_out (by rfl) (Over_out (by rfl) (Over_nil (y_callL (by rfl) (by rfl) Tryd.call78 (fun w hw => cloneN_any _ _ _ (c.of x).inn w hn (ints_of c x hn3 0 (by rfl) w hw)))))) ?_
  refine P_det (by rfl) (Over_out (by rfl) (Over_out (by rfl) (Over_out (by rfl) (Over_nil (y_indexA (k := 0) (by rfl) (by rfl) (by first | rfl | omega) (by first | decide | omega) Tryd.runUnderlying99 Tryd.sizeOf3))))) ?_
  refine P_det (by rfl) (Over_out (by rfl) (Over_out (by rfl) (Over_out (by rfl) (Over_nil (y_load1 (by rfl) Tryd.isAgg3 (Mem.own1 0 (by rfl) (by rfl))))))) ?_
  refine P_ali [15, 8] (aggP [.inr 8, .inr 15, .inl _]) (by rfl) (by rfl) (by rfl) (aggP_congr (by rfl)) (Over_in (by rfl) (Over_in (by rfl) (Over_out (by rfl) (Over_nil (by intro vb6 l8 hb6; obtain ⟨z1, q1, rfl, hr1⟩ := hb6; intro vb7 l15 hb7; obtain ⟨z2, q2, rfl, hr2⟩ := hb7; exact (YD0_of (y_buildL bd24_0_1_2 (by rfl)))))))) ?_
  refine P_st 1000000 3 (by rfl) (by rfl) (by rfl) (by rfl) (by rfl) (Over_in (by rfl) (Over_in (by rfl) (Over_in (by rfl) (Over_nil (by intro vb9 l8 hb9; obtain ⟨z1, q1, rfl, hr1⟩ := hb9; intro vb10 l15 hb10; obtain ⟨z2, q2, rfl, hr2⟩ := hb10; rintro vb11 _ ⟨hvb11, rfl⟩; replace hvb11 : vb11 = .agg #[.slice _ _ _, .slice _ _ _, .int .i64 _] := hvb11; subst hvb11; exact (st_preD (fun _ => by rfl) (by rfl) (by rfl) Tryd.sizeOf24 (by rfl) (by rfl) (by first | decide | exact Nat.le_of_ble_eq_true rfl | simp))))))) ?_
  refine PW_end (by rfl) ?_
  refine OverAll_cons (fun w18 l18 => ?_)
  refine OverAll_cons (fun w15 l15 => ?_)
  refine OverAll_cons (fun w8 l8 => ?_)
  refine OverAll_cons (fun w1000000 l1000000 => ?_)
  refine OverAll_nil ?_
  rintro ⟨⟨⟨⟨-, h18⟩, h15⟩, h8⟩, h1000000⟩
  obtain ⟨z1, q1, rfl, hr1⟩ := h8
  obtain ⟨z2, q2, rfl, hr2⟩ := h15
  obtain ⟨h18, rfl⟩ := h18
  replace h18 : w18 = .agg #[.slice _ _ _, .slice _ _ _, .int .i64 _] := h18
  subst h18
  obtain rfl := h1000000
  refine Then_normal ?_
  refine W_ret ?_
  refine Fin_ret [_] (l8 ++ l15) Tryd.results51 ⟨lvN (by rfl) Tryd.isAgg24 Tryd.sizeOf24 (Mem.own (us := [.slice _ _ _, .slice _ _ _, .int .i64 _]) 0 (by rfl) (by rfl)) (by rfl), trivial⟩ (HSub.sub sbA) ?_
  have hl := c.of_len x hn3
  refine ⟨z1, q1, z2, q2, l8, l15, ?_, hr1, by rw [hl]; exact hr2, rfl⟩
  rw [hl]; rfl
theorem Cn.err_iff {c : Cn} : c.err = 0 ↔ c.okB = true := by
  unfold Cn.err
  split
  · rename_i h; simp [h]
  · rename_i h; simp [h]
theorem Cn.err_no {c : Cn} (h : ¬ c.err = 0) : c.okB = false ∧ c.err = 80 := by
  rw [Cn.err_iff] at h
  have h' : c.okB = false := by simpa using h
  exact ⟨h', by unfold Cn.err; rw [h']; rfl⟩
theorem Cn.can_to {c : Cn} {x : Co} {f t : Nat} (h : c.canB x f t = true) : (if c.noB x f t then x else c.to x f t) = c.to x f t := by
  unfold Cn.canB at h
  rw [Bool.and_eq_true, Bool.not_eq_true'] at h
  rw [h.1]; rfl
theorem bpourP_any (c : Cn) (a1 : Option Addr) (p1 : Nat) (a2 : Option Addr) (p2 : Nat) (x : Co) (p : Po) (w : World) (hok : c.Ok) (hn : c.n ≤ 1000000) (hm : c.inn.length ≤ 1000000) (h1 : Ints w a1 c.n p1 c.sz) (h2 : Ints w a2 c.inn.length p2 c.inn) (hin : c.In x) (hv : c.vldB p = true) :
    Ct Tryd.prog 49 #[.agg #[.slice a1 c.n p1, .slice a2 c.inn.length p2, .int .i64 c.st], .agg x.cells.toArray, .agg p.cells.toArray] w fun v _ => v = c.pourR x p.f.toNat p.t.toNat := by
  obtain ⟨pf, pt⟩ := p
  obtain ⟨⟨hf0, hf1⟩, ⟨ht0, ht1⟩, hne⟩ := Cn.vld_iff.1 hv
  simp only at hf0 hf1 ht0 ht1 hne
  obtain ⟨f, rfl⟩ := Int.eq_ofNat_of_zero_le hf0
  obtain ⟨t, rfl⟩ := Int.eq_ofNat_of_zero_le ht0
  exact bpour_any c a1 p1 a2 p2 x f t w hok hn hm h1 h2 hin (by omega) (by omega) (by omega)
theorem play_any (c : Cn) (a1 : Option Addr) (p1 : Nat) (a2 : Option Addr) (p2 : Nat) (l : List Po) (la : Option Addr) (lcap : Nat) (w : World) (hG : Gv w) (hl : l.length ≤ 1000000) (hn : c.n ≤ 1000000) (hm : c.inn.length ≤ 1000000) (h1 : Ints w a1 c.n p1 c.sz) (h2 : Ints w a2 c.inn.length p2 c.inn) (hp : Pos w la l.length lcap l) : Ct Tryd.prog 13 #[.agg #[.slice a1 c.n p1, .slice a2 c.inn.length p2, .int .i64 c.st], .slice la l.length lcap] w (PlayV c l) := by
  have hF := wide_wide
  refine Ct_start (args := [_, _]) Tryd.func13 (by rfl) Tryd.ntmps13 (by rfl) ?_
  refine W_seq ?_
  refine W_region_lit (fun ds => ?_)
  refine WS_new hF (by rfl) (y_box (by rfl)) (fun b1 => ?_)
  refine WS_new hF (by rfl) (y_alloc Tryd.zeroValue24 (by rfl)) (fun b2 => ?_)
  refine WS_det hF (by rfl) (y_assign (c := .int .i64 _) (by rfl)) ?_
  refine WS_det hF (by rfl) (y_assign (c := .int .i64 _) (by rfl)) ?_
  refine WS_det hF (by rfl) (y_assign (c := .int .i64 _) (by rfl)) ?_
  refine WS_nil ?_
  refine Then_normal ?_
  refine W_seq ?_
  refine W_seq ?_
  refine W_region_lit (fun ds => ?_)
  refine WS_det hF (by rfl) (y_loadN (by rfl) Tryd.isAgg24 Tryd.sizeOf24 (Mem.own (us := [.slice _ _ _, .slice _ _ _, .int .i64 _]) 1 (by rfl) (by rfl)) (by rfl)) ?_
  refine WS_det hF (by rfl) (y_callL (by rfl) (by rfl) Tryd.call16 (fun w hw => ccheck_any c a1 p1 a2 p2 w (hG.st w hw) hn hm (h1.st w hw) (h2.st w hw))) ?_
  refine WS_det hF (by rfl) (y_assign (c := .int .i64 _) (by rfl)) ?_
  refine WS_nil ?_
  refine Then_normal ?_
  refine W_seq ?_
  refine W_region_lit (fun ds => ?_)
  refine WS_det hF (by rfl) (y_move (c := .int .i64 _) (by rfl)) ?_
  refine WS_det hF (by rfl) (y_neq (by rfl) (by rfl)) ?_
  refine WS_nil ?_
  refine Then_normal ?_
  refine W_cond (by rfl) (fun c2 => ?_) (fun c2 => ?_)
  ·
    try simp only [Bool.not_eq_true', Bool.not_eq_false', decide_eq_true_eq, decide_eq_false_iff_not, ne_eq, Classical.not_not, Int.not_lt, Int.not_le] at c2
    refine W_seq ?_
    refine W_region_lit (fun ds => ?_)
    refine WS_det hF (by rfl) (y_buildL bd24 (by rfl)) ?_
    refine WS_det hF (by rfl) (y_move (c := .int .i64 _) (by rfl)) ?_
    refine WS_store hF (us := [.slice _ _ _, .slice _ _ _, .int .i64 _]) (i := 0) (by rfl) (by rfl) Tryd.sizeOf24 (by rfl) (by rfl) (by rfl) (by first | decide | exact Nat.le_of_ble_eq_true rfl | simp) ?_
    refine WS_det hF (by rfl) (y_assign (c := .int .i64 _) (by rfl)) ?_
    refine WS_det hF (by rfl) (y_assign (c := .int .i64 _) (by rfl)) ?_
    refine WS_det hF (by rfl) (y_assign (c := .int .i64 _) (by rfl)) ?_
    refine WS_nil ?_
    refine Then_normal ?_
    refine W_ret ?_
    refine Then_ret ?_
    refine Fin_ret [_, .int .i64 _, .int .i64 _, .int .i64 _] [] Tryd.results13 ⟨lvN (by rfl) Tryd.isAgg24 Tryd.sizeOf24 (Mem.own (us := [.slice _ _ _, .slice _ _ _, .int .i64 _]) 0 (by rfl) (by rfl)) (by rfl), by rfl, by rfl, by rfl, trivial⟩ HSub.nil ?_
    obtain ⟨h1, h2⟩ := Cn.err_no c2
    rw [h2]
    exact PlayV.bad h1
  ·
    try simp only [Bool.not_eq_true', Bool.not_eq_false', decide_eq_true_eq, decide_eq_false_iff_not, ne_eq, Classical.not_not, Int.not_lt, Int.not_le] at c2
    have c1 := Cn.err_iff.1 c2
    have hok := Cn.ok_iff.1 c1
    have hn3 := hok.n3
    refine W_skip ?_
    refine Then_normal ?_
    refine W_seq ?_
    refine W_region_lit (fun ds => ?_)
    refine WS_det hF (by rfl) (y_loadN (by rfl) Tryd.isAgg24 Tryd.sizeOf24 (Mem.own (us := [.slice _ _ _, .slice _ _ _, .int .i64 _]) 1 (by rfl) (by rfl)) (by rfl)) ?_
    refine WS_det hF (by rfl) (y_buildL bd96_0 (by rfl)) ?_
    refine WS_new hF (by rfl) (y_alloc Tryd.zeroValue96 (by rfl)) (fun bb => ?_)
    refine WS_store hF (us := [.slice _ _ _, .slice _ _ _, .int .i64 _]) (i := 0) (by rfl) (by rfl) Tryd.sizeOf96 (by rfl) (by rfl) (by rfl) (by first | decide | exact Nat.le_of_ble_eq_true rfl | simp) ?_
    refine WS_nil ?_
    refine Then_normal ?_
    refine W_seq ?_
    refine W_region_lit (fun ds => ?_)
    refine WS_det hF (by rfl) (y_loadN (by rfl) Tryd.isAgg96 Tryd.sizeOf96 (Mem.own (us := [.slice _ _ _, .slice _ _ _, .int .i64 _]) 0 (by rfl) (by rfl)) (by rfl)) ?_
    refine WS_det hF (by rfl) (y_callL (by rfl) (by rfl) Tryd.call50 (fun w hw => bstart_any c a1 p1 a2 p2 w hok hn hm (h1.st w hw) (h2.st w hw))) ?_
    refine WS_new hF (by rfl) (y_alloc Tryd.zeroValue99 (by rfl)) (fun bx => ?_)
    refine WS_store hF (us := [.int .i64 _, .int .i64 _, .int .i64 _, .int .i64 _]) (i := 0) (by rfl) (by rfl) Tryd.sizeOf99 (by rfl) (by rfl) (by rfl) (by first | decide | exact Nat.le_of_ble_eq_true rfl | simp) ?_
    refine WS_nil ?_
    refine Then_normal ?_
    refine W_seq ?_
    refine W_seq ?_
    refine W_region_lit (fun ds => ?_)
    refine WS_det hF (by rfl) (y_move (c := .slice _ _ _) (by rfl)) ?_
    refine WS_det hF (by rfl) (y_len (by rfl) Tryd.runUnderlying27) ?_
    refine WS_det hF (by rfl) (y_move (c := .int .i64 _) (by rfl)) ?_
    refine WS_nil ?_
    refine Then_normal ?_
    refine W_block ?_
    refine W_loop (γ := Nat) (fun k => k ≤ l.length ∧ ∀ j, j < k → c.pE (c.runK l j) (l.getD j Po.z) = 0) (fun k => [(4, .pointer (some ⟨b2, 0, none⟩)), (5, .int .i64 (c.backK l k)), (9, .pointer (some ⟨bb, 0, none⟩)), (10, .pointer (some ⟨bx, 0, none⟩)), (25, .slice la l.length lcap), (26, .int .i64 (l.length : Int)), (27, .int .i64 (k : Int))]) (fun k => [(bx, CB (c.runK l k).cells 99), (bb, CB [.slice a1 c.n p1, .slice a2 c.inn.length p2, .int .i64 c.st] 96), (b2, CB [.slice none 0 0, .slice none 0 0, .int .i64 0] 24)]) (fun k => l.length - k) (0) ⟨Nat.zero_le _, fun j h => absurd h (Nat.not_lt_zero _)⟩ (by repeat (first | exact trivial | refine ⟨by rfl, ?_⟩)) (sbA) ?_
    rintro k e ⟨hk, hj⟩
    refine W_seq ?_
    refine W_region_lit (fun ds => ?_)
    refine WS_det hF (by rfl) (y_lss (by rfl) (by rfl)) ?_
    refine WS_nil ?_
    refine Then_normal ?_
    refine W_seq ?_
    refine W_cond (by rfl) (fun c7 => ?_) (fun c7 => ?_)
    ·
      try simp only [Bool.not_eq_true', Bool.not_eq_false', decide_eq_true_eq, decide_eq_false_iff_not, ne_eq, Classical.not_not, Int.not_lt, Int.not_le] at c7
      have hin := hok.run_in hj
      have hbb := hok.back_bd hj
      obtain ⟨b, o, rfl, hc⟩ := hp.cell k (by omega)
      change At w b _ (l.getD k Po.z).cells at hc
      refine W_skip ?_
      refine Then_normal ?_
      refine W_seq ?_
      refine W_block ?_
      refine W_seq ?_
      refine W_region_lit (fun ds => ?_)
      refine WS_det hF (by rfl) (y_move (c := .int .i64 _) (by rfl)) ?_
      refine WS_det hF (by rfl) (y_index (k := k) (by rfl) (by rfl) (by first | rfl | omega) (by first | decide | omega) Tryd.runUnderlying27 Tryd.sizeOf26) ?_
      refine WS_det hF (by rfl) (y_loadN (by rfl) Tryd.isAgg26 Tryd.sizeOf26 (by first | exact Mem.old (by assumption) | exact Mem.oldAt (us := [.int .i64 _, .int .i64 _]) (by assumption) (by rfl) | exact Mem.oldAtL (us := [.int .i64 _, .int .i64 _]) (by assumption) (by rfl) (by rfl)) (by rfl)) ?_
      refine WS_new hF (by rfl) (y_alloc Tryd.zeroValue26 (by rfl)) (fun b3 => ?_)
      refine WS_det hF (by rfl) (y_assign (c := .int .i64 _) (by rfl)) ?_
      refine WS_store hF (us := [.int .i64 _, .int .i64 _]) (i := 0) (by rfl) (by rfl) Tryd.sizeOf26 (by rfl) (by rfl) (by rfl) (by first | decide | exact Nat.le_of_ble_eq_true rfl | simp) ?_
      refine WS_nil ?_
      refine Then_normal ?_
      refine W_seq ?_
      refine W_seq ?_
      refine W_region_lit (fun ds => ?_)
      refine WS_det hF (by rfl) (y_loadN (by rfl) Tryd.isAgg96 Tryd.sizeOf96 (Mem.own (us := [.slice _ _ _, .slice _ _ _, .int .i64 _]) 2 (by rfl) (by rfl)) (by rfl)) ?_
      refine WS_det hF (by rfl) (y_loadN (by rfl) Tryd.isAgg26 Tryd.sizeOf26 (Mem.own (us := [.int .i64 _, .int .i64 _]) 0 (by rfl) (by rfl)) (by rfl)) ?_
      refine WS_det hF (by rfl) (y_callL (by rfl) (by rfl) Tryd.call48 (fun w hw => bvalid_any c a1 p1 a2 p2 (l.getD k Po.z) w)) ?_
      refine WS_det hF (by rfl) (y_not (by rfl)) ?_
      refine WS_nil ?_
      refine Then_normal ?_
      refine W_cond (by rfl) (fun c9 => ?_) (fun c9 => ?_)
      ·
        try simp only [Bool.not_eq_true', Bool.not_eq_false', decide_eq_true_eq, decide_eq_false_iff_not, ne_eq, Classical.not_not, Int.not_lt, Int.not_le] at c9
        refine W_seq ?_
        refine W_region_lit (fun ds => ?_)
        refine WS_det hF (by rfl) (y_buildL bd24 (by rfl)) ?_
        refine WS_det hF (by rfl) (y_move (c := .int .i64 _) (by rfl)) ?_
        refine WS_store hF (us := [.slice _ _ _, .slice _ _ _, .int .i64 _]) (i := 3) (by rfl) (by rfl) Tryd.sizeOf24 (by rfl) (by rfl) (by rfl) (by first | decide | exact Nat.le_of_ble_eq_true rfl | simp) ?_
        refine WS_det hF (by rfl) (y_assign (c := .int .i64 _) (by rfl)) ?_
        refine WS_det hF (by rfl) (y_assign (c := .int .i64 _) (by rfl)) ?_
        refine WS_det hF (by rfl) (y_assign (c := .int .i64 _) (by rfl)) ?_
        refine WS_nil ?_
        refine Then_normal ?_
        refine W_ret ?_
        refine Then_ret ?_
        refine InB_ret ?_
        refine Then_ret ?_
        refine Loop_ret ?_
        refine InB_ret ?_
        refine Then_ret ?_
        refine Fin_ret [_, .int .i64 _, .int .i64 _, .int .i64 _] [] Tryd.results13 ⟨lvN (by rfl) Tryd.isAgg24 Tryd.sizeOf24 (Mem.own (us := [.slice _ _ _, .slice _ _ _, .int .i64 _]) 3 (by rfl) (by rfl)) (by rfl), by rfl, by rfl, by rfl, trivial⟩ HSub.nil ?_
        refine PlayV.stop c1 (by omega) hj ?_ (by decide)
        unfold Cn.pE
        rw [c9]; rfl
      ·
        try simp only [Bool.not_eq_true', Bool.not_eq_false', decide_eq_true_eq, decide_eq_false_iff_not, ne_eq, Classical.not_not, Int.not_lt, Int.not_le] at c9
        have hpe : c.pE (c.runK l k) (l.getD k Po.z) = if c.canB (c.runK l k) (l.getD k Po.z).f.toNat (l.getD k Po.z).t.toNat then 0 else 6 := by
          unfold Cn.pE
          rw [if_pos c9]
        refine W_skip ?_
        refine Then_normal ?_
        refine W_seq ?_
        refine W_region_lit (fun ds => ?_)
        refine WS_det hF (by rfl) (y_loadN (by rfl) Tryd.isAgg96 Tryd.sizeOf96 (Mem.own (us := [.slice _ _ _, .slice _ _ _, .int .i64 _]) 2 (by rfl) (by rfl)) (by rfl)) ?_
        refine WS_det hF (by rfl) (y_loadN (by rfl) Tryd.isAgg99 Tryd.sizeOf99 (Mem.own (us := [.int .i64 _, .int .i64 _, .int .i64 _, .int .i64 _]) 1 (by rfl) (by rfl)) (by rfl)) ?_
        refine WS_det hF (by rfl) (y_loadN (by rfl) Tryd.isAgg26 Tryd.sizeOf26 (Mem.own (us := [.int .i64 _, .int .i64 _]) 0 (by rfl) (by rfl)) (by rfl)) ?_
        refine WS_det hF (by rfl) (y_callL (by rfl) (by rfl) Tryd.call49 (fun w hw => bpourP_any c a1 p1 a2 p2 (c.runK l k) (l.getD k Po.z) w hok hn hm (h1.st w hw) (h2.st w hw) hin c9)) ?_
        refine WS_det hF (by rfl) (y_move (c := .tuple _) (by rfl)) ?_
        refine WS_det hF (by rfl) (y_extract (c := .agg _) (by rfl) (by rfl)) ?_
        refine WS_det hF (by rfl) (y_extract (c := .bool _) (by rfl) (by rfl)) ?_
        refine WS_new hF (by rfl) (y_alloc Tryd.zeroValue99 (by rfl)) (fun b4 => ?_)
        refine WS_store hF (us := [.int .i64 _, .int .i64 _, .int .i64 _, .int .i64 _]) (i := 0) (by rfl) (by rfl) Tryd.sizeOf99 (by rfl) (by rfl) (by rfl) (by first | decide | exact Nat.le_of_ble_eq_true rfl | simp) ?_
        refine WS_det hF (by rfl) (y_assign (c := .bool _) (by rfl)) ?_
        refine WS_nil ?_
        refine Then_normal ?_
        refine W_seq ?_
        refine W_seq ?_
        refine W_region_lit (fun ds => ?_)
        refine WS_det hF (by rfl) (y_move (c := .bool _) (by rfl)) ?_
        refine WS_det hF (by rfl) (y_not (by rfl)) ?_
        refine WS_nil ?_
        refine Then_normal ?_
        refine W_cond (by rfl) (fun c12 => ?_) (fun c12 => ?_)
        ·
          try simp only [Bool.not_eq_true', Bool.not_eq_false', decide_eq_true_eq, decide_eq_false_iff_not, ne_eq, Classical.not_not, Int.not_lt, Int.not_le] at c12
          refine W_seq ?_
          refine W_region_lit (fun ds => ?_)
          refine WS_det hF (by rfl) (y_buildL bd24 (by rfl)) ?_
          refine WS_det hF (by rfl) (y_move (c := .int .i64 _) (by rfl)) ?_
          refine WS_store hF (us := [.slice _ _ _, .slice _ _ _, .int .i64 _]) (i := 4) (by rfl) (by rfl) Tryd.sizeOf24 (by rfl) (by rfl) (by rfl) (by first | decide | exact Nat.le_of_ble_eq_true rfl | simp) ?_
          refine WS_det hF (by rfl) (y_assign (c := .int .i64 _) (by rfl)) ?_
          refine WS_det hF (by rfl) (y_assign (c := .int .i64 _) (by rfl)) ?_
          refine WS_det hF (by rfl) (y_assign (c := .int .i64 _) (by rfl)) ?_
          refine WS_nil ?_
          refine Then_normal ?_
          refine W_ret ?_
          refine Then_ret ?_
          refine InB_ret ?_
          refine Then_ret ?_
          refine Loop_ret ?_
          refine InB_ret ?_
          refine Then_ret ?_
          refine Fin_ret [_, .int .i64 _, .int .i64 _, .int .i64 _] [] Tryd.results13 ⟨lvN (by rfl) Tryd.isAgg24 Tryd.sizeOf24 (Mem.own (us := [.slice _ _ _, .slice _ _ _, .int .i64 _]) 4 (by rfl) (by rfl)) (by rfl), by rfl, by rfl, by rfl, trivial⟩ HSub.nil ?_
          refine PlayV.stop c1 (by omega) hj ?_ (by decide)
          rw [hpe, c12]; rfl
        ·
          try simp only [Bool.not_eq_true', Bool.not_eq_false', decide_eq_true_eq, decide_eq_false_iff_not, ne_eq, Classical.not_not, Int.not_lt, Int.not_le] at c12
          have hj2 : ∀ j, j < k + 1 → c.pE (c.runK l j) (l.getD j Po.z) = 0 := fun j h => by by_cases hjk : j = k; (subst hjk; rw [hpe, c12]; rfl); exact hj j (by omega)
          have hto : (if c.noB (c.runK l k) (l.getD k Po.z).f.toNat (l.getD k Po.z).t.toNat then c.runK l k else c.to (c.runK l k) (l.getD k Po.z).f.toNat (l.getD k Po.z).t.toNat) = c.runK l (k + 1) := Cn.can_to c12
          have hin2 := hok.run_in hj2
          have a1 : 0 ≤ (c.runK l k).a := hin.lo 0 (by decide)
          have a2 : (c.runK l k).a ≤ 600 := hin.hi 0 (Nat.zero_le _)
          have a3 : 0 ≤ (c.runK l (k + 1)).a := hin2.lo 0 (by decide)
          have a4 : (c.runK l (k + 1)).a ≤ 600 := hin2.hi 0 (Nat.zero_le _)
          rw [hto]
          refine W_skip ?_
          refine Then_normal ?_
          refine W_seq ?_
          refine W_region_lit (fun ds => ?_)
          refine WS_det hF (by rfl) (y_move (c := .int .i64 _) (by rfl)) ?_
          refine WS_det hF (by rfl) (y_indexA (k := 0) (by rfl) (by rfl) (by first | rfl | omega) (by first | decide | omega) Tryd.runUnderlying99 Tryd.sizeOf3) ?_
          refine WS_det hF (by rfl) (y_load1 (by rfl) Tryd.isAgg3 (Mem.own1 0 (by rfl) (by rfl))) ?_
          refine WS_det hF (by rfl) (y_indexA (k := 0) (by rfl) (by rfl) (by first | rfl | omega) (by first | decide | omega) Tryd.runUnderlying99 Tryd.sizeOf3) ?_
          refine WS_det hF (by rfl) (y_load1 (by rfl) Tryd.isAgg3 (Mem.own1 2 (by rfl) (by rfl))) ?_
          refine WS_det hF (by rfl) (y_sub (by rfl) (by rfl) (by unfold I64; omega)) ?_
          refine WS_det hF (by rfl) (y_max (by rfl) (by rfl)) ?_
          refine WS_det hF (by rfl) (y_add (by rfl) (by rfl) (by unfold I64; omega)) ?_
          refine WS_det hF (by rfl) (y_assign (c := .int .i64 _) (by rfl)) ?_
          refine WS_nil ?_
          refine Then_normal ?_
          refine W_region_lit (fun ds => ?_)
          refine WS_det hF (by rfl) (y_loadN (by rfl) Tryd.isAgg99 Tryd.sizeOf99 (Mem.own (us := [.int .i64 _, .int .i64 _, .int .i64 _, .int .i64 _]) 0 (by rfl) (by rfl)) (by rfl)) ?_
          refine WS_store hF (us := [.int .i64 _, .int .i64 _, .int .i64 _, .int .i64 _]) (i := 2) (by rfl) (by rfl) Tryd.sizeOf99 (by rfl) (by rfl) (by rfl) (by first | decide | exact Nat.le_of_ble_eq_true rfl | simp) ?_
          refine WS_nil ?_
          refine InB_normal ?_
          refine Then_normal ?_
          refine W_region_lit (fun ds => ?_)
          refine WS_det hF (by rfl) (y_add (by rfl) (by rfl) (by unfold I64; omega)) ?_
          refine WS_det hF (by rfl) (y_move (c := .int .i64 _) (by rfl)) ?_
          refine WS_nil ?_
          exact Loop_next (k + 1) ⟨by omega, hj2⟩ (by repeat (first | exact trivial | refine ⟨by rfl, ?_⟩)) sbA (by omega)
    ·
      try simp only [Bool.not_eq_true', Bool.not_eq_false', decide_eq_true_eq, decide_eq_false_iff_not, ne_eq, Classical.not_not, Int.not_lt, Int.not_le] at c7
      refine W_exit ?_
      refine Then_exit ?_
      refine Loop_exit ?_
      refine InB_same ?_
      refine Then_normal ?_
      refine W_seq ?_
      refine W_region_lit (fun ds => ?_)
      refine WS_det hF (by rfl) (y_loadN (by rfl) Tryd.isAgg96 Tryd.sizeOf96 (Mem.own (us := [.slice _ _ _, .slice _ _ _, .int .i64 _]) 1 (by rfl) (by rfl)) (by rfl)) ?_
      refine WS_det hF (by rfl) (y_loadN (by rfl) Tryd.isAgg99 Tryd.sizeOf99 (Mem.own (us := [.int .i64 _, .int .i64 _, .int .i64 _, .int .i64 _]) 0 (by rfl) (by rfl)) (by rfl)) ?_
      refine WS_gen hF (by rfl) (y_callL (by rfl) (by rfl) Tryd.call51 (fun w hw => bcans_any c a1 p1 a2 p2 (c.runK l k) w hok hn hm (h1.st w hw) (h2.st w hw))) ?_
      rintro _ _ ⟨z1, q1, z2, q2, H1, H2, rfl, hr1, hr2, rfl⟩
      refine WS_back ?_
      refine WS_det hF (by rfl) (y_move (c := .int .i64 _) (by rfl)) ?_
      refine WS_store hF (us := [.slice _ _ _, .slice _ _ _, .int .i64 _]) (i := 2) (by rfl) (by rfl) Tryd.sizeOf24 (by rfl) (by rfl) (by rfl) (by first | decide | exact Nat.le_of_ble_eq_true rfl | simp) ?_
      refine WS_det hF (by rfl) (y_assign (c := .int .i64 _) (by rfl)) ?_
      refine WS_det hF (by rfl) (y_assign (c := .int .i64 _) (by rfl)) ?_
      refine WS_det hF (by rfl) (y_assign (c := .int .i64 _) (by rfl)) ?_
      refine WS_nil ?_
      refine Then_normal ?_
      refine W_ret ?_
      refine Fin_ret [_, .int .i64 _, .int .i64 _, .int .i64 _] (H1 ++ H2) Tryd.results13 ⟨lvN (by rfl) Tryd.isAgg24 Tryd.sizeOf24 (Mem.own (us := [.slice _ _ _, .slice _ _ _, .int .i64 _]) 2 (by rfl) (by rfl)) (by rfl), by rfl, by rfl, by rfl, trivial⟩ (HSub.sub sbA) ?_
      obtain rfl : k = l.length := by omega
      exact PlayV.go c1 hj ⟨_, _, _, _, H1, H2, rfl, hr1, hr2, rfl⟩
end Go.Proofs.YtjekjehgmljbgaaDoor.T

/- The law CanTells, walked. -/
namespace Go.Proofs.YtjekjehgmljbgaaDoor.T
open Go.RowKit Go.Proofs Go.Eng
set_option maxRecDepth 100000
set_option maxHeartbeats 1000000
set_option linter.unusedVariables false
set_option linter.unusedSimpArgs false

theorem a_ep26_0 {x_0 : Int} {x_1 : Int} : ∀ w, (part 3 #[.int .i64 x_0, .int .i64 x_1] 0).run Tryd.prog w = .ok (.int .i64 x_0) w := fun w => by kernel_rfl
theorem a_ep26_1 {x_0 : Int} {x_1 : Int} : ∀ w, (part 3 #[.int .i64 x_0, .int .i64 x_1] 1).run Tryd.prog w = .ok (.int .i64 x_1) w := fun w => by kernel_rfl
theorem a_gneqA26 {x y : Operand} {x_0 : Int} {x_1 : Int} {y_0 : Int} {y_1 : Int} : ∀ w, (eqGuard .neq 26 x y (.agg #[.int .i64 x_0, .int .i64 x_1]) (.agg #[.int .i64 y_0, .int .i64 y_1])).run Tryd.prog w = .ok () w := fun w => by kernel_rfl
theorem a_st26 : Tryd.prog.stoodInHeld 26 = false := by kernel_rfl
theorem eq26 {x_0 : Int} {x_1 : Int} {y_0 : Int} {y_1 : Int} : ∀ w, (Op.equalIn Op.maxDepth 26 (.agg #[.int .i64 x_0, .int .i64 x_1]) (.agg #[.int .i64 y_0, .int .i64 y_1])).run Tryd.prog w = .ok (ieq x_0 y_0 && ieq x_1 y_1) w := fun w => by
  unfold Op.maxDepth Op.equalIn
  rw [Sem.run_bind, Tryd.runUnderlying26]
  simp [a_st26, a_ep26_0, eq_int (d := 9998) Tryd.runUnderlying3, a_ep26_1, eq_int (d := 9998) Tryd.runUnderlying3]
  generalize ieq x_0 y_0 = b0
  generalize ieq x_1 y_1 = b1
  cases b0 <;> cases b1 <;> simp
theorem bs27_0  : ∀ w, (Instr.buildSlice 27 0 #[]).run Tryd.prog w = .ok (.slice (some ⟨w.heap.size, 0, none⟩) 0 0) (w.alloc (CB [] 26)) := fun w => by kernel_rfl
theorem neqA26 {x y : Operand} {x_0 : Int} {x_1 : Int} {y_0 : Int} {y_1 : Int} : ∀ w, ((do eqGuard .neq 26 x y (.agg #[.int .i64 x_0, .int .i64 x_1]) (.agg #[.int .i64 y_0, .int .i64 y_1]); binOp .neq 26 (.agg #[.int .i64 x_0, .int .i64 x_1]) (.agg #[.int .i64 y_0, .int .i64 y_1])) : Sem Value).run Tryd.prog w = .ok (.bool (!(ieq x_0 y_0 && ieq x_1 y_1))) w := eq_topN a_gneqA26 eq26

theorem infPo : (Tryd.prog.info? 26).map (fun i => (i.zero, i.size, i.bytes)) = some (some (.agg #[.int .i64 0, .int .i64 0]), 2, 16) := by kernel_rfl
theorem samePo_any (l : List Po) (la : Option Addr) (lcap : Nat) (la' : Option Addr) (lcap' : Nat) (w : World) (hl : l.length ≤ 1000000) (hp : Pos w la l.length lcap l) (hp' : Pos w la' l.length lcap' l) :
    Ct Tryd.prog 18 #[.slice la l.length lcap, .slice la' l.length lcap'] w fun v _ => v = .bool true := by
  have hF := wide_wide
  refine Ct_start (args := [_, _]) Tryd.func18 (by rfl) Tryd.ntmps18 (by rfl) ?_
  refine W_seq ?_
  refine W_region_lit (fun ds => ?_)
  refine WS_det hF (by rfl) (y_assign (c := .bool _) (by rfl)) ?_
  refine WS_nil ?_
  refine Then_normal ?_
  refine W_seq ?_
  refine W_seq ?_
  refine W_region_lit (fun ds => ?_)
  refine WS_det hF (by rfl) (y_move (c := .slice _ _ _) (by rfl)) ?_
  refine WS_det hF (by rfl) (y_len (by rfl) Tryd.runUnderlying27) ?_
  refine WS_det hF (by rfl) (y_move (c := .slice _ _ _) (by rfl)) ?_
  refine WS_det hF (by rfl) (y_len (by rfl) Tryd.runUnderlying27) ?_
  refine WS_det hF (by rfl) (y_neqF (by rfl) (by rfl)) ?_
  refine WS_nil ?_
  refine Then_normal ?_
  refine W_cond (by rfl) (fun c1 => ?_) (fun c1 => ?_)
  · cases c1
  ·
    try simp only [Bool.not_eq_true', Bool.not_eq_false', decide_eq_true_eq, decide_eq_false_iff_not, ne_eq, Classical.not_not, Int.not_lt, Int.not_le] at c1
    refine W_skip ?_
    refine Then_normal ?_
    refine W_seq ?_
    refine W_seq ?_
    refine W_region_lit (fun ds => ?_)
    refine WS_det hF (by rfl) (y_assign (c := .int .i64 _) (by rfl)) ?_
    refine WS_nil ?_
    refine Then_normal ?_
    refine W_block ?_
    refine W_loop (γ := Nat) (fun k => k ≤ l.length) (fun k => [(0, .slice la l.length lcap), (1, .slice la' l.length lcap'), (5, .int .i64 (k : Int))]) (fun _ => _) (fun k => l.length - k) (0) (Nat.zero_le _) (by repeat (first | exact trivial | refine ⟨by rfl, ?_⟩)) (List.Sublist.refl _) ?_
    intro k e hk
    refine W_seq ?_
    refine W_seq ?_
    refine W_region_lit (fun ds => ?_)
    refine WS_det hF (by rfl) (y_move (c := .int .i64 _) (by rfl)) ?_
    refine WS_det hF (by rfl) (y_move (c := .slice _ _ _) (by rfl)) ?_
    refine WS_det hF (by rfl) (y_len (by rfl) Tryd.runUnderlying27) ?_
    refine WS_det hF (by rfl) (y_lss (by rfl) (by rfl)) ?_
    refine WS_nil ?_
    refine Then_normal ?_
    refine W_cond (by rfl) (fun c4 => ?_) (fun c4 => ?_)
    ·
      try simp only [Bool.not_eq_true', Bool.not_eq_false', decide_eq_true_eq, decide_eq_false_iff_not, ne_eq, Classical.not_not, Int.not_lt, Int.not_le] at c4
      obtain ⟨b, o, rfl, hc⟩ := hp.cell k (by omega)
      change At w b _ (l.getD k Po.z).cells at hc
      obtain ⟨bz, oz, rfl, hcz⟩ := hp'.cell k (by omega)
      change At w bz _ (l.getD k Po.z).cells at hcz
      refine W_skip ?_
      refine Then_normal ?_
      refine W_seq ?_
      refine W_block ?_
      refine W_seq ?_
      refine W_draw0 hF Trydmixed [] (by decide +kernel) (fun ds => ?_)
      refine P_det (by rfl) (Over_nil (y_move (c := .slice _ _ _) (by rfl))) ?_
      refine P_det (by rfl) (Over_nil (y_move (c := .int .i64 _) (by rfl))) ?_
      refine P_det (by rfl) (Over_nil (y_index (k := k) (by rfl) (by rfl) (by first | rfl | omega) (by first | decide | omega) Tryd.runUnderlying27 Tryd.sizeOf26)) ?_
      refine P_det (by rfl) (Over_nil (y_loadN (by rfl) Tryd.isAgg26 Tryd.sizeOf26 (by first | exact Mem.old (by assumption) | exact Mem.oldAt (us := [.int .i64 _, .int .i64 _]) (by assumption) (by rfl) | exact Mem.oldAtL (us := [.int .i64 _, .int .i64 _]) (by assumption) (by rfl) (by rfl)) (by rfl))) ?_
      refine P_det (by rfl) (Over_nil (y_move (c := .slice _ _ _) (by rfl))) ?_
      refine P_det (by rfl) (Over_nil (y_move (c := .int .i64 _) (by rfl))) ?_
      refine P_det (by rfl) (Over_nil (y_index (k := k) (by rfl) (by rfl) (by first | rfl | omega) (by first | decide | omega) Tryd.runUnderlying27 Tryd.sizeOf26)) ?_
      refine P_det (by rfl) (Over_nil (y_loadN (by rfl) Tryd.isAgg26 Tryd.sizeOf26 (by first | exact Mem.old (by assumption) | exact Mem.oldAt (us := [.int .i64 _, .int .i64 _]) (by assumption) (by rfl) | exact Mem.oldAtL (us := [.int .i64 _, .int .i64 _]) (by assumption) (by rfl) (by rfl)) (by rfl))) ?_
      refine P_det (by rfl) (Over_nil (y_neqlAF (by rfl) (by rfl) neqA26 (by simp only [ieq_self, Bool.and_self, Bool.not_true]))) ?_
      refine PW_end (by rfl) ?_
      refine OverAll_nil ?_
      rintro -
      refine Then_normal ?_
      refine W_cond (by rfl) (fun c6 => ?_) (fun c6 => ?_)
      · cases c6
      ·
        try simp only [Bool.not_eq_true', Bool.not_eq_false', decide_eq_true_eq, decide_eq_false_iff_not, ne_eq, Classical.not_not, Int.not_lt, Int.not_le] at c6
        refine W_skip ?_
        refine InB_normal ?_
        refine Then_normal ?_
        refine W_region_lit (fun ds => ?_)
        refine WS_det hF (by rfl) (y_move (c := .int .i64 _) (by rfl)) ?_
        refine WS_det hF (by rfl) (y_add (by rfl) (by rfl) (by unfold I64; omega)) ?_
        refine WS_det hF (by rfl) (y_assign (c := .int .i64 _) (by rfl)) ?_
        refine WS_nil ?_
        exact Loop_next (k + 1) (by omega) (by repeat (first | exact trivial | refine ⟨by rfl, ?_⟩)) (by repeat (first | exact List.Sublist.refl _ | exact List.nil_sublist _ | apply List.Sublist.cons_cons | apply List.Sublist.cons)) (by omega)
    ·
      try simp only [Bool.not_eq_true', Bool.not_eq_false', decide_eq_true_eq, decide_eq_false_iff_not, ne_eq, Classical.not_not, Int.not_lt, Int.not_le] at c4
      refine W_exit ?_
      refine Then_exit ?_
      refine Loop_exit ?_
      refine InB_same ?_
      refine Then_normal ?_
      refine W_seq ?_
      refine W_region_lit (fun ds => ?_)
      refine WS_det hF (by rfl) (y_assign (c := .bool _) (by rfl)) ?_
      refine WS_nil ?_
      refine Then_normal ?_
      refine W_ret ?_
      refine Fin_ret [.bool _] [] Tryd.results18 ⟨by rfl, trivial⟩ HSub.nil ?_
      rfl
end Go.Proofs.YtjekjehgmljbgaaDoor.T

/- The arguments of the laws of cans, opened; the table of checks, where it was laid. -/
namespace Go.Proofs.YtjekjehgmljbgaaDoor.T
open Go.RowKit Go.Proofs Go.Eng Go.ChangeShapes Go.WideShapes Go.ChangeAt Go.Joins Go.Deep
set_option maxRecDepth 100000
set_option maxHeartbeats 1000000
set_option linter.unusedVariables false
section
variable {H : Type} {enc : TypeId × Value → H} {w : World} {base : Nat} {spare : Nat → Bool} {held : Bool}
theorem open_cans {r : Reach} {b0 : Nat} {v : Value} {d : DataW H} {p : List MemPlace} (hv : Value.okWide Tryd.prog w r b0 24 v) (h : DataW.Trod enc Tryd.prog w base spare held 24 v d p) (hs : ∀ b, spare b = true) :
    ∃ (c : Cn) (a1 : Option Addr) (p1 : Nat) (a2 : Option Addr) (p2 : Nat), v = .agg #[.slice a1 c.n p1, .slice a2 c.inn.length p2, .int .i64 c.st] ∧ Ints w a1 c.n p1 c.sz ∧ Ints w a2 c.inn.length p2 c.inn := by
  obtain ⟨v0, v1, v2, y0, y1, y2, n, rfl, _, _, h0, h1, h2⟩ := open_agg3 Tryd.underlying24 (by kernel_rfl) (by kernel_rfl) hv h
  obtain ⟨a1, m1, p1, xs, rfl, hx⟩ := open_intsT h0 hs
  obtain ⟨a2, m2, p2, ys, rfl, hy⟩ := open_intsT h1 hs
  obtain ⟨l, hl, _, _⟩ := DataW.trod_int Tryd.underlying3 h2
  simp only [List.cons.injEq, and_true] at hl
  subst hl
  have := hx.len
  subst this
  have := hy.len
  subst this
  exact ⟨⟨xs, ys, l⟩, a1, p1, a2, p2, rfl, hx, hy⟩
theorem cellsPo : Tryd.prog.cellsOf 26 = 1 + 1 := by kernel_rfl
theorem open_po {fuel : Nat} {cs : List Value} {y : DataW H × List MemPlace} (h : DataW.trod enc Tryd.prog w base spare held fuel 26 cs = some y) : ∃ x : Po, cs = x.cells := by
  obtain ⟨y0, y1, n, _, hl, h0, h1⟩ := trod_struct2 Tryd.underlying26 h
  rw [cellsPo] at hl
  match cs, hl with
  | [c0, c1], _ =>
    simp only [cells3, List.drop_zero, List.take_succ_cons, List.take_zero, List.drop_succ_cons] at h0 h1
    obtain ⟨l, hl, _, _⟩ := DataW.trod_int Tryd.underlying3 h0
    obtain ⟨f, hf, _, _⟩ := DataW.trod_int Tryd.underlying3 h1
    simp only [List.cons.injEq, and_true] at hl hf
    subst hl hf
    exact ⟨⟨l, f⟩, rfl⟩
theorem open_pours {r : Reach} {b0 : Nat} {v : Value} {d : DataW H} {p : List MemPlace} (hv : Value.okWide Tryd.prog w r b0 27 v) (h : DataW.Trod enc Tryd.prog w base spare held 27 v d p) : ∃ a n cap xs, v = .slice a n cap ∧ Pos w a n cap xs :=
  open_rwsV Tryd.underlying27 cellsPo open_po hv h
end
/-! ### The table of checks -/
def laidC : List (String × DataW Unit) := [("oilcake/can.checks", Rows.laid_oilcake_can_checks)]
theorem gChecks : Tryd.prog.globalNamed "oilcake/can.checks" = some 0 := by kernel_rfl
theorem tChecks : (Tryd.prog.globals[0]?).map (·.type) = some 107 := by kernel_rfl
theorem door_met (os : Os) (args : Array Value) : laidMetH Tryd.prog laidC ((World.doorLaid Tryd.prog 400 os).forCall (fun _ _ => 0) ⟨#[], args, []⟩).memory :=
  laidMetH_of_parts3 (fuel := 8) (laidMet_of_run' 8 (by kernel_rfl) (by kernel_rfl)) (by kernel_rfl) (by kernel_rfl)
theorem cellsChk : Tryd.prog.cellsOf 106 = 1 := by kernel_rfl
theorem cellsChk3 : Tryd.prog.cellsOf 107 = 3 := by kernel_rfl
theorem cellsFn : Tryd.prog.cellsOf 28 = 1 := by kernel_rfl
theorem chk_fn {W : World} {sp : Nat → Bool} {fuel : Nat} {v : Value} {x : DataW (List UInt8) × List MemPlace} {b : UInt8} {r : List UInt8} {f0 : FuncId}
    (hone : ((List.range Tryd.prog.funcs.size).filter fun f => (Tryd.prog.funcs[f]?).any (·.name.toUTF8.data.toList == b :: r)) = [f0])
    (h : DataW.trod (funcToken Tryd.prog) Tryd.prog W 0 sp true fuel 106 [v] = some x) (hx : x.1 = .agg [.held (b :: r)]) : v = .func (.func f0) #[] #[] := by
  obtain ⟨y0, n, rfl, _, h0⟩ := trod_struct1 Tryd.underlying106 h
  obtain ⟨y, q⟩ := y0
  simp only [DataW.agg.injEq, List.cons.injEq, and_true] at hx
  subst hx
  simp only [cellsFn, List.drop_zero, List.take_succ_cons, List.take_zero] at h0
  exact func_of_trod Tryd.underlying28 hone h0
theorem of_laid {W : World} (h : laidMetH Tryd.prog laidC W) : Gv W := by
  obtain ⟨g, t, cs, fuel, p, hg, ht, hv, hd⟩ := h.funcs (List.mem_singleton.2 rfl)
  obtain rfl := Option.some.inj (gChecks.symm.trans hg)
  obtain rfl := Option.some.inj (tChecks.symm.trans ht)
  have hd' : DataW.trod (funcToken Tryd.prog) Tryd.prog W 0 (fun _ => true) true fuel 107 cs.toList = some (.agg [.agg [.held [111, 105, 108, 99, 97, 107, 101, 47, 99, 97, 110, 46, 99, 104, 101, 99, 107, 115, 36, 49]], .agg [.held [111, 105, 108, 99, 97, 107, 101, 47, 99, 97, 110, 46, 99, 104, 101, 99, 107, 115, 36, 50]], .agg [.held [111, 105, 108, 99, 97, 107, 101, 47, 99, 97, 110, 46, 99, 104, 101, 99, 107, 115, 36, 51]]], p) := hd
  obtain ⟨xs, m1, rfl, hx1, hlen, hn3, hel⟩ := DataW.trod_array Tryd.underlying107 hd'
  simp only [Prod.mk.injEq, DataW.agg.injEq] at hx1
  rw [cellsChk3] at hlen
  have hc := fun i => World.var?_cell hg hv i
  obtain ⟨cl⟩ := cs
  match xs, hn3, hx1, cl, hlen, hel, hc with
  | [x0, x1, x2], _, hx1, [c0, c1, c2], _, hel, hc =>
    simp only [List.map_cons, List.map_nil, List.cons.injEq, and_true] at hx1
    have e0 := hel 0 (by decide)
    have e1 := hel 1 (by decide)
    have e2 := hel 2 (by decide)
    simp only [cellsChk, Nat.zero_mul, Nat.one_mul, Nat.mul_one, List.drop_zero, List.drop_succ_cons, List.take_succ_cons, List.take_zero, List.getElem?_cons_zero, List.getElem?_cons_succ] at e0 e1 e2
    obtain rfl := chk_fn (f0 := 225) (by kernel_rfl) e0 hx1.1.1.symm
    obtain rfl := chk_fn (f0 := 226) (by kernel_rfl) e1 hx1.1.2.1.symm
    obtain rfl := chk_fn (f0 := 227) (by kernel_rfl) e2 hx1.1.2.2.symm
    exact ⟨hc 0, hc 1, hc 2, trivial⟩
end Go.Proofs.YtjekjehgmljbgaaDoor.T

/- The arguments of the laws, opened. -/
namespace Go.Proofs.YtjekjehgmljbgaaDoor.T
open Go.RowKit Go.Proofs Go.Eng Go.ChangeShapes Go.WideShapes Go.ChangeAt Go.Joins
set_option maxRecDepth 100000
set_option maxHeartbeats 1000000
set_option linter.unusedVariables false

section
variable {H : Type} {enc : TypeId × Value → H} {w : World} {base : Nat} {spare : Nat → Bool} {held : Bool}
end
end Go.Proofs.YtjekjehgmljbgaaDoor.T

/- The arguments of the laws of logs, opened. -/
namespace Go.Proofs.YtjekjehgmljbgaaDoor.T
open Go.RowKit Go.Proofs Go.Eng Go.ChangeShapes Go.WideShapes Go.ChangeAt Go.Joins Go.Deep
set_option maxRecDepth 100000
set_option maxHeartbeats 1000000
set_option linter.unusedVariables false

theorem cells_At {w : World} {base : Nat} {b o : Nat} {cs : List Value} (h : w.cells? base ⟨b, o, none⟩ 4 = some cs) : At w b o cs := by
  unfold World.cells? at h
  split at h
  · have ha : ∀ i, (⟨b, o, none⟩ : Addr).add i = ⟨b, o + i, none⟩ := fun i => by unfold Addr.add; split <;> simp_all
    rw [show List.range 4 = [0, 1, 2, 3] from rfl] at h
    simp only [List.mapM_cons, List.mapM_nil, ha, Option.bind_eq_bind, Option.bind_eq_some_iff, Option.pure_def, Option.some.injEq] at h
    obtain ⟨c0, h0, _, ⟨c1, h1, _, ⟨c2, h2, _, ⟨c3, h3, _, rfl, rfl⟩, rfl⟩, rfl⟩, rfl⟩ := h
    exact ⟨h0, h1, h2, h3, trivial⟩
  · cases h
section
variable {H : Type} {enc : TypeId × Value → H} {w : World} {base : Nat} {spare : Nat → Bool} {held : Bool}
theorem cells26 : Tryd.prog.cellsOf 63 = 2 := by kernel_rfl
theorem cells48 : Tryd.prog.cellsOf 77 = 4 := by kernel_rfl
theorem cells24 : Tryd.prog.cellsOf 61 = 3 := by kernel_rfl
theorem cells44 : Tryd.prog.cellsOf 64 = 1 := by kernel_rfl
theorem cells46 : Tryd.prog.cellsOf 66 = 6 := by kernel_rfl
theorem open_spanT {fuel : Nat} {c0 c1 : Value} {y : DataW H × List MemPlace} (h : DataW.trod enc Tryd.prog w base spare held fuel 63 [c0, c1] = some y) : ∃ s : Sn, [c0, c1] = s.cells := by
  obtain ⟨y0, y1, n, _, _, h0, h1⟩ := trod_struct2 Tryd.underlying63 h
  simp only [cells3, List.drop_zero, List.take_succ_cons, List.take_zero, List.drop_succ_cons] at h0 h1
  obtain ⟨l, hl, _, _⟩ := DataW.trod_int Tryd.underlying3 h0
  obtain ⟨f, hf, _, _⟩ := DataW.trod_int Tryd.underlying3 h1
  simp only [List.cons.injEq, and_true] at hl hf
  subst hl hf
  exact ⟨⟨l, f⟩, rfl⟩
theorem open_en {fuel : Nat} {cs : List Value} {y : DataW H × List MemPlace} (h : DataW.trod enc Tryd.prog w base spare held fuel 77 cs = some y) : ∃ x : En, cs = x.cells := by
  obtain ⟨y0, y1, y2, n, _, hl, h0, h1, h2⟩ := trod_struct3 Tryd.underlying77 h
  rw [cells48] at hl
  match cs, hl with
  | [c0, c1, c2, c3], _ =>
    simp only [cells3, cells26, List.drop_zero, List.take_succ_cons, List.take_zero, List.drop_succ_cons] at h0 h1 h2
    obtain ⟨d, hd, _, _⟩ := DataW.trod_int Tryd.underlying3 h0
    obtain ⟨k, hk, _, _⟩ := DataW.trod_int Tryd.underlying3 h1
    obtain ⟨s, hs⟩ := open_spanT h2
    simp only [List.cons.injEq, and_true] at hd hk
    subst hd hk
    exact ⟨⟨d, k, s⟩, congrArg (fun l => _ :: _ :: l) hs⟩
theorem open_entsT {fuel : Nat} {v : Value} {y : DataW H × List MemPlace} (h : DataW.trod enc Tryd.prog w base spare held fuel 64 [v] = some y) : ∃ ae n cape es, v = .slice ae n cape ∧ Ens w ae n cape es := by
  rcases DataW.trod_slice Tryd.underlying64 h with ⟨hcs, _⟩ | ⟨a, len, cap, elems, rest, n, _, hcs, _, hb, hl, hm, hlen, hel, _, _⟩
  · simp only [List.cons.injEq, and_true] at hcs
    subst hcs
    exact ⟨_, _, _, [], rfl, Rws.nil _ _ _⟩
  · simp only [List.cons.injEq, and_true] at hcs
    subst hcs
    have hsp : 0 < len → a.spot = none := fun h0 => by
      have h1 := hel 0 h0
      rw [List.getElem?_eq_getElem (by omega), Option.bind_eq_some_iff] at h1
      obtain ⟨cs, hcs, hy⟩ := h1
      rw [cells48] at hcs
      unfold World.cells? at hcs
      split at hcs
      · rw [show List.range 4 = [0, 1, 2, 3] from rfl] at hcs
        simp only [List.mapM_cons, Option.bind_eq_bind, Option.bind_eq_some_iff] at hcs
        obtain ⟨c0, h0, _⟩ := hcs
        have := World.cell?_spot h0
        simpa [Addr.add] using this
      · cases hcs
    have key : ∀ i, i < len → ∃ x : En, a.spot = none ∧ At w a.block (a.off + i * 4) x.cells := fun i hi => by
      have h1 := hel i hi
      rw [List.getElem?_eq_getElem (by omega), Option.bind_eq_some_iff] at h1
      obtain ⟨cs, hcs, hy⟩ := h1
      obtain ⟨x, rfl⟩ := open_en hy
      refine ⟨x, hsp (by omega), ?_⟩
      rw [cells48] at hcs
      have hsp := hsp (by omega)
      obtain ⟨b, off, spot⟩ := a
      simp only at hsp
      subst hsp
      have ha : (⟨b, off, none⟩ : Addr).add (i * 4) = ⟨b, off + i * 4, none⟩ := by unfold Addr.add; split <;> simp_all
      rw [ha] at hcs
      exact cells_At hcs
    refine ⟨_, _, _, (List.range len).map (fun i => if h : i < len then Classical.choose (key i h) else En.z), rfl, by simp, hl, fun k hk => ?_⟩
    have hsp := Classical.choose_spec (key k hk)
    refine ⟨a.block, a.off, ?_, ?_⟩
    · obtain ⟨b, off, spot⟩ := a
      have := hsp.1
      simp only at this
      subst this; rfl
    · rw [show ((List.range len).map (fun i => if h : i < len then Classical.choose (key i h) else En.z)).getD k En.z = Classical.choose (key k hk) by simp [List.getD_eq_getElem?_getD, hk]]
      exact hsp.2
theorem open_log {r : Reach} {b0 : Nat} {v : Value} {d : DataW H} {p : List MemPlace} (hv : Value.okWide Tryd.prog w r b0 66 v) (h : DataW.Trod enc Tryd.prog w base spare held 66 v d p) (hs : ∀ b, spare b = true) :
    ∃ (l : Lg) (a : Option Addr) (cap : Nat) (ae : Option Addr) (cape : Nat), v = .agg #[.slice a l.tk.n cap, .int .i64 l.tk.leak, .int .i64 l.tk.foot, .int .i64 l.start.lo, .int .i64 l.start.hi, .slice ae l.es.length cape] ∧ Ints w a l.tk.n cap l.tk.pints ∧ Ens w ae l.es.length cape l.es := by
  obtain ⟨cs, rfl, hsz⟩ := okWide_struct Tryd.underlying66 hv
  rw [cells46] at hsz
  obtain ⟨cl⟩ := cs
  match cl, hsz with
  | [c0, c1, c2, c3, c4, c5], _ =>
    obtain ⟨fuel, hf⟩ := h
    obtain ⟨y0, y1, y2, n, _, _, h0, h1, h2⟩ := trod_struct3 Tryd.underlying66 hf
    simp only [Value.cells, cells24, cells26, cells44, List.drop_zero, List.take_succ_cons, List.take_zero, List.drop_succ_cons] at h0 h1 h2
    obtain ⟨z0, z1, z2, m, _, _, g0, g1, g2⟩ := trod_struct3 Tryd.underlying61 h0
    simp only [cells3, cells22, List.drop_zero, List.take_succ_cons, List.take_zero, List.drop_succ_cons] at g0 g1 g2
    obtain ⟨a, q, cap, xs, rfl, hx⟩ := open_intsT g0 hs
    obtain ⟨lk, hlk, _, _⟩ := DataW.trod_int Tryd.underlying3 g1
    obtain ⟨ft, hft, _, _⟩ := DataW.trod_int Tryd.underlying3 g2
    simp only [List.cons.injEq, and_true] at hlk hft
    subst hlk hft
    obtain ⟨s, hs1⟩ := open_spanT h1
    unfold Sn.cells at hs1
    simp only [List.cons.injEq, and_true] at hs1
    obtain ⟨rfl, rfl⟩ := hs1
    obtain ⟨ae, ne, cape, es, rfl, he⟩ := open_entsT h2
    have := hx.len
    subst this
    have := he.len
    subst this
    exact ⟨⟨⟨xs, lk, ft⟩, s, es⟩, a, cap, ae, cape, rfl, hx, he⟩
end
end Go.Proofs.YtjekjehgmljbgaaDoor.T

/- Rows of zeros. No project text. -/
namespace Go.Eng
open Go.RowKit
section
variable {C : Ctx} {e : Env} {H : List Blk} {d : Option Tmp} {ty : TypeId} {pos : String} {af : Array Edge} {g : Option (Nat × Bool)}
theorem YR.sub {o : Oper} {R R' : Value → List Blk → Prop} (h : YR C o e H R) (hr : ∀ v Hn, R v Hn → ∃ Hm, Hm.Sublist Hn ∧ R' v Hm) : YR C o e H R' := fun w hw => by
  have := h w hw
  have out : ∀ {v w w'}, Out R v w w' → Out R' v w w' := fun ⟨Hn, h1, h2, h3⟩ => by
    obtain ⟨Hm, h4, h5⟩ := hr _ _ h3
    exact ⟨Hm, h1, h2.sub h4, h5⟩
  generalize (execOp (ev e) o).run C.P w = r at *
  cases r with
  | ok x w' =>
    cases x <;> simp only [OutRes] at this ⊢
    case value v => exact out this
    case skip => exact out this
    case enter f args =>
      refine ⟨this.1, Calls.mono this.2 ?_⟩
      rintro en w'' ⟨v, he, h1⟩
      exact ⟨v, he, out h1⟩
  | halt => exact this
theorem y_makeRow {x y : Operand} {T E : TypeId} {z : Value} {zs us : List Value} {kl kc : IntKind} {n sz by_ : Nat} {l c : Int} (hx : ev e x = .int kl l) (hy : ev e y = .int kc c) (hl : l = (n : Int)) (hc : c = (n : Int))
    (hT : C.P.underlying T = some (.slice E)) (hinf : (C.P.info? E).map (fun i => (i.zero, i.size, i.bytes)) = some (some z, sz, by_)) (hzs : z.cells = zs.toArray) (hsz : zs.length = sz) (hb : n * by_ ≤ 140737488355328) (hn : n ≤ 140737488355328)
    (hu : ((List.range n).flatMap fun _ => zs) = us) : YR C ⟨d, .makeSlice T x y, ty, pos, af, g⟩ e H (NewRow E sz n us) := by
  refine (y_makeSlice hx hy hl hc hT hinf hzs hsz hb hn).sub ?_
  rintro v Hn ⟨b, rfl, rfl⟩
  have hlen : us.length = n * sz := by
    subst hu hsz
    exact rowOf_len (enc := fun (_ : Nat) => zs) (fun _ => rfl) (fun k => k) n
  by_cases h0 : n = 0
  · subst h0
    exact ⟨[], List.nil_sublist _, _, _, rfl, Nat.le_refl _, .inr ⟨rfl, rfl, rfl⟩⟩
  · exact ⟨_, List.Sublist.refl _, _, _, rfl, Nat.le_refl _, .inl ⟨by omega, b, [], rfl, by rw [List.append_nil, hu], by rw [List.append_nil]; exact hlen⟩⟩
end
section
variable {C : Ctx} {F : Fence} {n : Nat} {ds : List Deferred} {c : Code} {Q : Exit → Env → List Blk → Prop} {e : Env} {A B M : List Blk}
theorem W_rot2 (h : W C F n ds c Q e (M ++ (A ++ B))) : W C F n ds c Q e (A ++ (B ++ M)) := W_perm (by rw [← List.append_assoc]; exact List.perm_append_comm) h
end
end Go.Eng

/- Cans at a tank, walked. -/
namespace Go.Proofs.YtjekjehgmljbgaaDoor.T
open Go.RowKit Go.Proofs Go.Eng
set_option maxRecDepth 100000
set_option maxHeartbeats 1000000
set_option linter.unusedVariables false
set_option linter.unusedSimpArgs false



def Lg.rdS (l : Lg) : Sn := if l.aerr = 0 then l.last.fl (l.tk.up l.tk.foot) else Sn.z
theorem Lg.readyV_eq (l : Lg) : l.readyV = .tuple #[.agg l.rdS.cells.toArray, .int .i64 l.aerr] := by
  unfold Lg.readyV Lg.rdS
  by_cases h : l.aerr = 0
  · rw [if_pos h, if_pos h, h]
  · rw [if_neg h, if_neg h]
def begC0 (l : Lg) (D : List Int) : Cn := ⟨D, List.replicate D.length 0, l.rdS.lo⟩
def begC (l : Lg) (D : List Int) : Cn := if l.aerr = 0 then if (begC0 l D).okB then begC0 l D else Cn.zero else Cn.zero
def begE (l : Lg) (D : List Int) : Int := if l.aerr = 0 then (begC0 l D).err else l.aerr
def BegV (l : Lg) (D : List Int) (v : Value) (Hn : List Blk) : Prop := ∃ v0, v = .tuple #[v0, .int .i64 (begE l D)] ∧ TwinC (begC l D) v0 Hn
def czero : Value := .agg #[.slice none 0 0, .slice none 0 0, .int .i64 0]
theorem BegV.no {l : Lg} {D : List Int} (h : ¬ l.aerr = 0) : BegV l D (.tuple #[czero, .int .i64 l.aerr]) [] := by
  refine ⟨czero, ?_, ?_⟩
  · unfold begE; rw [if_neg h]
  · unfold begC; rw [if_neg h]; exact twinC_zero
theorem BegV.bad {l : Lg} {D : List Int} (h : l.aerr = 0) (hb : (begC0 l D).okB = false) : BegV l D (.tuple #[czero, .int .i64 80]) [] := by
  refine ⟨czero, ?_, ?_⟩
  · unfold begE Cn.err; rw [if_pos h, hb]; rfl
  · unfold begC; rw [if_pos h, hb]; exact twinC_zero
theorem BegV.ok {l : Lg} {D : List Int} {v0 : Value} {Hn : List Blk} (h : l.aerr = 0) (hb : (begC0 l D).okB = true) (hT : TwinC (begC0 l D) v0 Hn) : BegV l D (.tuple #[v0, .int .i64 0]) Hn := by
  refine ⟨v0, ?_, ?_⟩
  · unfold begE Cn.err; rw [if_pos h, hb]; rfl
  · unfold begC; rw [if_pos h, hb]; exact hT
theorem zeros_iv (D : List Int) (l : Lg) : ((List.range D.length).flatMap fun _ => [Value.int .i64 0]) = iv (begC0 l D).inn := by
  show _ = iv (List.replicate D.length 0)
  generalize D.length = n
  induction n with
  | zero => rfl
  | succ n ih =>
    rw [List.range_succ, List.flatMap_append, ih, List.replicate_succ']
    simp [iv]
theorem begC0_inn (l : Lg) (D : List Int) : (begC0 l D).inn.length = D.length := List.length_replicate
theorem NewRow.sl {T : TypeId} {sz m : Nat} {us : List Value} {v : Value} {Hn : List Blk} (h : NewRow T sz m us v Hn) : ∃ a cap, v = .slice a m cap ∧ NewRow T sz m us (.slice a m cap) Hn := by
  obtain ⟨a, cap, rfl, h2⟩ := h
  exact ⟨a, cap, rfl, a, cap, rfl, h2⟩
theorem begin_any (l : Lg) (a : Option Addr) (cap : Nat) (ae : Option Addr) (cape : Nat) (ta : Option Addr) (tn tcap : Nat) (D : List Int) (w : World) (hG : Gv w) (htn : tn ≤ 1000000) (hgn : l.tk.n ≤ 1000000) (hx : Ints w a l.tk.n cap l.tk.pints) (he : Ens w ae l.es.length cape l.es) (hD : Ints w ta tn tcap D) :
    Ct Tryd.prog 32 #[.agg #[.slice a l.tk.n cap, .int .i64 l.tk.leak, .int .i64 l.tk.foot, .int .i64 l.start.lo, .int .i64 l.start.hi, .slice ae l.es.length cape], .slice ta tn tcap] w (BegV l D) := by
  have hDl := hD.len
  subst hDl
  have hF := wide_wide
  refine Ct_start (args := [_, _]) Tryd.func32 (by rfl) Tryd.ntmps32 (by rfl) ?_
  refine W_seq ?_
  refine W_region_lit (fun ds => ?_)
  refine WS_new hF (by rfl) (y_box (by rfl)) (fun b1 => ?_)
  refine WS_new hF (by rfl) (y_alloc Tryd.zeroValue24 (by rfl)) (fun b2 => ?_)
  refine WS_det hF (by rfl) (y_assign (c := .int .i64 _) (by rfl)) ?_
  refine WS_nil ?_
  refine Then_normal ?_
  refine W_seq ?_
  refine W_region_lit (fun ds => ?_)
  refine WS_det hF (by rfl) (y_loadN (by rfl) Tryd.isAgg66 Tryd.sizeOf66 (Mem.own (us := [.slice _ _ _, .int .i64 _, .int .i64 _, .int .i64 _, .int .i64 _, .slice _ _ _]) 1 (by rfl) (by rfl)) (by rfl)) ?_
  refine WS_det hF (by rfl) (y_callL (by rfl) (by rfl) Tryd.call77 (fun w hw => Ct_eq (ready_any l a cap ae cape w hgn (hx.st w hw) (he.st w hw)) l.readyV_eq)) ?_
  refine WS_det hF (by rfl) (y_move (c := .tuple _) (by rfl)) ?_
  refine WS_det hF (by rfl) (y_extract (c := .agg _) (by rfl) (by rfl)) ?_
  refine WS_det hF (by rfl) (y_extract (c := .int .i64 _) (by rfl) (by rfl)) ?_
  refine WS_new hF (by rfl) (y_alloc Tryd.zeroValue63 (by rfl)) (fun b3 => ?_)
  refine WS_store hF (us := [.int .i64 _, .int .i64 _]) (i := 0) (by rfl) (by rfl) Tryd.sizeOf63 (by rfl) (by rfl) (by rfl) (by first | decide | exact Nat.le_of_ble_eq_true rfl | simp) ?_
  refine WS_det hF (by rfl) (y_assign (c := .int .i64 _) (by rfl)) ?_
  refine WS_nil ?_
  refine Then_normal ?_
  refine W_seq ?_
  refine W_seq ?_
  refine W_region_lit (fun ds => ?_)
  refine WS_det hF (by rfl) (y_move (c := .int .i64 _) (by rfl)) ?_
  refine WS_det hF (by rfl) (y_neq (by rfl) (by rfl)) ?_
  refine WS_nil ?_
  refine Then_normal ?_
  refine W_cond (by rfl) (fun c2 => ?_) (fun c2 => ?_)
  ·
    try simp only [Bool.not_eq_true', Bool.not_eq_false', decide_eq_true_eq, decide_eq_false_iff_not, ne_eq, Classical.not_not, Int.not_lt, Int.not_le] at c2
    refine W_seq ?_
    refine W_region_lit (fun ds => ?_)
    refine WS_det hF (by rfl) (y_buildL bd24 (by rfl)) ?_
    refine WS_det hF (by rfl) (y_move (c := .int .i64 _) (by rfl)) ?_
    refine WS_store hF (us := [.slice _ _ _, .slice _ _ _, .int .i64 _]) (i := 1) (by rfl) (by rfl) Tryd.sizeOf24 (by rfl) (by rfl) (by rfl) (by first | decide | exact Nat.le_of_ble_eq_true rfl | simp) ?_
    refine WS_det hF (by rfl) (y_assign (c := .int .i64 _) (by rfl)) ?_
    refine WS_nil ?_
    refine Then_normal ?_
    refine W_ret ?_
    refine Then_ret ?_
    refine Fin_ret [_, .int .i64 _] [] Tryd.results32 ⟨lvN (by rfl) Tryd.isAgg24 Tryd.sizeOf24 (Mem.own (us := [.slice _ _ _, .slice _ _ _, .int .i64 _]) 1 (by rfl) (by rfl)) (by rfl), by rfl, trivial⟩ HSub.nil ?_
    exact BegV.no c2
  ·
    try simp only [Bool.not_eq_true', Bool.not_eq_false', decide_eq_true_eq, decide_eq_false_iff_not, ne_eq, Classical.not_not, Int.not_lt, Int.not_le] at c2
    refine W_skip ?_
    refine Then_normal ?_
    refine W_seq ?_
    refine W_draw0 hF Trydmixed [8] (by decide +kernel) (fun ds => ?_)
    refine P_det (by rfl) (Over_nil (y_move (c := .slice _ _ _) (by rfl))) ?_
    refine P_new (by rfl) (by rfl) (Over_nil (y_callL (by rfl) (by rfl) Tryd.call78 (fun w hw => cloneN_any ta _ tcap D w htn (hD.st w hw)))) ?_
    refine P_det (by rfl) (Over_out (by rfl) (Over_nil (y_move (c := .slice _ _ _) (by rfl)))) ?_
    refine P_det (by rfl) (Over_out (by rfl) (Over_nil (y_len (by rfl) Tryd.runUnderlying22))) ?_
    refine P_new (by rfl) (by rfl) (Over_out (by rfl) (Over_nil (YR.mono (y_makeRow (n := D.length) (by rfl) (by rfl) (by rfl) (by rfl) Tryd.underlying22 infInt (by rfl) (by rfl) (by omega) (by omega) (zeros_iv D l)) (fun v Hn h => (show ∃ z2 q2, v = .slice z2 (begC0 l D).inn.length q2 ∧ NewRow 3 1 (begC0 l D).inn.length (iv (begC0 l D).inn) (.slice z2 (begC0 l D).inn.length q2) Hn by rw [begC0_inn]; obtain ⟨z2, q2, rfl, hr⟩ := h; exact ⟨z2, q2, rfl, z2, q2, rfl, hr⟩))))) ?_
    refine P_det (by rfl) (Over_out (by rfl) (Over_out (by rfl) (Over_nil (y_fieldAddr (by rfl) fa63_0)))) ?_
    refine P_det (by rfl) (Over_out (by rfl) (Over_out (by rfl) (Over_nil (y_load1 (by rfl) Tryd.isAgg3 (Mem.own1 0 (by rfl) (by rfl)))))) ?_
    refine P_ali [23, 20] (aggP [.inr 20, .inr 23, .inl _]) (by rfl) (by rfl) (by rfl) (aggP_congr (by rfl)) (Over_in (by rfl) (Over_in (by rfl) (Over_nil (by intro vb6 l20 hb6; obtain ⟨z1, q1, rfl, hr1⟩ := hb6; intro vb7 l23 hb7; obtain ⟨z2, q2, rfl, hr2⟩ := hb7; exact (YD0_of (y_buildL bd24_0_1_2 (by rfl))))))) ?_
    refine P_newSD 26 (by rfl) (by rfl) (by rfl) (Over_out (by rfl) (Over_out (by rfl) (Over_out (by rfl) (Over_nil (y_alloc Tryd.zeroValue24 (by rfl)))))) ?_
    refine P_st 8 0 (by rfl) (by rfl) (by rfl) (by rfl) (by rfl) (Over_in (by rfl) (Over_in (by rfl) (Over_in (by rfl) (Over_nil (by intro vb9 l20 hb9; obtain ⟨z1, q1, rfl, hr1⟩ := hb9; intro vb10 l23 hb10; obtain ⟨z2, q2, rfl, hr2⟩ := hb10; rintro vb11 _ ⟨hvb11, rfl⟩; replace hvb11 : vb11 = .agg #[.slice _ _ _, .slice _ _ _, .int .i64 _] := hvb11; subst hvb11; exact (st_newD (by rfl) (by rfl) Tryd.sizeOf24 (by rfl) (by rfl) (by first | decide | exact Nat.le_of_ble_eq_true rfl | simp))))))) ?_
    refine PW_end (by rfl) ?_
    refine OverAll_cons (fun w8 l8 => ?_)
    refine OverAll_cons (fun w26 l26 => ?_)
    refine OverAll_cons (fun w23 l23 => ?_)
    refine OverAll_cons (fun w20 l20 => ?_)
    refine OverAll_nil ?_
    rintro ⟨⟨⟨⟨-, h8⟩, h26⟩, h23⟩, h20⟩
    obtain ⟨z1, q1, rfl, hr1⟩ := h20
    obtain ⟨z2, q2, rfl, hr2⟩ := h23
    obtain ⟨h26, rfl⟩ := h26
    replace h26 : w26 = .agg #[.slice _ _ _, .slice _ _ _, .int .i64 _] := h26
    subst h26
    obtain ⟨bc, rfl, rfl⟩ := h8
    refine Then_normal ?_
    refine W_seq ?_
    refine W_seq ?_
    refine W_rot2 ?_
    refine W_region_lit (fun ds => ?_)
    refine WS_det hF (by rfl) (y_loadN (by rfl) Tryd.isAgg24 Tryd.sizeOf24 (Mem.own (us := [.slice _ _ _, .slice _ _ _, .int .i64 _]) 0 (by rfl) (by rfl)) (by rfl)) ?_
    refine WS_det hF (by rfl) (y_callL (by rfl) (by rfl) Tryd.call16 (fun w hw => ccheck_any (begC0 l D) z1 q1 z2 q2 w (hG.st w hw) htn (by rw [begC0_inn]; exact htn) (NewRow.ints hr1 rfl sbA w hw) (NewRow.ints hr2 rfl sbA w hw))) ?_
    refine WS_det hF (by rfl) (y_assign (c := .int .i64 _) (by rfl)) ?_
    refine WS_nil ?_
    refine Then_normal ?_
    refine W_seq ?_
    refine W_region_lit (fun ds => ?_)
    refine WS_det hF (by rfl) (y_move (c := .int .i64 _) (by rfl)) ?_
    refine WS_det hF (by rfl) (y_neq (by rfl) (by rfl)) ?_
    refine WS_nil ?_
    refine Then_normal ?_
    refine W_cond (by rfl) (fun c6 => ?_) (fun c6 => ?_)
    ·
      try simp only [Bool.not_eq_true', Bool.not_eq_false', decide_eq_true_eq, decide_eq_false_iff_not, ne_eq, Classical.not_not, Int.not_lt, Int.not_le] at c6
      refine W_seq ?_
      refine W_region_lit (fun ds => ?_)
      refine WS_det hF (by rfl) (y_buildL bd24 (by rfl)) ?_
      refine WS_det hF (by rfl) (y_move (c := .int .i64 _) (by rfl)) ?_
      refine WS_store hF (us := [.slice _ _ _, .slice _ _ _, .int .i64 _]) (i := 2) (by rfl) (by rfl) Tryd.sizeOf24 (by rfl) (by rfl) (by rfl) (by first | decide | exact Nat.le_of_ble_eq_true rfl | simp) ?_
      refine WS_det hF (by rfl) (y_assign (c := .int .i64 _) (by rfl)) ?_
      refine WS_nil ?_
      refine Then_normal ?_
      refine W_ret ?_
      refine Then_ret ?_
      refine Fin_ret [_, .int .i64 _] [] Tryd.results32 ⟨lvN (by rfl) Tryd.isAgg24 Tryd.sizeOf24 (Mem.own (us := [.slice _ _ _, .slice _ _ _, .int .i64 _]) 2 (by rfl) (by rfl)) (by rfl), by rfl, trivial⟩ HSub.nil ?_
      obtain ⟨h3, h4⟩ := Cn.err_no c6
      rw [h4]
      exact BegV.bad c2 h3
    ·
      try simp only [Bool.not_eq_true', Bool.not_eq_false', decide_eq_true_eq, decide_eq_false_iff_not, ne_eq, Classical.not_not, Int.not_lt, Int.not_le] at c6
      refine W_skip ?_
      refine Then_normal ?_
      refine W_seq ?_
      refine W_region_lit (fun ds => ?_)
      refine WS_det hF (by rfl) (y_loadN (by rfl) Tryd.isAgg24 Tryd.sizeOf24 (Mem.own (us := [.slice _ _ _, .slice _ _ _, .int .i64 _]) 0 (by rfl) (by rfl)) (by rfl)) ?_
      refine WS_store hF (us := [.slice _ _ _, .slice _ _ _, .int .i64 _]) (i := 2) (by rfl) (by rfl) Tryd.sizeOf24 (by rfl) (by rfl) (by rfl) (by first | decide | exact Nat.le_of_ble_eq_true rfl | simp) ?_
      refine WS_det hF (by rfl) (y_assign (c := .int .i64 _) (by rfl)) ?_
      refine WS_nil ?_
      refine Then_normal ?_
      refine W_ret ?_
      refine Fin_ret [_, .int .i64 _] (l20 ++ l23) Tryd.results32 ⟨lvN (by rfl) Tryd.isAgg24 Tryd.sizeOf24 (Mem.own (us := [.slice _ _ _, .slice _ _ _, .int .i64 _]) 2 (by rfl) (by rfl)) (by rfl), by rfl, trivial⟩ (HSub.sub sbA) ?_
      exact BegV.ok c2 (Cn.err_iff.1 c6) ⟨z1, q1, z2, q2, l20, l23, rfl, hr1, hr2, rfl⟩
theorem rbegin_any (l : Lg) (a : Option Addr) (cap : Nat) (ae : Option Addr) (cape : Nat) (ta : Option Addr) (tn tcap : Nat) (D : List Int) (w : World) (htn : tn ≤ 1000000) (hgn : l.tk.n ≤ 1000000) (hx : Ints w a l.tk.n cap l.tk.pints) (he : Ens w ae l.es.length cape l.es) (hD : Ints w ta tn tcap D) :
    Ct Tryd.prog 33 #[.agg #[.slice a l.tk.n cap, .int .i64 l.tk.leak, .int .i64 l.tk.foot, .int .i64 l.start.lo, .int .i64 l.start.hi, .slice ae l.es.length cape], .slice ta tn tcap] w (BegV l D) := by
  have hDl := hD.len
  subst hDl
  have hF := wide_wide
  refine Ct_start (args := [_, _]) Tryd.func33 (by rfl) Tryd.ntmps33 (by rfl) ?_
  refine W_seq ?_
  refine W_region_lit (fun ds => ?_)
  refine WS_new hF (by rfl) (y_box (by rfl)) (fun b1 => ?_)
  refine WS_new hF (by rfl) (y_alloc Tryd.zeroValue24 (by rfl)) (fun b2 => ?_)
  refine WS_det hF (by rfl) (y_assign (c := .int .i64 _) (by rfl)) ?_
  refine WS_nil ?_
  refine Then_normal ?_
  refine W_seq ?_
  refine W_region_lit (fun ds => ?_)
  refine WS_det hF (by rfl) (y_loadN (by rfl) Tryd.isAgg66 Tryd.sizeOf66 (Mem.own (us := [.slice _ _ _, .int .i64 _, .int .i64 _, .int .i64 _, .int .i64 _, .slice _ _ _]) 1 (by rfl) (by rfl)) (by rfl)) ?_
  refine WS_det hF (by rfl) (y_callL (by rfl) (by rfl) Tryd.call79 (fun w hw => Ct_eq (rready_any l a cap ae cape w hgn (hx.st w hw) (he.st w hw)) l.readyV_eq)) ?_
  refine WS_det hF (by rfl) (y_move (c := .tuple _) (by rfl)) ?_
  refine WS_det hF (by rfl) (y_extract (c := .agg _) (by rfl) (by rfl)) ?_
  refine WS_det hF (by rfl) (y_extract (c := .int .i64 _) (by rfl) (by rfl)) ?_
  refine WS_new hF (by rfl) (y_alloc Tryd.zeroValue63 (by rfl)) (fun b3 => ?_)
  refine WS_store hF (us := [.int .i64 _, .int .i64 _]) (i := 0) (by rfl) (by rfl) Tryd.sizeOf63 (by rfl) (by rfl) (by rfl) (by first | decide | exact Nat.le_of_ble_eq_true rfl | simp) ?_
  refine WS_det hF (by rfl) (y_assign (c := .int .i64 _) (by rfl)) ?_
  refine WS_nil ?_
  refine Then_normal ?_
  refine W_seq ?_
  refine W_seq ?_
  refine W_region_lit (fun ds => ?_)
  refine WS_det hF (by rfl) (y_move (c := .int .i64 _) (by rfl)) ?_
  refine WS_det hF (by rfl) (y_neq (by rfl) (by rfl)) ?_
  refine WS_nil ?_
  refine Then_normal ?_
  refine W_cond (by rfl) (fun c2 => ?_) (fun c2 => ?_)
  ·
    try simp only [Bool.not_eq_true', Bool.not_eq_false', decide_eq_true_eq, decide_eq_false_iff_not, ne_eq, Classical.not_not, Int.not_lt, Int.not_le] at c2
    refine W_seq ?_
    refine W_region_lit (fun ds => ?_)
    refine WS_det hF (by rfl) (y_buildL bd24 (by rfl)) ?_
    refine WS_det hF (by rfl) (y_move (c := .int .i64 _) (by rfl)) ?_
    refine WS_store hF (us := [.slice _ _ _, .slice _ _ _, .int .i64 _]) (i := 1) (by rfl) (by rfl) Tryd.sizeOf24 (by rfl) (by rfl) (by rfl) (by first | decide | exact Nat.le_of_ble_eq_true rfl | simp) ?_
    refine WS_det hF (by rfl) (y_assign (c := .int .i64 _) (by rfl)) ?_
    refine WS_nil ?_
    refine Then_normal ?_
    refine W_ret ?_
    refine Then_ret ?_
    refine Fin_ret [_, .int .i64 _] [] Tryd.results33 ⟨lvN (by rfl) Tryd.isAgg24 Tryd.sizeOf24 (Mem.own (us := [.slice _ _ _, .slice _ _ _, .int .i64 _]) 1 (by rfl) (by rfl)) (by rfl), by rfl, trivial⟩ HSub.nil ?_
    exact BegV.no c2
  ·
    try simp only [Bool.not_eq_true', Bool.not_eq_false', decide_eq_true_eq, decide_eq_false_iff_not, ne_eq, Classical.not_not, Int.not_lt, Int.not_le] at c2
    refine W_skip ?_
    refine Then_normal ?_
    refine W_seq ?_
    refine W_draw0 hF Trydmixed [8] (by decide +kernel) (fun ds => ?_)
    refine P_new (by rfl) (by rfl) (Over_nil (y_buildSliceL bs22_0 (by rfl))) ?_
    refine P_det (by rfl) (Over_out (by rfl) (Over_nil (y_move (c := .slice _ _ _) (by rfl)))) ?_
    refine P_new (by rfl) (by rfl) (Over_in (by rfl) (Over_nil (by rintro _ _ ⟨b5, rfl, rfl⟩; exact (y_append0 (by rfl) (by rfl) Tryd.underlying22 infInt (by rfl) hD.src (iv_len D) (by omega) (by omega))))) ?_
    refine P_det (by rfl) (Over_out (by rfl) (Over_out (by rfl) (Over_nil (y_move (c := .slice _ _ _) (by rfl))))) ?_
    refine P_det (by rfl) (Over_out (by rfl) (Over_out (by rfl) (Over_nil (y_len (by rfl) Tryd.runUnderlying22)))) ?_
    refine P_new (by rfl) (by rfl) (Over_out (by rfl) (Over_out (by rfl) (Over_nil (YR.mono (y_makeRow (n := D.length) (by rfl) (by rfl) (by rfl) (by rfl) Tryd.underlying22 infInt (by rfl) (by rfl) (by omega) (by omega) (zeros_iv D l)) (fun v Hn h => (show ∃ z2 q2, v = .slice z2 (begC0 l D).inn.length q2 ∧ NewRow 3 1 (begC0 l D).inn.length (iv (begC0 l D).inn) (.slice z2 (begC0 l D).inn.length q2) Hn by rw [begC0_inn]; obtain ⟨z2, q2, rfl, hr⟩ := h; exact ⟨z2, q2, rfl, z2, q2, rfl, hr⟩)))))) ?_
    refine P_det (by rfl) (Over_out (by rfl) (Over_out (by rfl) (Over_out (by rfl) (Over_nil (y_fieldAddr (by rfl) fa63_0))))) ?_
    refine P_det (by rfl) (Over_out (by rfl) (Over_out (by rfl) (Over_out (by rfl) (Over_nil (y_load1 (by rfl) Tryd.isAgg3 (Mem.own1 0 (by rfl) (by rfl))))))) ?_
    refine P_ali [23, 20] (aggP [.inr 20, .inr 23, .inl _]) (by rfl) (by rfl) (by rfl) (aggP_congr (by rfl)) (Over_in (by rfl) (Over_in (by rfl) (Over_out (by rfl) (Over_nil (by intro vb8 l20 hb8; obtain ⟨z1, q1, rfl, hr1⟩ := NewRow.sl hb8; intro vb9 l23 hb9; obtain ⟨z2, q2, rfl, hr2⟩ := hb9; exact (YD0_of (y_buildL bd24_0_1_2 (by rfl)))))))) ?_
    refine P_newSD 26 (by rfl) (by rfl) (by rfl) (Over_out (by rfl) (Over_out (by rfl) (Over_out (by rfl) (Over_out (by rfl) (Over_nil (y_alloc Tryd.zeroValue24 (by rfl))))))) ?_
    refine P_st 8 0 (by rfl) (by rfl) (by rfl) (by rfl) (by rfl) (Over_in (by rfl) (Over_in (by rfl) (Over_in (by rfl) (Over_out (by rfl) (Over_nil (by intro vb11 l20 hb11; obtain ⟨z1, q1, rfl, hr1⟩ := NewRow.sl hb11; intro vb12 l23 hb12; obtain ⟨z2, q2, rfl, hr2⟩ := hb12; rintro vb13 _ ⟨hvb13, rfl⟩; replace hvb13 : vb13 = .agg #[.slice _ _ _, .slice _ _ _, .int .i64 _] := hvb13; subst hvb13; exact (st_newD (by rfl) (by rfl) Tryd.sizeOf24 (by rfl) (by rfl) (by first | decide | exact Nat.le_of_ble_eq_true rfl | simp)))))))) ?_
    refine PW_end (by rfl) ?_
    refine OverAll_cons (fun w8 l8 => ?_)
    refine OverAll_cons (fun w26 l26 => ?_)
    refine OverAll_cons (fun w23 l23 => ?_)
    refine OverAll_cons (fun w20 l20 => ?_)
    refine OverAll_cons (fun w18 l18 => ?_)
    refine OverAll_nil ?_
    rintro ⟨⟨⟨⟨⟨-, h8⟩, h26⟩, h23⟩, h20⟩, h18⟩
    obtain ⟨b4, rfl, rfl⟩ := h18
    obtain ⟨z1, q1, rfl, hr1⟩ := NewRow.sl h20
    obtain ⟨z2, q2, rfl, hr2⟩ := h23
    obtain ⟨h26, rfl⟩ := h26
    replace h26 : w26 = .agg #[.slice _ _ _, .slice _ _ _, .int .i64 _] := h26
    subst h26
    obtain ⟨bc, rfl, rfl⟩ := h8
    refine Then_normal ?_
    refine W_seq ?_
    refine W_seq ?_
    refine W_sub (HSub.sub (List.sublist_append_right _ _)) ?_
    refine W_rot2 ?_
    refine W_region_lit (fun ds => ?_)
    refine WS_det hF (by rfl) (y_loadN (by rfl) Tryd.isAgg24 Tryd.sizeOf24 (Mem.own (us := [.slice _ _ _, .slice _ _ _, .int .i64 _]) 0 (by rfl) (by rfl)) (by rfl)) ?_
    refine WS_det hF (by rfl) (y_callL (by rfl) (by rfl) Tryd.call52 (fun w hw => rcans_any (begC0 l D) z1 q1 z2 q2 w htn (by rw [begC0_inn]; exact htn) (NewRow.ints hr1 rfl sbA w hw) (NewRow.ints hr2 rfl sbA w hw))) ?_
    refine WS_det hF (by rfl) (y_not (by rfl)) ?_
    refine WS_nil ?_
    refine Then_normal ?_
    refine W_cond (by rfl) (fun c5 => ?_) (fun c5 => ?_)
    ·
      try simp only [Bool.not_eq_true', Bool.not_eq_false', decide_eq_true_eq, decide_eq_false_iff_not, ne_eq, Classical.not_not, Int.not_lt, Int.not_le] at c5
      refine W_seq ?_
      refine W_region_lit (fun ds => ?_)
      refine WS_det hF (by rfl) (y_buildL bd24 (by rfl)) ?_
      refine WS_store hF (us := [.slice _ _ _, .slice _ _ _, .int .i64 _]) (i := 2) (by rfl) (by rfl) Tryd.sizeOf24 (by rfl) (by rfl) (by rfl) (by first | decide | exact Nat.le_of_ble_eq_true rfl | simp) ?_
      refine WS_det hF (by rfl) (y_assign (c := .int .i64 _) (by rfl)) ?_
      refine WS_nil ?_
      refine Then_normal ?_
      refine W_ret ?_
      refine Then_ret ?_
      refine Fin_ret [_, .int .i64 _] [] Tryd.results33 ⟨lvN (by rfl) Tryd.isAgg24 Tryd.sizeOf24 (Mem.own (us := [.slice _ _ _, .slice _ _ _, .int .i64 _]) 2 (by rfl) (by rfl)) (by rfl), by rfl, trivial⟩ HSub.nil ?_
      exact BegV.bad c2 c5
    ·
      try simp only [Bool.not_eq_true', Bool.not_eq_false', decide_eq_true_eq, decide_eq_false_iff_not, ne_eq, Classical.not_not, Int.not_lt, Int.not_le] at c5
      refine W_skip ?_
      refine Then_normal ?_
      refine W_seq ?_
      refine W_region_lit (fun ds => ?_)
      refine WS_det hF (by rfl) (y_loadN (by rfl) Tryd.isAgg24 Tryd.sizeOf24 (Mem.own (us := [.slice _ _ _, .slice _ _ _, .int .i64 _]) 0 (by rfl) (by rfl)) (by rfl)) ?_
      refine WS_store hF (us := [.slice _ _ _, .slice _ _ _, .int .i64 _]) (i := 2) (by rfl) (by rfl) Tryd.sizeOf24 (by rfl) (by rfl) (by rfl) (by first | decide | exact Nat.le_of_ble_eq_true rfl | simp) ?_
      refine WS_det hF (by rfl) (y_assign (c := .int .i64 _) (by rfl)) ?_
      refine WS_nil ?_
      refine Then_normal ?_
      refine W_ret ?_
      refine Fin_ret [_, .int .i64 _] (l20 ++ l23) Tryd.results33 ⟨lvN (by rfl) Tryd.isAgg24 Tryd.sizeOf24 (Mem.own (us := [.slice _ _ _, .slice _ _ _, .int .i64 _]) 2 (by rfl) (by rfl)) (by rfl), by rfl, trivial⟩ (HSub.sub sbA) ?_
      exact BegV.ok c2 c5 ⟨z1, q1, z2, q2, l20, l23, rfl, hr1, hr2, rfl⟩
end Go.Proofs.YtjekjehgmljbgaaDoor.T

/- The log of a tank with what was poured: pure, and the reference's walk. -/
namespace Go.Proofs.YtjekjehgmljbgaaDoor.T
open Go.RowKit Go.Proofs Go.Eng
set_option maxRecDepth 100000
set_option maxHeartbeats 2000000
set_option linter.unusedVariables false
set_option linter.unusedSimpArgs false

theorem bd77_0_1_2 {x0 : Int} {x1 : Int} {x2_0 : Int} {x2_1 : Int} : ∀ w, (Instr.build 77 #[(0, .int .i64 x0), (1, .int .i64 x1), (2, .agg #[.int .i64 x2_0, .int .i64 x2_1])]).run Tryd.prog w = .ok (.agg #[.int .i64 x0, .int .i64 x1, .int .i64 x2_0, .int .i64 x2_1]) w := fun w => by kernel_rfl

def dayK (l : Lg) : Nat → Int
  | 0 => 0
  | k + 1 => (l.e k).day
def dK (c : Cn) (p : List Po) (k : Nat) : Int := (c.runK p (k + 1)).a - (c.runK p k).a
def wrX (d n : Int) : En := if n < 0 then ⟨d, 2, ⟨-n, -n⟩⟩ else ⟨d, 1, ⟨n, n⟩⟩
def wrK (l : Lg) (c : Cn) (p : List Po) : Nat → Lg
  | 0 => l
  | k + 1 => if dK c p k = 0 then wrK l c p k else (wrK l c p k).put (wrX (dayK l l.es.length) (dK c p k))
def wrE (l : Lg) (c : Cn) (p : List Po) (k : Nat) : Int := if dK c p k = 0 then 0 else (wrK l c p k).addE (wrX (dayK l l.es.length) (dK c p k))
def wrBad (l : Lg) (c : Cn) (p : List Po) : Nat → Nat → Option Nat
  | _, 0 => none
  | k, m + 1 => if wrE l c p k = 0 then wrBad l c p (k + 1) m else some k
def wtE (l : Lg) (c : Cn) (p : List Po) : Int := if l.err = 0 then if c.plE p = 0 then match wrBad l c p 0 p.length with | none => 0 | some k => wrE l c p k else c.plE p else l.err
def wtL (l : Lg) (c : Cn) (p : List Po) : Lg := if l.err = 0 then if c.plE p = 0 then match wrBad l c p 0 p.length with | none => wrK l c p p.length | some _ => Lg.zero else Lg.zero else Lg.zero
theorem wrBad_none {l : Lg} {c : Cn} {p : List Po} : ∀ {m k : Nat}, (∀ j, k ≤ j → j < k + m → wrE l c p j = 0) → wrBad l c p k m = none
  | 0, _, _ => rfl
  | m + 1, k, h => by
    unfold wrBad
    rw [if_pos (h k (Nat.le_refl _) (by omega))]
    exact wrBad_none fun j h1 h2 => h j (by omega) (by omega)
theorem wrBad_some {l : Lg} {c : Cn} {p : List Po} {i : Nat} (hb : wrE l c p i ≠ 0) : ∀ {m k : Nat}, k ≤ i → i < k + m → (∀ j, k ≤ j → j < i → wrE l c p j = 0) → wrBad l c p k m = some i
  | 0, _, _, h2, _ => by omega
  | m + 1, k, h1, h2, h => by
    unfold wrBad
    by_cases hk : k = i
    · subst hk; rw [if_neg hb]
    · rw [if_pos (h k (Nat.le_refl _) (by omega))]
      exact wrBad_some hb (by omega) (by omega) fun j h3 h4 => h j (by omega) h4
theorem wrK_tk (l : Lg) (c : Cn) (p : List Po) : ∀ k, (wrK l c p k).tk = l.tk
  | 0 => rfl
  | k + 1 => by
    unfold wrK
    split
    · exact wrK_tk l c p k
    · exact wrK_tk l c p k
theorem Cn.badK_all {c : Cn} {l : List Po} : ∀ {m k : Nat}, c.badK l k m = none → ∀ j, k ≤ j → j < k + m → c.pE (c.runK l j) (l.getD j Po.z) = 0
  | 0, _, _, j, h1, h2 => by omega
  | m + 1, k, h, j, h1, h2 => by
    unfold Cn.badK at h
    split at h
    · rename_i h0
      by_cases hj : j = k
      · subst hj; exact h0
      · exact Cn.badK_all h j (by omega) (by omega)
    · cases h
theorem Cn.plE_zero {c : Cn} {l : List Po} (h : c.plE l = 0) : c.okB = true ∧ ∀ j, j < l.length → c.pE (c.runK l j) (l.getD j Po.z) = 0 := by
  unfold Cn.plE at h
  split at h
  · rename_i hok
    refine ⟨hok, fun j hj => ?_⟩
    cases hb : c.bad l with
    | none => exact Cn.badK_all hb j (Nat.zero_le _) (by omega)
    | some k =>
      rw [hb] at h
      have hk : ∀ {m i : Nat}, c.badK l i m = some k → c.pE (c.runK l k) (l.getD k Po.z) ≠ 0 := by
        intro m
        induction m with
        | zero => intro i h; cases h
        | succ m ih =>
          intro i h
          unfold Cn.badK at h
          split at h
          · exact ih h
          · rename_i h0; cases h; exact h0
      exact absurd h (hk hb)
  · cases h
theorem Cn.to_a (c : Cn) (x : Co) {f t : Nat} (hf : f < 4) (ht : t < 4) (hft : f ≠ t) : (c.to x f t).a = if f = 0 then x.a - c.amt x f t else if t = 0 then x.a + c.amt x f t else x.a := by
  have := c.to_g x hf ht (k := 0) (by decide)
  change (c.to x f t).a = _ at this
  rw [this]
  by_cases h1 : f = 0
  · subst h1
    rw [if_neg hft, if_pos rfl, if_pos rfl]; rfl
  · by_cases h2 : t = 0
    · subst h2
      rw [if_pos rfl, if_neg h1, if_pos rfl]; rfl
    · rw [if_neg (Ne.symm h2), if_neg (Ne.symm h1), if_neg h1, if_neg h2]; rfl
theorem dK_facts {c : Cn} {p : List Po} {k : Nat} (hok : c.Ok) (hp : c.pE (c.runK p k) (p.getD k Po.z) = 0) : (dK c p k = 0 ↔ (p.getD k Po.z).f ≠ 0 ∧ (p.getD k Po.z).t ≠ 0) := by
  have h3 := hok.n3
  obtain ⟨hv, hc⟩ := Cn.pE_zero.1 hp
  have hv' := Cn.vld_iff.1 hv
  have hc' := (Cn.canB_iff.1 hc).2
  have ha := c.to_a (c.runK p k) (f := (p.getD k Po.z).f.toNat) (t := (p.getD k Po.z).t.toNat) (by omega) (by omega) (by omega)
  have hr : c.runK p (k + 1) = c.to (c.runK p k) (p.getD k Po.z).f.toNat (p.getD k Po.z).t.toNat := rfl
  unfold dK
  rw [hr, ha]
  generalize c.amt (c.runK p k) (p.getD k Po.z).f.toNat (p.getD k Po.z).t.toNat = m at *
  split
  · omega
  · split <;> omega
def WrtV (l : Lg) (c : Cn) (p : List Po) (v : Value) (Hn : List Blk) : Prop := ∃ v0, v = .tuple #[v0, .int .i64 (wtE l c p)] ∧ TwinL (wtL l c p) v0 Hn
theorem WrtV.bad {l : Lg} {c : Cn} {p : List Po} (h : ¬ l.err = 0) : WrtV l c p (.tuple #[zeroLg, .int .i64 l.err]) [] := by
  refine ⟨zeroLg, ?_, ?_⟩
  · unfold wtE; rw [if_neg h]
  · unfold wtL; rw [if_neg h]; exact twin_zero
theorem WrtV.play {l : Lg} {c : Cn} {p : List Po} (h : l.err = 0) (hp : ¬ c.plE p = 0) : WrtV l c p (.tuple #[zeroLg, .int .i64 (c.plE p)]) [] := by
  refine ⟨zeroLg, ?_, ?_⟩
  · unfold wtE; rw [if_pos h, if_neg hp]
  · unfold wtL; rw [if_pos h, if_neg hp]; exact twin_zero
theorem WrtV.stop {l : Lg} {c : Cn} {p : List Po} {k : Nat} {e : Int} (h : l.err = 0) (hp : c.plE p = 0) (hk : k < p.length) (hj : ∀ j, j < k → wrE l c p j = 0) (he : wrE l c p k = e) (h0 : ¬ e = 0) : WrtV l c p (.tuple #[zeroLg, .int .i64 e]) [] := by
  have hb : wrBad l c p 0 p.length = some k := wrBad_some (by rw [he]; exact h0) (Nat.zero_le _) (by omega) fun j _ h => hj j h
  refine ⟨zeroLg, ?_, ?_⟩
  · unfold wtE; rw [if_pos h, if_pos hp, hb]; simp only [he]
  · unfold wtL; rw [if_pos h, if_pos hp, hb]; exact twin_zero
theorem WrtV.go {l : Lg} {c : Cn} {p : List Po} {v0 : Value} {Hn : List Blk} (h : l.err = 0) (hp : c.plE p = 0) (hj : ∀ j, j < p.length → wrE l c p j = 0) (hT : TwinL (wrK l c p p.length) v0 Hn) : WrtV l c p (.tuple #[v0, .int .i64 0]) Hn := by
  have hb : wrBad l c p 0 p.length = none := wrBad_none fun j _ h => hj j (by omega)
  refine ⟨v0, ?_, ?_⟩
  · unfold wtE; rw [if_pos h, if_pos hp, hb]
  · unfold wtL; rw [if_pos h, if_pos hp, hb]; exact hT
/-- Ints that can be read, old ones or those in some blocks. -/
def RdI (w0 : World) (Hs : List Blk) (a : Option Addr) (n cap : Nat) (xs : List Int) : Prop := ∀ (C : Ctx) (H : List Blk) (w : World), C.w0 = w0 → Hs.Sublist H → St C H w → Ints w a n cap xs
theorem RdI.old {w0 : World} {Hs : List Blk} {a : Option Addr} {n cap : Nat} {xs : List Int} (h : Ints w0 a n cap xs) : RdI w0 Hs a n cap xs := fun C H w hC _ hw => by subst hC; exact h.st w hw
theorem RdI.new {w0 : World} {Hs : List Blk} {a : Option Addr} {n cap : Nat} {xs : List Int} {T : TypeId} {Hn : List Blk} (h : NewRow T 1 n (iv xs) (.slice a n cap) Hn) (hl : xs.length = n) (hs : Hn.Sublist Hs) : RdI w0 Hs a n cap xs := fun C H w _ h2 hw => NewRow.ints h hl (hs.trans h2) w hw
def lgV (l : Lg) (a : Option Addr) (cap : Nat) (ae : Option Addr) (cape : Nat) : List Value := [.slice a l.tk.n cap, .int .i64 l.tk.leak, .int .i64 l.tk.foot, .int .i64 l.start.lo, .int .i64 l.start.hi, .slice ae l.es.length cape]
def cnV (c : Cn) (a1 : Option Addr) (p1 : Nat) (a2 : Option Addr) (p2 : Nat) : List Value := [.slice a1 c.n p1, .slice a2 c.inn.length p2, .int .i64 c.st]
theorem twinL_of {l : Lg} {a : Option Addr} {cap : Nat} {ae : Option Addr} {cape : Nat} {Hn : List Blk} (h : TwinL l (.agg (lgV l a cap ae cape).toArray) Hn) : ∃ H1 H2, NewRow 3 1 l.tk.n (iv l.tk.pints) (.slice a l.tk.n cap) H1 ∧ NewRow 77 4 l.es.length (rowOf En.cells l.e l.es.length) (.slice ae l.es.length cape) H2 ∧ Hn = H1 ++ H2 := by
  obtain ⟨_, _, _, _, H1, H2, he, h1, h2, rfl⟩ := h
  cases he
  exact ⟨H1, H2, h1, h2, rfl⟩
theorem rwritten_any (l : Lg) (a : Option Addr) (cap : Nat) (ae : Option Addr) (cape : Nat) (c : Cn) (a1 : Option Addr) (p1 : Nat) (a2 : Option Addr) (p2 : Nat) (p : List Po) (la : Option Addr) (lcap : Nat) (w : World) (hpl : p.length ≤ 1000000) (hgn : l.tk.n ≤ 1000000) (hge : l.es.length ≤ 1000000) (hx : Ints w a l.tk.n cap l.tk.pints) (he : Ens w ae l.es.length cape l.es) (hn : c.n ≤ 1000000) (hm : c.inn.length ≤ 1000000) (h1 : Ints w a1 c.n p1 c.sz) (h2 : Ints w a2 c.inn.length p2 c.inn) (hp : Pos w la p.length lcap p) :
    Ct Tryd.prog 35 #[.agg #[.slice a l.tk.n cap, .int .i64 l.tk.leak, .int .i64 l.tk.foot, .int .i64 l.start.lo, .int .i64 l.start.hi, .slice ae l.es.length cape], .agg #[.slice a1 c.n p1, .slice a2 c.inn.length p2, .int .i64 c.st], .slice la p.length lcap] w (WrtV l c p) := by
  have hF := wide_wide
  refine Ct_start (args := [_, _, _]) Tryd.func35 (by rfl) Tryd.ntmps35 (by rfl) ?_
  refine W_seq ?_
  refine W_region_lit (fun ds => ?_)
  refine WS_new hF (by rfl) (y_box (by rfl)) (fun b1 => ?_)
  refine WS_new hF (by rfl) (y_box (by rfl)) (fun b2 => ?_)
  refine WS_new hF (by rfl) (y_alloc Tryd.zeroValue66 (by rfl)) (fun b3 => ?_)
  refine WS_det hF (by rfl) (y_assign (c := .int .i64 _) (by rfl)) ?_
  refine WS_nil ?_
  refine Then_normal ?_
  refine W_seq ?_
  refine W_seq ?_
  refine W_region_lit (fun ds => ?_)
  refine WS_det hF (by rfl) (y_loadN (by rfl) Tryd.isAgg66 Tryd.sizeOf66 (Mem.own (us := [.slice _ _ _, .int .i64 _, .int .i64 _, .int .i64 _, .int .i64 _, .slice _ _ _]) 2 (by rfl) (by rfl)) (by rfl)) ?_
  refine WS_det hF (by rfl) (y_callL (by rfl) (by rfl) Tryd.call83 (fun w hw => rvalid_any l a cap ae cape w hgn (hx.st w hw) (he.st w hw))) ?_
  refine WS_det hF (by rfl) (y_assign (c := .int .i64 _) (by rfl)) ?_
  refine WS_nil ?_
  refine Then_normal ?_
  refine W_seq ?_
  refine W_region_lit (fun ds => ?_)
  refine WS_det hF (by rfl) (y_move (c := .int .i64 _) (by rfl)) ?_
  refine WS_det hF (by rfl) (y_neq (by rfl) (by rfl)) ?_
  refine WS_nil ?_
  refine Then_normal ?_
  refine W_cond (by rfl) (fun c2 => ?_) (fun c2 => ?_)
  ·
    try simp only [Bool.not_eq_true', Bool.not_eq_false', decide_eq_true_eq, decide_eq_false_iff_not, ne_eq, Classical.not_not, Int.not_lt, Int.not_le] at c2
    refine W_seq ?_
    refine W_region_lit (fun ds => ?_)
    refine WS_det hF (by rfl) (y_buildL bd66 (by rfl)) ?_
    refine WS_det hF (by rfl) (y_move (c := .int .i64 _) (by rfl)) ?_
    refine WS_store hF (us := [.slice _ _ _, .int .i64 _, .int .i64 _, .int .i64 _, .int .i64 _, .slice _ _ _]) (i := 0) (by rfl) (by rfl) Tryd.sizeOf66 (by rfl) (by rfl) (by rfl) (by first | decide | exact Nat.le_of_ble_eq_true rfl | simp) ?_
    refine WS_det hF (by rfl) (y_assign (c := .int .i64 _) (by rfl)) ?_
    refine WS_nil ?_
    refine Then_normal ?_
    refine W_ret ?_
    refine Then_ret ?_
    refine Fin_ret [_, .int .i64 _] [] Tryd.results35 ⟨lvN (by rfl) Tryd.isAgg66 Tryd.sizeOf66 (Mem.own (us := [.slice _ _ _, .int .i64 _, .int .i64 _, .int .i64 _, .int .i64 _, .slice _ _ _]) 0 (by rfl) (by rfl)) (by rfl), by rfl, trivial⟩ HSub.nil ?_
    exact WrtV.bad c2
  ·
    try simp only [Bool.not_eq_true', Bool.not_eq_false', decide_eq_true_eq, decide_eq_false_iff_not, ne_eq, Classical.not_not, Int.not_lt, Int.not_le] at c2
    refine W_skip ?_
    refine Then_normal ?_
    refine W_seq ?_
    refine W_seq ?_
    refine W_region_lit (fun ds => ?_)
    refine WS_det hF (by rfl) (y_loadN (by rfl) Tryd.isAgg24 Tryd.sizeOf24 (Mem.own (us := [.slice _ _ _, .slice _ _ _, .int .i64 _]) 1 (by rfl) (by rfl)) (by rfl)) ?_
    refine WS_det hF (by rfl) (y_move (c := .slice _ _ _) (by rfl)) ?_
    refine WS_gen hF (by rfl) (y_callL (by rfl) (by rfl) Tryd.call14 (fun w hw => rplay_any c a1 p1 a2 p2 p la lcap w hpl hn hm (h1.st w hw) (h2.st w hw) (hp.st w hw))) ?_
    rintro _ _ ⟨_, rfl, _, _, _, _, H1, H2, rfl, _, _, rfl⟩
    refine WS_back ?_
    refine WS_det hF (by rfl) (y_move (c := .tuple _) (by rfl)) ?_
    refine WS_det hF (by rfl) (y_extract (c := .agg _) (by rfl) (by rfl)) ?_
    refine WS_det hF (by rfl) (y_extract (c := .int .i64 _) (by rfl) (by rfl)) ?_
    refine WS_det hF (by rfl) (y_extract (c := .int .i64 _) (by rfl) (by rfl)) ?_
    refine WS_det hF (by rfl) (y_extract (c := .int .i64 _) (by rfl) (by rfl)) ?_
    refine WS_new hF (by rfl) (y_alloc Tryd.zeroValue24 (by rfl)) (fun b4 => ?_)
    refine WS_store hF (us := [.slice _ _ _, .slice _ _ _, .int .i64 _]) (i := 0) (by rfl) (by rfl) Tryd.sizeOf24 (by rfl) (by rfl) (by rfl) (by first | decide | exact Nat.le_of_ble_eq_true rfl | simp) ?_
    refine WS_det hF (by rfl) (y_assign (c := .int .i64 _) (by rfl)) ?_
    refine WS_det hF (by rfl) (y_assign (c := .int .i64 _) (by rfl)) ?_
    refine WS_det hF (by rfl) (y_assign (c := .int .i64 _) (by rfl)) ?_
    refine WS_nil ?_
    refine Then_normal ?_
    refine W_seq ?_
    refine W_region_lit (fun ds => ?_)
    refine WS_det hF (by rfl) (y_move (c := .int .i64 _) (by rfl)) ?_
    refine WS_det hF (by rfl) (y_neq (by rfl) (by rfl)) ?_
    refine WS_nil ?_
    refine Then_normal ?_
    refine W_cond (by rfl) (fun c5 => ?_) (fun c5 => ?_)
    ·
      try simp only [Bool.not_eq_true', Bool.not_eq_false', decide_eq_true_eq, decide_eq_false_iff_not, ne_eq, Classical.not_not, Int.not_lt, Int.not_le] at c5
      refine W_seq ?_
      refine W_region_lit (fun ds => ?_)
      refine WS_det hF (by rfl) (y_buildL bd66 (by rfl)) ?_
      refine WS_det hF (by rfl) (y_move (c := .int .i64 _) (by rfl)) ?_
      refine WS_store hF (us := [.slice _ _ _, .int .i64 _, .int .i64 _, .int .i64 _, .int .i64 _, .slice _ _ _]) (i := 1) (by rfl) (by rfl) Tryd.sizeOf66 (by rfl) (by rfl) (by rfl) (by first | decide | exact Nat.le_of_ble_eq_true rfl | simp) ?_
      refine WS_det hF (by rfl) (y_assign (c := .int .i64 _) (by rfl)) ?_
      refine WS_nil ?_
      refine Then_normal ?_
      refine W_ret ?_
      refine Then_ret ?_
      refine Fin_ret [_, .int .i64 _] [] Tryd.results35 ⟨lvN (by rfl) Tryd.isAgg66 Tryd.sizeOf66 (Mem.own (us := [.slice _ _ _, .int .i64 _, .int .i64 _, .int .i64 _, .int .i64 _, .slice _ _ _]) 1 (by rfl) (by rfl)) (by rfl), by rfl, trivial⟩ HSub.nil ?_
      exact WrtV.play c2 c5
    ·
      try simp only [Bool.not_eq_true', Bool.not_eq_false', decide_eq_true_eq, decide_eq_false_iff_not, ne_eq, Classical.not_not, Int.not_lt, Int.not_le] at c5
      obtain ⟨hokB, hpj⟩ := Cn.plE_zero c5
      have hok := Cn.ok_iff.1 hokB
      have hn3 := hok.n3
      refine W_skip ?_
      refine Then_normal ?_
      refine W_seq ?_
      refine W_region_lit (fun ds => ?_)
      refine WS_det hF (by rfl) (y_loadN (by rfl) Tryd.isAgg66 Tryd.sizeOf66 (Mem.own (us := [.slice _ _ _, .int .i64 _, .int .i64 _, .int .i64 _, .int .i64 _, .slice _ _ _]) 3 (by rfl) (by rfl)) (by rfl)) ?_
      refine WS_gen hF (by rfl) (y_callL (by rfl) (by rfl) Tryd.call31 (fun w hw => twin_any l a cap ae cape w hge hgn (hx.st w hw) (he.st w hw))) ?_
      rintro _ HL ⟨ga, gc, gae, gce, G1, G2, rfl, hg1, hg2, rfl⟩
      refine WS_back ?_
      refine WS_new hF (by rfl) (y_alloc Tryd.zeroValue66 (by rfl)) (fun bl => ?_)
      refine WS_store hF (us := [.slice _ _ _, .int .i64 _, .int .i64 _, .int .i64 _, .int .i64 _, .slice _ _ _]) (i := 0) (by rfl) (by rfl) Tryd.sizeOf66 (by rfl) (by rfl) (by rfl) (by first | decide | exact Nat.le_of_ble_eq_true rfl | simp) ?_
      refine WS_det hF (by rfl) (y_assign (c := .int .i64 _) (by rfl)) ?_
      refine WS_nil ?_
      refine Then_normal ?_
      refine W_J1H (γ := Int) (fun d => d = dayK l l.es.length) [(2, .slice _ _ _), (4, .pointer _), (6, .pointer _), (7, .int .i64 _), (13, .pointer _)] (fun d => [(14, .int .i64 d)]) slt ?_ ?_
      ·
        rintro _ e rfl
        refine W_seq ?_
        refine W_seq ?_
        have hc0 : c.of (c.runK p 0) = c := hok.co_of
        have hR1 : RdI w (G1 ++ G2) a1 (c.of (c.runK p 0)).n p1 (c.of (c.runK p 0)).sz := RdI.old h1
        have hR2 : RdI w (G1 ++ G2) a2 (c.of (c.runK p 0)).inn.length p2 (c.of (c.runK p 0)).inn := by rw [hc0]; exact RdI.old h2
        rw [show CB [.slice a1 c.n p1, .slice a2 c.inn.length p2, .int .i64 c.st] 24 = CB (cnV (c.of (c.runK p 0)) a1 p1 a2 p2) 24 by rw [hc0]; rfl]
        refine W_region_lit (fun ds => ?_)
        refine WS_det hF (by rfl) (y_move (c := .slice _ _ _) (by rfl)) ?_
        refine WS_det hF (by rfl) (y_len (by rfl) Tryd.runUnderlying27) ?_
        refine WS_det hF (by rfl) (y_move (c := .int .i64 _) (by rfl)) ?_
        refine WS_nil ?_
        refine Then_normal ?_
        refine W_block ?_
        refine W_loop (γ := Nat × (Option Addr × Nat × Option Addr × Nat) × (Option Addr × Nat × Option Addr × Nat) × List Blk) (fun q => q.1 ≤ p.length ∧ (∀ j, j < q.1 → wrE l c p j = 0) ∧ (∃ HL, TwinL (wrK l c p q.1) (.agg (lgV (wrK l c p q.1) q.2.1.1 q.2.1.2.1 q.2.1.2.2.1 q.2.1.2.2.2).toArray) HL ∧ HL.Sublist q.2.2.2) ∧ RdI w q.2.2.2 q.2.2.1.1 (c.of (c.runK p q.1)).n q.2.2.1.2.1 (c.of (c.runK p q.1)).sz ∧ RdI w q.2.2.2 q.2.2.1.2.2.1 (c.of (c.runK p q.1)).inn.length q.2.2.1.2.2.2 (c.of (c.runK p q.1)).inn) (fun q => [(4, .pointer (some ⟨b2, 0, none⟩)), (6, .pointer (some ⟨b3, 0, none⟩)), (13, .pointer (some ⟨bl, 0, none⟩)), (14, .int .i64 (dayK l l.es.length)), (56, .slice la p.length lcap), (57, .int .i64 (p.length : Int)), (58, .int .i64 (q.1 : Int))]) (fun q => (bl, CB (lgV (wrK l c p q.1) q.2.1.1 q.2.1.2.1 q.2.1.2.2.1 q.2.1.2.2.2) 66) :: (b3, CB [.slice none 0 0, .int .i64 0, .int .i64 0, .int .i64 0, .int .i64 0, .slice none 0 0] 66) :: (b2, CB (cnV (c.of (c.runK p q.1)) q.2.2.1.1 q.2.2.1.2.1 q.2.2.1.2.2.1 q.2.2.1.2.2.2) 24) :: q.2.2.2) (fun q => p.length - q.1) ((0, (ga, gc, gae, gce), (a1, p1, a2, p2), G1 ++ G2)) ⟨Nat.zero_le _, (fun j h => absurd h (Nat.not_lt_zero _)), ⟨_, ⟨_, _, _, _, G1, G2, rfl, hg1, hg2, rfl⟩, List.Sublist.refl _⟩, hR1, hR2⟩ (by repeat (first | exact trivial | refine ⟨by rfl, ?_⟩)) (sbA) ?_
        rintro ⟨k, ⟨ga, gc, gae, gce⟩, ⟨y1, r1, y2, r2⟩, HX⟩ e ⟨hk, hj, ⟨HL, hT, hHL⟩, hR1, hR2⟩
        refine W_seq ?_
        refine W_region_lit (fun ds => ?_)
        refine WS_det hF (by rfl) (y_lss (by rfl) (by rfl)) ?_
        refine WS_nil ?_
        refine Then_normal ?_
        refine W_seq ?_
        refine W_cond (by rfl) (fun c12 => ?_) (fun c12 => ?_)
        ·
          try simp only [Bool.not_eq_true', Bool.not_eq_false', decide_eq_true_eq, decide_eq_false_iff_not, ne_eq, Classical.not_not, Int.not_lt, Int.not_le] at c12
          have hin := hok.run_in (l := p) (k := k) fun j hj => hpj j (by omega)
          have hin2 := hok.run_in (l := p) (k := k + 1) fun j hj => hpj j (by omega)
          have hokx := hok.of hin
          have hokx2 := hok.of hin2
          have hco := hok.of_co hin
          have hpk := hpj k (by omega)
          have hdk := dK_facts hok hpk
          obtain ⟨bp, op, rfl, hcp⟩ := hp.cell k (by omega)
          change At w bp _ (p.getD k Po.z).cells at hcp
          have b1 := hokx.st0
          have b2' := hokx.st1
          have b3' := hokx2.st0
          have b4' := hokx2.st1
          refine W_skip ?_
          refine Then_normal ?_
          refine W_seq ?_
          refine W_block ?_
          refine W_seq ?_
          refine W_region_lit (fun ds => ?_)
          refine WS_det hF (by rfl) (y_index (k := k) (by rfl) (by rfl) (by first | rfl | omega) (by first | decide | omega) Tryd.runUnderlying27 Tryd.sizeOf26) ?_
          refine WS_det hF (by rfl) (y_loadN (by rfl) Tryd.isAgg26 Tryd.sizeOf26 (by first | exact Mem.old (by assumption) | exact Mem.oldAt (us := [.int .i64 _, .int .i64 _]) (by assumption) (by rfl) | exact Mem.oldAtL (us := [.int .i64 _, .int .i64 _]) (by assumption) (by rfl) (by rfl)) (by rfl)) ?_
          refine WS_new hF (by rfl) (y_alloc Tryd.zeroValue26 (by rfl)) (fun b5 => ?_)
          refine WS_store hF (us := [.int .i64 _, .int .i64 _]) (i := 0) (by rfl) (by rfl) Tryd.sizeOf26 (by rfl) (by rfl) (by rfl) (by first | decide | exact Nat.le_of_ble_eq_true rfl | simp) ?_
          refine WS_nil ?_
          refine Then_normal ?_
          refine W_seq ?_
          refine W_region_lit (fun ds => ?_)
          refine WS_det hF (by rfl) (y_loadN (by rfl) Tryd.isAgg24 Tryd.sizeOf24 (Mem.own (us := [.slice _ _ _, .slice _ _ _, .int .i64 _]) 3 (by rfl) (by rfl)) (by rfl)) ?_
          refine WS_det hF (by rfl) (y_loadN (by rfl) Tryd.isAgg26 Tryd.sizeOf26 (Mem.own (us := [.int .i64 _, .int .i64 _]) 0 (by rfl) (by rfl)) (by rfl)) ?_
          refine WS_gen hF (by rfl) (y_callL (by rfl) (by rfl) Tryd.call12 (fun w hw => rpour_any (c.of (c.runK p k)) y1 r1 y2 r2 (p.getD k Po.z) w hn (by rw [hokx.len]; exact hn) (hR1 _ _ w rfl sbA hw) (hR2 _ _ w rfl sbA hw))) ?_
          rintro _ _ ⟨_, rfl, x1, t1, x2, t2, J1, J2, rfl, hq1, hq2, rfl⟩
          refine WS_back ?_
          have hC : (c.of (c.runK p k)).poC (p.getD k Po.z) = c.of (c.runK p (k + 1)) := by
            unfold Cn.poC
            rw [if_pos (Cn.ok_iff.2 hokx), if_pos (by rw [Cn.of_pE hco]; exact hpk), hco]; rfl
          rw [hC] at hq1 hq2
          rw [hC]
          have hS1 : RdI w (HX ++ (J1 ++ J2)) x1 (c.of (c.runK p (k + 1))).n t1 (c.of (c.runK p (k + 1))).sz := RdI.new hq1 rfl sbA
          have hS2 : RdI w (HX ++ (J1 ++ J2)) x2 (c.of (c.runK p (k + 1))).inn.length t2 (c.of (c.runK p (k + 1))).inn := RdI.new hq2 rfl sbA
          refine WS_det hF (by rfl) (y_move (c := .tuple _) (by rfl)) ?_
          refine WS_det hF (by rfl) (y_extract (c := .agg _) (by rfl) (by rfl)) ?_
          refine WS_det hF (by rfl) (y_extract (c := .int .i64 _) (by rfl) (by rfl)) ?_
          refine WS_new hF (by rfl) (y_alloc Tryd.zeroValue24 (by rfl)) (fun b6 => ?_)
          refine WS_store hF (us := [.slice _ _ _, .slice _ _ _, .int .i64 _]) (i := 0) (by rfl) (by rfl) Tryd.sizeOf24 (by rfl) (by rfl) (by rfl) (by first | decide | exact Nat.le_of_ble_eq_true rfl | simp) ?_
          refine WS_det hF (by rfl) (y_assign (c := .int .i64 _) (by rfl)) ?_
          refine WS_nil ?_
          refine Then_normal ?_
          refine W_seq ?_
          refine W_region_lit (fun ds => ?_)
          refine WS_det hF (by rfl) (y_fieldAddr (by rfl) fa24_2) ?_
          refine WS_det hF (by rfl) (y_load1 (by rfl) Tryd.isAgg3 (Mem.own1 0 (by rfl) (by rfl))) ?_
          refine WS_det hF (by rfl) (y_fieldAddr (by rfl) fa24_2) ?_
          refine WS_det hF (by rfl) (y_load1 (by rfl) Tryd.isAgg3 (Mem.own1 4 (by rfl) (by rfl))) ?_
          refine WS_det hF (by rfl) (y_sub (by rfl) (by rfl) (by unfold I64; simp only; omega)) ?_
          refine WS_det hF (by rfl) (y_assign (c := .int .i64 _) (by rfl)) ?_
          refine WS_nil ?_
          refine Then_normal ?_
          refine W_seq ?_
          refine W_region_lit (fun ds => ?_)
          refine WS_det hF (by rfl) (y_loadN (by rfl) Tryd.isAgg24 Tryd.sizeOf24 (Mem.own (us := [.slice _ _ _, .slice _ _ _, .int .i64 _]) 0 (by rfl) (by rfl)) (by rfl)) ?_
          refine WS_store hF (us := [.slice _ _ _, .slice _ _ _, .int .i64 _]) (i := 4) (by rfl) (by rfl) Tryd.sizeOf24 (by rfl) (by rfl) (by rfl) (by first | decide | exact Nat.le_of_ble_eq_true rfl | simp) ?_
          refine WS_nil ?_
          refine Then_normal ?_
          refine W_seq ?_
          refine W_seq ?_
          refine W_region_lit (fun ds => ?_)
          refine WS_det hF (by rfl) (y_move (c := .int .i64 _) (by rfl)) ?_
          refine WS_det hF (by rfl) (y_eql (by rfl) (by rfl)) ?_
          refine WS_nil ?_
          refine Then_normal ?_
          refine W_cond (by rfl) (fun c17 => ?_) (fun c17 => ?_)
          ·
            try simp only [Bool.not_eq_true', Bool.not_eq_false', decide_eq_true_eq, decide_eq_false_iff_not, ne_eq, Classical.not_not, Int.not_lt, Int.not_le] at c17
            have hz : dK c p k = 0 := c17
            have hK : wrK l c p (k + 1) = wrK l c p k := if_pos hz
            have hj2 : ∀ j, j < k + 1 → wrE l c p j = 0 := fun j h => by by_cases hjk : j = k; (subst hjk; exact if_pos hz); exact hj j (by omega)
            have hT2 : TwinL (wrK l c p (k + 1)) (.agg (lgV (wrK l c p (k + 1)) ga gc gae gce).toArray) HL := by rw [hK]; exact hT
            rw [← hK]
            refine W_exit ?_
            refine Then_exit ?_
            refine InB_same ?_
            refine Then_normal ?_
            refine W_region_lit (fun ds => ?_)
            refine WS_det hF (by rfl) (y_add (by rfl) (by rfl) (by unfold I64; omega)) ?_
            refine WS_det hF (by rfl) (y_move (c := .int .i64 _) (by rfl)) ?_
            refine WS_nil ?_
            exact Loop_next (k + 1, (ga, gc, gae, gce), (x1, t1, x2, t2), HX ++ (J1 ++ J2)) ⟨by simp only; omega, hj2, ⟨HL, hT2, hHL.trans (List.sublist_append_left _ _)⟩, hS1, hS2⟩ (by repeat (first | exact trivial | refine ⟨by rfl, ?_⟩)) sbA (by simp only; omega)
          ·
            try simp only [Bool.not_eq_true', Bool.not_eq_false', decide_eq_true_eq, decide_eq_false_iff_not, ne_eq, Classical.not_not, Int.not_lt, Int.not_le] at c17
            have hz : ¬ dK c p k = 0 := c17
            obtain ⟨G3, G4, hg3, hg4, rfl⟩ := twinL_of hT
            have hb1 : -600 ≤ dK c p k ∧ dK c p k ≤ 600 := ⟨by show -600 ≤ (c.of (c.runK p (k + 1))).st - (c.of (c.runK p k)).st; omega, by show (c.of (c.runK p (k + 1))).st - (c.of (c.runK p k)).st ≤ 600; omega⟩
            have hg3s := (List.sublist_append_left G3 G4).trans hHL
            have hg4s := (List.sublist_append_right G3 G4).trans hHL
            refine W_skip ?_
            refine Then_normal ?_
            refine W_seq ?_
            refine W_region_lit (fun ds => ?_)
            refine WS_det hF (by rfl) (y_assign (c := .int .i64 _) (by rfl)) ?_
            refine WS_nil ?_
            refine Then_normal ?_
            refine W_seq ?_
            refine W_seq ?_
            refine W_region_lit (fun ds => ?_)
            refine WS_det hF (by rfl) (y_move (c := .int .i64 _) (by rfl)) ?_
            refine WS_det hF (by rfl) (y_lss (by rfl) (by rfl)) ?_
            refine WS_nil ?_
            refine Then_normal ?_
            refine W_cond (by rfl) (fun c19 => ?_) (fun c19 => ?_)
            ·
              try simp only [Bool.not_eq_true', Bool.not_eq_false', decide_eq_true_eq, decide_eq_false_iff_not, ne_eq, Classical.not_not, Int.not_lt, Int.not_le] at c19
              have hX : wrX (dayK l l.es.length) (dK c p k) = ⟨dayK l l.es.length, 2, ⟨-dK c p k, -dK c p k⟩⟩ := if_pos c19
              refine W_region_lit (fun ds => ?_)
              refine WS_det hF (by rfl) (y_move (c := .int .i64 _) (by rfl)) ?_
              refine WS_det hF (by rfl) (y_neg (by rfl) (by show I64 (-dK c p k); unfold I64; omega)) ?_
              refine WS_det hF (by rfl) (y_assign (c := .int .i64 _) (by rfl)) ?_
              refine WS_det hF (by rfl) (y_assign (c := .int .i64 _) (by rfl)) ?_
              refine WS_nil ?_
              refine Then_normal ?_
              refine W_seq ?_
              refine W_region_lit (fun ds => ?_)
              refine WS_det hF (by rfl) (y_loadN (by rfl) Tryd.isAgg66 Tryd.sizeOf66 (Mem.own (us := [.slice _ _ _, .int .i64 _, .int .i64 _, .int .i64 _, .int .i64 _, .slice _ _ _]) 2 (by rfl) (by rfl)) (by rfl)) ?_
              refine WS_det hF (by rfl) (y_move (c := .int .i64 _) (by rfl)) ?_
              refine WS_det hF (by rfl) (y_move (c := .int .i64 _) (by rfl)) ?_
              refine WS_det hF (by rfl) (y_move (c := .int .i64 _) (by rfl)) ?_
              refine WS_det hF (by rfl) (y_move (c := .int .i64 _) (by rfl)) ?_
              refine WS_det hF (by rfl) (y_buildL bd63_0_1 (by rfl)) ?_
              refine WS_det hF (by rfl) (y_buildL bd77_0_1_2 (by rfl)) ?_
              refine WS_gen hF (by rfl) (y_callL (by rfl) (by rfl) Tryd.call84 (fun w hw => radd_any (wrK l c p k) ga gc gae gce ⟨dayK l l.es.length, 2, ⟨-dK c p k, -dK c p k⟩⟩ w (by rw [wrK_tk]; exact hgn) (NewRow.ints hg3 rfl (hg3s.trans sbA) w hw) (NewRow.rws en_len hg4 rfl (hg4s.trans sbA) w hw))) ?_
              rintro _ _ hT9
              obtain ⟨_, rfl, u1, v1, u2, v2, Q1, Q2, rfl, hu1, hu2, rfl⟩ := AddV.twin hT9
              refine WS_back ?_
              refine WS_det hF (by rfl) (y_move (c := .tuple _) (by rfl)) ?_
              refine WS_det hF (by rfl) (y_extract (c := .agg _) (by rfl) (by rfl)) ?_
              refine WS_det hF (by rfl) (y_extract (c := .int .i64 _) (by rfl) (by rfl)) ?_
              refine WS_new hF (by rfl) (y_alloc Tryd.zeroValue66 (by rfl)) (fun b7 => ?_)
              refine WS_store hF (us := [.slice _ _ _, .int .i64 _, .int .i64 _, .int .i64 _, .int .i64 _, .slice _ _ _]) (i := 0) (by rfl) (by rfl) Tryd.sizeOf66 (by rfl) (by rfl) (by rfl) (by first | decide | exact Nat.le_of_ble_eq_true rfl | simp) ?_
              refine WS_det hF (by rfl) (y_assign (c := .int .i64 _) (by rfl)) ?_
              refine WS_nil ?_
              refine Then_normal ?_
              refine W_seq ?_
              refine W_seq ?_
              have hE : wrE l c p k = (wrK l c p k).addE (wrX (dayK l l.es.length) (dK c p k)) := if_neg hz
              have hL0 : (wrK l c p k).addE (wrX (dayK l l.es.length) (dK c p k)) = 0 → (wrK l c p k).addL (wrX (dayK l l.es.length) (dK c p k)) = wrK l c p (k + 1) := fun h => by
                unfold Lg.addL
                rw [if_pos h]
                exact (if_neg hz).symm
              rw [hX] at hE hL0
              refine W_region_lit (fun ds => ?_)
              refine WS_det hF (by rfl) (y_move (c := .int .i64 _) (by rfl)) ?_
              refine WS_det hF (by rfl) (y_neq (by rfl) (by rfl)) ?_
              refine WS_nil ?_
              refine Then_normal ?_
              refine W_cond (by rfl) (fun c22 => ?_) (fun c22 => ?_)
              ·
                try simp only [Bool.not_eq_true', Bool.not_eq_false', decide_eq_true_eq, decide_eq_false_iff_not, ne_eq, Classical.not_not, Int.not_lt, Int.not_le] at c22
                refine W_seq ?_
                refine W_region_lit (fun ds => ?_)
                refine WS_det hF (by rfl) (y_buildL bd66 (by rfl)) ?_
                refine WS_det hF (by rfl) (y_move (c := .int .i64 _) (by rfl)) ?_
                refine WS_store hF (us := [.slice _ _ _, .int .i64 _, .int .i64 _, .int .i64 _, .int .i64 _, .slice _ _ _]) (i := 4) (by rfl) (by rfl) Tryd.sizeOf66 (by rfl) (by rfl) (by rfl) (by first | decide | exact Nat.le_of_ble_eq_true rfl | simp) ?_
                refine WS_det hF (by rfl) (y_assign (c := .int .i64 _) (by rfl)) ?_
                refine WS_nil ?_
                refine Then_normal ?_
                refine W_ret ?_
                refine Then_ret ?_
                refine InB_ret ?_
                refine Then_ret ?_
                refine Loop_ret ?_
                refine InB_ret ?_
                refine Then_ret ?_
                refine Fin_ret [_, .int .i64 _] [] Tryd.results35 ⟨lvN (by rfl) Tryd.isAgg66 Tryd.sizeOf66 (Mem.own (us := [.slice _ _ _, .int .i64 _, .int .i64 _, .int .i64 _, .int .i64 _, .slice _ _ _]) 4 (by rfl) (by rfl)) (by rfl), by rfl, trivial⟩ HSub.nil ?_
                exact WrtV.stop c2 c5 (by omega) hj hE c22
              ·
                try simp only [Bool.not_eq_true', Bool.not_eq_false', decide_eq_true_eq, decide_eq_false_iff_not, ne_eq, Classical.not_not, Int.not_lt, Int.not_le] at c22
                have hL := hL0 c22
                have hj2 : ∀ j, j < k + 1 → wrE l c p j = 0 := fun j h => by by_cases hjk : j = k; (subst hjk; exact hE.trans c22); exact hj j (by omega)
                change NewRow _ _ ((wrK l c p k).addL _).tk.n _ _ _ at hu1
                rw [hL] at hu1 hu2
                have hT2 : TwinL (wrK l c p (k + 1)) (.agg (lgV (wrK l c p (k + 1)) u1 v1 u2 v2).toArray) (Q1 ++ Q2) := ⟨_, _, _, _, Q1, Q2, rfl, hu1, hu2, rfl⟩
                have hV1 : RdI w (HX ++ (J1 ++ (J2 ++ (Q1 ++ Q2)))) x1 (c.of (c.runK p (k + 1))).n t1 (c.of (c.runK p (k + 1))).sz := RdI.new hq1 rfl sbA
                have hV2 : RdI w (HX ++ (J1 ++ (J2 ++ (Q1 ++ Q2)))) x2 (c.of (c.runK p (k + 1))).inn.length t2 (c.of (c.runK p (k + 1))).inn := RdI.new hq2 rfl sbA
                rw [show (wrK l c p k).addL _ = wrK l c p (k + 1) from hL]
                refine W_skip ?_
                refine Then_normal ?_
                refine W_region_lit (fun ds => ?_)
                refine WS_det hF (by rfl) (y_loadN (by rfl) Tryd.isAgg66 Tryd.sizeOf66 (Mem.own (us := [.slice _ _ _, .int .i64 _, .int .i64 _, .int .i64 _, .int .i64 _, .slice _ _ _]) 0 (by rfl) (by rfl)) (by rfl)) ?_
                refine WS_store hF (us := [.slice _ _ _, .int .i64 _, .int .i64 _, .int .i64 _, .int .i64 _, .slice _ _ _]) (i := 3) (by rfl) (by rfl) Tryd.sizeOf66 (by rfl) (by rfl) (by rfl) (by first | decide | exact Nat.le_of_ble_eq_true rfl | simp) ?_
                refine WS_nil ?_
                refine InB_normal ?_
                refine Then_normal ?_
                refine W_region_lit (fun ds => ?_)
                refine WS_det hF (by rfl) (y_add (by rfl) (by rfl) (by unfold I64; omega)) ?_
                refine WS_det hF (by rfl) (y_move (c := .int .i64 _) (by rfl)) ?_
                refine WS_nil ?_
                exact Loop_next (k + 1, (u1, v1, u2, v2), (x1, t1, x2, t2), HX ++ (J1 ++ (J2 ++ (Q1 ++ Q2)))) ⟨by simp only; omega, hj2, ⟨Q1 ++ Q2, hT2, sbA⟩, hV1, hV2⟩ (by repeat (first | exact trivial | refine ⟨by rfl, ?_⟩)) sbA (by simp only; omega)
            ·
              try simp only [Bool.not_eq_true', Bool.not_eq_false', decide_eq_true_eq, decide_eq_false_iff_not, ne_eq, Classical.not_not, Int.not_lt, Int.not_le] at c19
              have hX : wrX (dayK l l.es.length) (dK c p k) = ⟨dayK l l.es.length, 1, ⟨dK c p k, dK c p k⟩⟩ := if_neg (by show ¬ dK c p k < 0; have : 0 ≤ dK c p k := c19; omega)
              refine W_skip ?_
              refine Then_normal ?_
              refine W_seq ?_
              refine W_region_lit (fun ds => ?_)
              refine WS_det hF (by rfl) (y_loadN (by rfl) Tryd.isAgg66 Tryd.sizeOf66 (Mem.own (us := [.slice _ _ _, .int .i64 _, .int .i64 _, .int .i64 _, .int .i64 _, .slice _ _ _]) 2 (by rfl) (by rfl)) (by rfl)) ?_
              refine WS_det hF (by rfl) (y_move (c := .int .i64 _) (by rfl)) ?_
              refine WS_det hF (by rfl) (y_move (c := .int .i64 _) (by rfl)) ?_
              refine WS_det hF (by rfl) (y_move (c := .int .i64 _) (by rfl)) ?_
              refine WS_det hF (by rfl) (y_move (c := .int .i64 _) (by rfl)) ?_
              refine WS_det hF (by rfl) (y_buildL bd63_0_1 (by rfl)) ?_
              refine WS_det hF (by rfl) (y_buildL bd77_0_1_2 (by rfl)) ?_
              refine WS_gen hF (by rfl) (y_callL (by rfl) (by rfl) Tryd.call84 (fun w hw => radd_any (wrK l c p k) ga gc gae gce ⟨dayK l l.es.length, 1, ⟨dK c p k, dK c p k⟩⟩ w (by rw [wrK_tk]; exact hgn) (NewRow.ints hg3 rfl (hg3s.trans sbA) w hw) (NewRow.rws en_len hg4 rfl (hg4s.trans sbA) w hw))) ?_
              rintro _ _ hT9
              obtain ⟨_, rfl, u1, v1, u2, v2, Q1, Q2, rfl, hu1, hu2, rfl⟩ := AddV.twin hT9
              refine WS_back ?_
              refine WS_det hF (by rfl) (y_move (c := .tuple _) (by rfl)) ?_
              refine WS_det hF (by rfl) (y_extract (c := .agg _) (by rfl) (by rfl)) ?_
              refine WS_det hF (by rfl) (y_extract (c := .int .i64 _) (by rfl) (by rfl)) ?_
              refine WS_new hF (by rfl) (y_alloc Tryd.zeroValue66 (by rfl)) (fun b8 => ?_)
              refine WS_store hF (us := [.slice _ _ _, .int .i64 _, .int .i64 _, .int .i64 _, .int .i64 _, .slice _ _ _]) (i := 0) (by rfl) (by rfl) Tryd.sizeOf66 (by rfl) (by rfl) (by rfl) (by first | decide | exact Nat.le_of_ble_eq_true rfl | simp) ?_
              refine WS_det hF (by rfl) (y_assign (c := .int .i64 _) (by rfl)) ?_
              refine WS_nil ?_
              refine Then_normal ?_
              refine W_seq ?_
              refine W_seq ?_
              have hE : wrE l c p k = (wrK l c p k).addE (wrX (dayK l l.es.length) (dK c p k)) := if_neg hz
              have hL0 : (wrK l c p k).addE (wrX (dayK l l.es.length) (dK c p k)) = 0 → (wrK l c p k).addL (wrX (dayK l l.es.length) (dK c p k)) = wrK l c p (k + 1) := fun h => by
                unfold Lg.addL
                rw [if_pos h]
                exact (if_neg hz).symm
              rw [hX] at hE hL0
              refine W_region_lit (fun ds => ?_)
              refine WS_det hF (by rfl) (y_move (c := .int .i64 _) (by rfl)) ?_
              refine WS_det hF (by rfl) (y_neq (by rfl) (by rfl)) ?_
              refine WS_nil ?_
              refine Then_normal ?_
              refine W_cond (by rfl) (fun c22 => ?_) (fun c22 => ?_)
              ·
                try simp only [Bool.not_eq_true', Bool.not_eq_false', decide_eq_true_eq, decide_eq_false_iff_not, ne_eq, Classical.not_not, Int.not_lt, Int.not_le] at c22
                refine W_seq ?_
                refine W_region_lit (fun ds => ?_)
                refine WS_det hF (by rfl) (y_buildL bd66 (by rfl)) ?_
                refine WS_det hF (by rfl) (y_move (c := .int .i64 _) (by rfl)) ?_
                refine WS_store hF (us := [.slice _ _ _, .int .i64 _, .int .i64 _, .int .i64 _, .int .i64 _, .slice _ _ _]) (i := 4) (by rfl) (by rfl) Tryd.sizeOf66 (by rfl) (by rfl) (by rfl) (by first | decide | exact Nat.le_of_ble_eq_true rfl | simp) ?_
                refine WS_det hF (by rfl) (y_assign (c := .int .i64 _) (by rfl)) ?_
                refine WS_nil ?_
                refine Then_normal ?_
                refine W_ret ?_
                refine Then_ret ?_
                refine InB_ret ?_
                refine Then_ret ?_
                refine Loop_ret ?_
                refine InB_ret ?_
                refine Then_ret ?_
                refine Fin_ret [_, .int .i64 _] [] Tryd.results35 ⟨lvN (by rfl) Tryd.isAgg66 Tryd.sizeOf66 (Mem.own (us := [.slice _ _ _, .int .i64 _, .int .i64 _, .int .i64 _, .int .i64 _, .slice _ _ _]) 4 (by rfl) (by rfl)) (by rfl), by rfl, trivial⟩ HSub.nil ?_
                exact WrtV.stop c2 c5 (by omega) hj hE c22
              ·
                try simp only [Bool.not_eq_true', Bool.not_eq_false', decide_eq_true_eq, decide_eq_false_iff_not, ne_eq, Classical.not_not, Int.not_lt, Int.not_le] at c22
                have hL := hL0 c22
                have hj2 : ∀ j, j < k + 1 → wrE l c p j = 0 := fun j h => by by_cases hjk : j = k; (subst hjk; exact hE.trans c22); exact hj j (by omega)
                change NewRow _ _ ((wrK l c p k).addL _).tk.n _ _ _ at hu1
                rw [hL] at hu1 hu2
                have hT2 : TwinL (wrK l c p (k + 1)) (.agg (lgV (wrK l c p (k + 1)) u1 v1 u2 v2).toArray) (Q1 ++ Q2) := ⟨_, _, _, _, Q1, Q2, rfl, hu1, hu2, rfl⟩
                have hV1 : RdI w (HX ++ (J1 ++ (J2 ++ (Q1 ++ Q2)))) x1 (c.of (c.runK p (k + 1))).n t1 (c.of (c.runK p (k + 1))).sz := RdI.new hq1 rfl sbA
                have hV2 : RdI w (HX ++ (J1 ++ (J2 ++ (Q1 ++ Q2)))) x2 (c.of (c.runK p (k + 1))).inn.length t2 (c.of (c.runK p (k + 1))).inn := RdI.new hq2 rfl sbA
                rw [show (wrK l c p k).addL _ = wrK l c p (k + 1) from hL]
                refine W_skip ?_
                refine Then_normal ?_
                refine W_region_lit (fun ds => ?_)
                refine WS_det hF (by rfl) (y_loadN (by rfl) Tryd.isAgg66 Tryd.sizeOf66 (Mem.own (us := [.slice _ _ _, .int .i64 _, .int .i64 _, .int .i64 _, .int .i64 _, .slice _ _ _]) 0 (by rfl) (by rfl)) (by rfl)) ?_
                refine WS_store hF (us := [.slice _ _ _, .int .i64 _, .int .i64 _, .int .i64 _, .int .i64 _, .slice _ _ _]) (i := 3) (by rfl) (by rfl) Tryd.sizeOf66 (by rfl) (by rfl) (by rfl) (by first | decide | exact Nat.le_of_ble_eq_true rfl | simp) ?_
                refine WS_nil ?_
                refine InB_normal ?_
                refine Then_normal ?_
                refine W_region_lit (fun ds => ?_)
                refine WS_det hF (by rfl) (y_add (by rfl) (by rfl) (by unfold I64; omega)) ?_
                refine WS_det hF (by rfl) (y_move (c := .int .i64 _) (by rfl)) ?_
                refine WS_nil ?_
                exact Loop_next (k + 1, (u1, v1, u2, v2), (x1, t1, x2, t2), HX ++ (J1 ++ (J2 ++ (Q1 ++ Q2)))) ⟨by simp only; omega, hj2, ⟨Q1 ++ Q2, hT2, sbA⟩, hV1, hV2⟩ (by repeat (first | exact trivial | refine ⟨by rfl, ?_⟩)) sbA (by simp only; omega)
        ·
          try simp only [Bool.not_eq_true', Bool.not_eq_false', decide_eq_true_eq, decide_eq_false_iff_not, ne_eq, Classical.not_not, Int.not_lt, Int.not_le] at c12
          refine W_exit ?_
          refine Then_exit ?_
          refine Loop_exit ?_
          refine InB_same ?_
          refine Then_normal ?_
          refine W_seq ?_
          refine W_region_lit (fun ds => ?_)
          refine WS_det hF (by rfl) (y_loadN (by rfl) Tryd.isAgg66 Tryd.sizeOf66 (Mem.own (us := [.slice _ _ _, .int .i64 _, .int .i64 _, .int .i64 _, .int .i64 _, .slice _ _ _]) 0 (by rfl) (by rfl)) (by rfl)) ?_
          refine WS_store hF (us := [.slice _ _ _, .int .i64 _, .int .i64 _, .int .i64 _, .int .i64 _, .slice _ _ _]) (i := 1) (by rfl) (by rfl) Tryd.sizeOf66 (by rfl) (by rfl) (by rfl) (by first | decide | exact Nat.le_of_ble_eq_true rfl | simp) ?_
          refine WS_det hF (by rfl) (y_assign (c := .int .i64 _) (by rfl)) ?_
          refine WS_nil ?_
          refine Then_normal ?_
          refine W_ret ?_
          refine Fin_ret [_, .int .i64 _] HL Tryd.results35 ⟨lvN (by rfl) Tryd.isAgg66 Tryd.sizeOf66 (Mem.own (us := [.slice _ _ _, .int .i64 _, .int .i64 _, .int .i64 _, .int .i64 _, .slice _ _ _]) 1 (by rfl) (by rfl)) (by rfl), by rfl, trivial⟩ (HSub.sub (hHL.trans sbA)) ?_
          obtain rfl : k = p.length := by omega
          exact WrtV.go c2 c5 hj hT
      ·
        intro J11
        refine W_seq ?_
        refine W_seq ?_
        refine W_region_lit (fun ds => ?_)
        refine WS_det hF (by rfl) (y_fieldAddr (by rfl) fa66_2) ?_
        refine WS_det hF (by rfl) (y_load1 (by rfl) Tryd.isAgg64 (Mem.own1 4 (by rfl) (by rfl))) ?_
        refine WS_det hF (by rfl) (y_len (by rfl) Tryd.runUnderlying64) ?_
        refine WS_det hF (by rfl) (y_assign (c := .int .i64 _) (by rfl)) ?_
        refine WS_nil ?_
        refine Then_normal ?_
        refine W_seq ?_
        refine W_region_lit (fun ds => ?_)
        refine WS_det hF (by rfl) (y_move (c := .int .i64 _) (by rfl)) ?_
        refine WS_det hF (by rfl) (y_gtr (by rfl) (by rfl)) ?_
        refine WS_nil ?_
        refine Then_normal ?_
        refine W_cond (by rfl) (fun c9 => ?_) (fun c9 => ?_)
        ·
          try simp only [Bool.not_eq_true', Bool.not_eq_false', decide_eq_true_eq, decide_eq_false_iff_not, ne_eq, Classical.not_not, Int.not_lt, Int.not_le] at c9
          obtain ⟨m, hm9⟩ : ∃ m, l.es.length = m + 1 := ⟨l.es.length - 1, by omega⟩
          obtain ⟨b, o, rfl, hce⟩ := he.cell m (by omega)
          change At w b _ (l.e m).cells at hce
          have hday : dayK l l.es.length = (l.e m).day := by rw [hm9]; rfl
          refine W_region_lit (fun ds => ?_)
          refine WS_det hF (by rfl) (y_fieldAddr (by rfl) fa66_2) ?_
          refine WS_det hF (by rfl) (y_load1 (by rfl) Tryd.isAgg64 (Mem.own1 4 (by rfl) (by rfl))) ?_
          refine WS_det hF (by rfl) (y_move (c := .int .i64 _) (by rfl)) ?_
          refine WS_det hF (by rfl) (y_sub (by rfl) (by rfl) (by unfold I64; omega)) ?_
          refine WS_det hF (by rfl) (y_index (k := m) (by rfl) (by rfl) (by first | rfl | omega) (by first | decide | omega) Tryd.runUnderlying64 Tryd.sizeOf77) ?_
          refine WS_det hF (by rfl) (y_fieldAddr (by rfl) fa77_0) ?_
          refine WS_det hF (by rfl) (y_load1 (by rfl) Tryd.isAgg3 (by first | exact Mem.old1 (by assumption) | exact Mem.oldAt1 (by assumption) (by rfl) | exact Mem.old (by assumption) | exact Mem.oldAtL1 (by assumption) (by rfl) (by rfl))) ?_
          refine WS_det hF (by rfl) (y_assign (c := .int .i64 _) (by rfl)) ?_
          refine WS_nil ?_
          refine Then_normal ?_
          exact J11 ((l.e m).day) _ _  hday.symm slt slt (HSub.sub sbA)
        ·
          try simp only [Bool.not_eq_true', Bool.not_eq_false', decide_eq_true_eq, decide_eq_false_iff_not, ne_eq, Classical.not_not, Int.not_lt, Int.not_le] at c9
          have hday : dayK l l.es.length = 0 := by rw [show l.es.length = 0 by omega]; rfl
          refine W_skip ?_
          refine Then_normal ?_
          exact J11 (0 : Int) _ _  hday.symm slt slt (HSub.sub sbA)
end Go.Proofs.YtjekjehgmljbgaaDoor.T

/- The program's log of a tank with what was poured, walked. -/
namespace Go.Proofs.YtjekjehgmljbgaaDoor.T
open Go.RowKit Go.Proofs Go.Eng
set_option maxRecDepth 100000
set_option maxHeartbeats 1000000
set_option linter.unusedVariables false
set_option linter.unusedSimpArgs false

theorem bd26_0 {x0 : Int} : ∀ w, (Instr.build 26 #[(0, .int .i64 x0)]).run Tryd.prog w = .ok (.agg #[.int .i64 x0, .int .i64 0]) w := fun w => by kernel_rfl
theorem bd26_1 {x1 : Int} : ∀ w, (Instr.build 26 #[(1, .int .i64 x1)]).run Tryd.prog w = .ok (.agg #[.int .i64 0, .int .i64 x1]) w := fun w => by kernel_rfl

theorem kpK_nil (n : Nat) : kpK [] n = List.range n := by
  unfold kpK
  rw [List.filter_eq_self]
  intro i _
  rfl
theorem Lg.wo_nil (l : Lg) : l.wo [] = l := by
  have h : (kpK [] l.es.length).map l.e = l.es := by
    rw [kpK_nil]
    apply List.ext_getElem
    · simp
    · intro i h1 h2
      simp [Lg.e, List.getD_eq_getElem?_getD, h2]
  show (⟨l.tk, l.start, (kpK [] l.es.length).map l.e⟩ : Lg) = l
  rw [h]
theorem Lg.strL_nil {l : Lg} (h : l.err = 0) : l.strE [] = 0 ∧ l.strL [] = l := by
  have h1 : l.strE [] = 0 := by unfold Lg.strE; rw [if_pos h]; rfl
  refine ⟨h1, ?_⟩
  unfold Lg.strL
  rw [if_pos h1, l.wo_nil]
theorem written_any (l : Lg) (a : Option Addr) (cap : Nat) (ae : Option Addr) (cape : Nat) (c : Cn) (a1 : Option Addr) (p1 : Nat) (a2 : Option Addr) (p2 : Nat) (p : List Po) (la : Option Addr) (lcap : Nat) (w : World) (hG : Gv w) (hpl : p.length ≤ 1000000) (hgn : l.tk.n ≤ 1000000) (hge : l.es.length ≤ 1000000) (hx : Ints w a l.tk.n cap l.tk.pints) (he : Ens w ae l.es.length cape l.es) (hn : c.n ≤ 1000000) (hm : c.inn.length ≤ 1000000) (h1 : Ints w a1 c.n p1 c.sz) (h2 : Ints w a2 c.inn.length p2 c.inn) (hp : Pos w la p.length lcap p) :
    Ct Tryd.prog 34 #[.agg #[.slice a l.tk.n cap, .int .i64 l.tk.leak, .int .i64 l.tk.foot, .int .i64 l.start.lo, .int .i64 l.start.hi, .slice ae l.es.length cape], .agg #[.slice a1 c.n p1, .slice a2 c.inn.length p2, .int .i64 c.st], .slice la p.length lcap] w (WrtV l c p) := by
  have hF := wide_wide
  refine Ct_start (args := [_, _, _]) Tryd.func34 (by rfl) Tryd.ntmps34 (by rfl) ?_
  refine W_seq ?_
  refine W_region_lit (fun ds => ?_)
  refine WS_new hF (by rfl) (y_box (by rfl)) (fun b1 => ?_)
  refine WS_new hF (by rfl) (y_box (by rfl)) (fun b2 => ?_)
  refine WS_new hF (by rfl) (y_alloc Tryd.zeroValue66 (by rfl)) (fun b3 => ?_)
  refine WS_det hF (by rfl) (y_assign (c := .int .i64 _) (by rfl)) ?_
  refine WS_nil ?_
  refine Then_normal ?_
  refine W_seq ?_
  refine W_seq ?_
  refine W_region_lit (fun ds => ?_)
  refine WS_det hF (by rfl) (y_loadN (by rfl) Tryd.isAgg66 Tryd.sizeOf66 (Mem.own (us := [.slice _ _ _, .int .i64 _, .int .i64 _, .int .i64 _, .int .i64 _, .slice _ _ _]) 2 (by rfl) (by rfl)) (by rfl)) ?_
  refine WS_det hF (by rfl) (y_callL (by rfl) (by rfl) Tryd.call80 (fun w hw => valid_any l a cap ae cape w hgn (hx.st w hw) (he.st w hw))) ?_
  refine WS_det hF (by rfl) (y_assign (c := .int .i64 _) (by rfl)) ?_
  refine WS_nil ?_
  refine Then_normal ?_
  refine W_seq ?_
  refine W_region_lit (fun ds => ?_)
  refine WS_det hF (by rfl) (y_move (c := .int .i64 _) (by rfl)) ?_
  refine WS_det hF (by rfl) (y_neq (by rfl) (by rfl)) ?_
  refine WS_nil ?_
  refine Then_normal ?_
  refine W_cond (by rfl) (fun c2 => ?_) (fun c2 => ?_)
  ·
    try simp only [Bool.not_eq_true', Bool.not_eq_false', decide_eq_true_eq, decide_eq_false_iff_not, ne_eq, Classical.not_not, Int.not_lt, Int.not_le] at c2
    refine W_seq ?_
    refine W_region_lit (fun ds => ?_)
    refine WS_det hF (by rfl) (y_buildL bd66 (by rfl)) ?_
    refine WS_det hF (by rfl) (y_move (c := .int .i64 _) (by rfl)) ?_
    refine WS_store hF (us := [.slice _ _ _, .int .i64 _, .int .i64 _, .int .i64 _, .int .i64 _, .slice _ _ _]) (i := 0) (by rfl) (by rfl) Tryd.sizeOf66 (by rfl) (by rfl) (by rfl) (by first | decide | exact Nat.le_of_ble_eq_true rfl | simp) ?_
    refine WS_det hF (by rfl) (y_assign (c := .int .i64 _) (by rfl)) ?_
    refine WS_nil ?_
    refine Then_normal ?_
    refine W_ret ?_
    refine Then_ret ?_
    refine Fin_ret [_, .int .i64 _] [] Tryd.results34 ⟨lvN (by rfl) Tryd.isAgg66 Tryd.sizeOf66 (Mem.own (us := [.slice _ _ _, .int .i64 _, .int .i64 _, .int .i64 _, .int .i64 _, .slice _ _ _]) 0 (by rfl) (by rfl)) (by rfl), by rfl, trivial⟩ HSub.nil ?_
    exact WrtV.bad c2
  ·
    try simp only [Bool.not_eq_true', Bool.not_eq_false', decide_eq_true_eq, decide_eq_false_iff_not, ne_eq, Classical.not_not, Int.not_lt, Int.not_le] at c2
    refine W_skip ?_
    refine Then_normal ?_
    refine W_seq ?_
    refine W_seq ?_
    refine W_region_lit (fun ds => ?_)
    refine WS_det hF (by rfl) (y_loadN (by rfl) Tryd.isAgg24 Tryd.sizeOf24 (Mem.own (us := [.slice _ _ _, .slice _ _ _, .int .i64 _]) 1 (by rfl) (by rfl)) (by rfl)) ?_
    refine WS_det hF (by rfl) (y_move (c := .slice _ _ _) (by rfl)) ?_
    refine WS_gen hF (by rfl) (y_callL (by rfl) (by rfl) Tryd.call13 (fun w hw => play_any c a1 p1 a2 p2 p la lcap w (hG.st w hw) hpl hn hm (h1.st w hw) (h2.st w hw) (hp.st w hw))) ?_
    rintro _ _ ⟨_, rfl, _, _, _, _, H1, H2, rfl, _, _, rfl⟩
    refine WS_back ?_
    refine WS_det hF (by rfl) (y_move (c := .tuple _) (by rfl)) ?_
    refine WS_det hF (by rfl) (y_extract (c := .agg _) (by rfl) (by rfl)) ?_
    refine WS_det hF (by rfl) (y_extract (c := .int .i64 _) (by rfl) (by rfl)) ?_
    refine WS_det hF (by rfl) (y_extract (c := .int .i64 _) (by rfl) (by rfl)) ?_
    refine WS_det hF (by rfl) (y_extract (c := .int .i64 _) (by rfl) (by rfl)) ?_
    refine WS_new hF (by rfl) (y_alloc Tryd.zeroValue24 (by rfl)) (fun b4 => ?_)
    refine WS_store hF (us := [.slice _ _ _, .slice _ _ _, .int .i64 _]) (i := 0) (by rfl) (by rfl) Tryd.sizeOf24 (by rfl) (by rfl) (by rfl) (by first | decide | exact Nat.le_of_ble_eq_true rfl | simp) ?_
    refine WS_det hF (by rfl) (y_assign (c := .int .i64 _) (by rfl)) ?_
    refine WS_det hF (by rfl) (y_assign (c := .int .i64 _) (by rfl)) ?_
    refine WS_det hF (by rfl) (y_assign (c := .int .i64 _) (by rfl)) ?_
    refine WS_nil ?_
    refine Then_normal ?_
    refine W_seq ?_
    refine W_region_lit (fun ds => ?_)
    refine WS_det hF (by rfl) (y_move (c := .int .i64 _) (by rfl)) ?_
    refine WS_det hF (by rfl) (y_neq (by rfl) (by rfl)) ?_
    refine WS_nil ?_
    refine Then_normal ?_
    refine W_cond (by rfl) (fun c5 => ?_) (fun c5 => ?_)
    ·
      try simp only [Bool.not_eq_true', Bool.not_eq_false', decide_eq_true_eq, decide_eq_false_iff_not, ne_eq, Classical.not_not, Int.not_lt, Int.not_le] at c5
      refine W_seq ?_
      refine W_region_lit (fun ds => ?_)
      refine WS_det hF (by rfl) (y_buildL bd66 (by rfl)) ?_
      refine WS_det hF (by rfl) (y_move (c := .int .i64 _) (by rfl)) ?_
      refine WS_store hF (us := [.slice _ _ _, .int .i64 _, .int .i64 _, .int .i64 _, .int .i64 _, .slice _ _ _]) (i := 1) (by rfl) (by rfl) Tryd.sizeOf66 (by rfl) (by rfl) (by rfl) (by first | decide | exact Nat.le_of_ble_eq_true rfl | simp) ?_
      refine WS_det hF (by rfl) (y_assign (c := .int .i64 _) (by rfl)) ?_
      refine WS_nil ?_
      refine Then_normal ?_
      refine W_ret ?_
      refine Then_ret ?_
      refine Fin_ret [_, .int .i64 _] [] Tryd.results34 ⟨lvN (by rfl) Tryd.isAgg66 Tryd.sizeOf66 (Mem.own (us := [.slice _ _ _, .int .i64 _, .int .i64 _, .int .i64 _, .int .i64 _, .slice _ _ _]) 1 (by rfl) (by rfl)) (by rfl), by rfl, trivial⟩ HSub.nil ?_
      exact WrtV.play c2 c5
    ·
      try simp only [Bool.not_eq_true', Bool.not_eq_false', decide_eq_true_eq, decide_eq_false_iff_not, ne_eq, Classical.not_not, Int.not_lt, Int.not_le] at c5
      obtain ⟨hokB, hpj⟩ := Cn.plE_zero c5
      have hok := Cn.ok_iff.1 hokB
      have hn3 := hok.n3
      refine W_skip ?_
      refine Then_normal ?_
      refine W_seq ?_
      refine W_region_lit (fun ds => ?_)
      refine WS_det hF (by rfl) (y_assign (c := .int .i64 _) (by rfl)) ?_
      refine WS_nil ?_
      refine Then_normal ?_
      refine W_seq ?_
      refine W_seq ?_
      refine W_region_lit (fun ds => ?_)
      refine WS_det hF (by rfl) (y_fieldAddr (by rfl) fa66_2) ?_
      refine WS_det hF (by rfl) (y_load1 (by rfl) Tryd.isAgg64 (Mem.own1 3 (by rfl) (by rfl))) ?_
      refine WS_det hF (by rfl) (y_len (by rfl) Tryd.runUnderlying64) ?_
      refine WS_det hF (by rfl) (y_move (c := .int .i64 _) (by rfl)) ?_
      refine WS_nil ?_
      refine Then_normal ?_
      refine W_block ?_
      refine W_loop (γ := Nat) (fun k => k ≤ l.es.length) (fun k => [(2, .slice la p.length lcap), (3, .pointer (some ⟨b1, 0, none⟩)), (4, .pointer (some ⟨b2, 0, none⟩)), (6, .pointer (some ⟨b3, 0, none⟩)), (13, .int .i64 (dayK l k)), (44, .slice ae l.es.length cape), (45, .int .i64 (l.es.length : Int)), (46, .int .i64 (k : Int))]) (fun k => [(b3, CB [.slice none 0 0, .int .i64 0, .int .i64 0, .int .i64 0, .int .i64 0, .slice none 0 0] 66), (b2, CB [.slice a1 c.n p1, .slice a2 c.inn.length p2, .int .i64 c.st] 24), (b1, CB [.slice a l.tk.n cap, .int .i64 l.tk.leak, .int .i64 l.tk.foot, .int .i64 l.start.lo, .int .i64 l.start.hi, .slice ae l.es.length cape] 66)]) (fun k => l.es.length - k) (0) (Nat.zero_le _) (by repeat (first | exact trivial | refine ⟨by rfl, ?_⟩)) (sbA) ?_
      rintro k e hk
      refine W_seq ?_
      refine W_region_lit (fun ds => ?_)
      refine WS_det hF (by rfl) (y_lss (by rfl) (by rfl)) ?_
      refine WS_nil ?_
      refine Then_normal ?_
      refine W_seq ?_
      refine W_cond (by rfl) (fun c9 => ?_) (fun c9 => ?_)
      ·
        try simp only [Bool.not_eq_true', Bool.not_eq_false', decide_eq_true_eq, decide_eq_false_iff_not, ne_eq, Classical.not_not, Int.not_lt, Int.not_le] at c9
        obtain ⟨b, o, rfl, hce⟩ := he.cell k (by omega)
        change At w b _ (l.e k).cells at hce
        refine W_skip ?_
        refine Then_normal ?_
        refine W_seq ?_
        refine W_block ?_
        refine W_seq ?_
        refine W_region_lit (fun ds => ?_)
        refine WS_det hF (by rfl) (y_index (k := k) (by rfl) (by rfl) (by first | rfl | omega) (by first | decide | omega) Tryd.runUnderlying64 Tryd.sizeOf77) ?_
        refine WS_det hF (by rfl) (y_loadN (by rfl) Tryd.isAgg77 Tryd.sizeOf77 (by first | exact Mem.old (by assumption) | exact Mem.oldAt (us := [.int .i64 _, .int .i64 _, .int .i64 _, .int .i64 _]) (by assumption) (by rfl) | exact Mem.oldAtL (us := [.int .i64 _, .int .i64 _, .int .i64 _, .int .i64 _]) (by assumption) (by rfl) (by rfl)) (by rfl)) ?_
        refine WS_new hF (by rfl) (y_alloc Tryd.zeroValue77 (by rfl)) (fun b5 => ?_)
        refine WS_store hF (us := [.int .i64 _, .int .i64 _, .int .i64 _, .int .i64 _]) (i := 0) (by rfl) (by rfl) Tryd.sizeOf77 (by rfl) (by rfl) (by rfl) (by first | decide | exact Nat.le_of_ble_eq_true rfl | simp) ?_
        refine WS_nil ?_
        refine Then_normal ?_
        refine W_region_lit (fun ds => ?_)
        refine WS_det hF (by rfl) (y_fieldAddr (by rfl) fa77_0) ?_
        refine WS_det hF (by rfl) (y_load1 (by rfl) Tryd.isAgg3 (Mem.own1 0 (by rfl) (by rfl))) ?_
        refine WS_det hF (by rfl) (y_assign (c := .int .i64 _) (by rfl)) ?_
        refine WS_nil ?_
        refine InB_normal ?_
        refine Then_normal ?_
        refine W_region_lit (fun ds => ?_)
        refine WS_det hF (by rfl) (y_add (by rfl) (by rfl) (by unfold I64; omega)) ?_
        refine WS_det hF (by rfl) (y_move (c := .int .i64 _) (by rfl)) ?_
        refine WS_nil ?_
        exact Loop_next (k + 1) (by omega) (by repeat (first | exact trivial | refine ⟨by rfl, ?_⟩)) sbA (by omega)
      ·
        try simp only [Bool.not_eq_true', Bool.not_eq_false', decide_eq_true_eq, decide_eq_false_iff_not, ne_eq, Classical.not_not, Int.not_lt, Int.not_le] at c9
        obtain rfl : k = l.es.length := by omega
        refine W_exit ?_
        refine Then_exit ?_
        refine Loop_exit ?_
        refine InB_same ?_
        refine Then_normal ?_
        refine W_seq ?_
        refine W_region_lit (fun ds => ?_)
        refine WS_det hF (by rfl) (y_loadN (by rfl) Tryd.isAgg24 Tryd.sizeOf24 (Mem.own (us := [.slice _ _ _, .slice _ _ _, .int .i64 _]) 1 (by rfl) (by rfl)) (by rfl)) ?_
        refine WS_det hF (by rfl) (y_buildL bd96_0 (by rfl)) ?_
        refine WS_new hF (by rfl) (y_alloc Tryd.zeroValue96 (by rfl)) (fun bb => ?_)
        refine WS_store hF (us := [.slice _ _ _, .slice _ _ _, .int .i64 _]) (i := 0) (by rfl) (by rfl) Tryd.sizeOf96 (by rfl) (by rfl) (by rfl) (by first | decide | exact Nat.le_of_ble_eq_true rfl | simp) ?_
        refine WS_nil ?_
        refine Then_normal ?_
        refine W_seq ?_
        refine W_region_lit (fun ds => ?_)
        refine WS_det hF (by rfl) (y_loadN (by rfl) Tryd.isAgg96 Tryd.sizeOf96 (Mem.own (us := [.slice _ _ _, .slice _ _ _, .int .i64 _]) 0 (by rfl) (by rfl)) (by rfl)) ?_
        refine WS_det hF (by rfl) (y_callL (by rfl) (by rfl) Tryd.call50 (fun w hw => bstart_any c a1 p1 a2 p2 w hok hn hm (h1.st w hw) (h2.st w hw))) ?_
        refine WS_new hF (by rfl) (y_alloc Tryd.zeroValue99 (by rfl)) (fun bx => ?_)
        refine WS_store hF (us := [.int .i64 _, .int .i64 _, .int .i64 _, .int .i64 _]) (i := 0) (by rfl) (by rfl) Tryd.sizeOf99 (by rfl) (by rfl) (by rfl) (by first | decide | exact Nat.le_of_ble_eq_true rfl | simp) ?_
        refine WS_nil ?_
        refine Then_normal ?_
        refine W_seq ?_
        refine W_region_lit (fun ds => ?_)
        refine WS_det hF (by rfl) (y_loadN (by rfl) Tryd.isAgg66 Tryd.sizeOf66 (Mem.own (us := [.slice _ _ _, .int .i64 _, .int .i64 _, .int .i64 _, .int .i64 _, .slice _ _ _]) 4 (by rfl) (by rfl)) (by rfl)) ?_
        refine WS_gen hF (by rfl) (y_callL (by rfl) (by rfl) Tryd.call81 (fun w hw => strike_any l a cap ae cape none 0 0 [] w (by omega) (Ints.nil _ _ _) hgn (hx.st w hw) (he.st w hw))) ?_
        rintro _ HL hS0
        obtain ⟨v0, rfl, hT0⟩ := StrikeV.twin hS0
        rw [(Lg.strL_nil c2).1]
        rw [(Lg.strL_nil c2).2] at hT0
        obtain ⟨ga, gc, gae, gce, G1, G2, rfl, hg1, hg2, rfl⟩ := hT0
        refine WS_back ?_
        refine WS_det hF (by rfl) (y_move (c := .tuple _) (by rfl)) ?_
        refine WS_det hF (by rfl) (y_extract (c := .agg _) (by rfl) (by rfl)) ?_
        refine WS_det hF (by rfl) (y_extract (c := .int .i64 _) (by rfl) (by rfl)) ?_
        refine WS_store hF (us := [.slice _ _ _, .int .i64 _, .int .i64 _, .int .i64 _, .int .i64 _, .slice _ _ _]) (i := 4) (by rfl) (by rfl) Tryd.sizeOf66 (by rfl) (by rfl) (by rfl) (by first | decide | exact Nat.le_of_ble_eq_true rfl | simp) ?_
        refine WS_det hF (by rfl) (y_assign (c := .int .i64 _) (by rfl)) ?_
        refine WS_nil ?_
        refine Then_normal ?_
        refine W_seq ?_
        refine W_seq ?_
        refine W_region_lit (fun ds => ?_)
        refine WS_det hF (by rfl) (y_move (c := .slice _ _ _) (by rfl)) ?_
        refine WS_det hF (by rfl) (y_len (by rfl) Tryd.runUnderlying27) ?_
        refine WS_det hF (by rfl) (y_move (c := .int .i64 _) (by rfl)) ?_
        refine WS_nil ?_
        refine Then_normal ?_
        refine W_block ?_
        refine W_loop (γ := Nat × (Option Addr × Nat × Option Addr × Nat) × List Blk) (fun q => q.1 ≤ p.length ∧ (∀ j, j < q.1 → wrE l c p j = 0) ∧ (∃ HL, TwinL (wrK l c p q.1) (.agg (lgV (wrK l c p q.1) q.2.1.1 q.2.1.2.1 q.2.1.2.2.1 q.2.1.2.2.2).toArray) HL ∧ HL.Sublist q.2.2)) (fun q => [(3, .pointer (some ⟨b1, 0, none⟩)), (6, .pointer (some ⟨b3, 0, none⟩)), (13, .int .i64 (dayK l l.es.length)), (16, .pointer (some ⟨bb, 0, none⟩)), (17, .pointer (some ⟨bx, 0, none⟩)), (18, .int .i64 0), (62, .slice la p.length lcap), (63, .int .i64 (p.length : Int)), (64, .int .i64 (q.1 : Int))]) (fun q => (bx, CB (c.runK p q.1).cells 99) :: (bb, CB [.slice a1 c.n p1, .slice a2 c.inn.length p2, .int .i64 c.st] 96) :: (b3, CB [.slice none 0 0, .int .i64 0, .int .i64 0, .int .i64 0, .int .i64 0, .slice none 0 0] 66) :: (b1, CB (lgV (wrK l c p q.1) q.2.1.1 q.2.1.2.1 q.2.1.2.2.1 q.2.1.2.2.2) 66) :: q.2.2) (fun q => p.length - q.1) ((0, (ga, gc, gae, gce), G1 ++ G2)) ⟨Nat.zero_le _, (fun j h => absurd h (Nat.not_lt_zero _)), ⟨_, ⟨_, _, _, _, G1, G2, rfl, hg1, hg2, rfl⟩, List.Sublist.refl _⟩⟩ (by repeat (first | exact trivial | refine ⟨by rfl, ?_⟩)) (sbA) ?_
        rintro ⟨k, ⟨ga, gc, gae, gce⟩, HX⟩ e ⟨hk, hj, ⟨HL, hT, hHL⟩⟩
        refine W_seq ?_
        refine W_region_lit (fun ds => ?_)
        refine WS_det hF (by rfl) (y_lss (by rfl) (by rfl)) ?_
        refine WS_nil ?_
        refine Then_normal ?_
        refine W_seq ?_
        refine W_cond (by rfl) (fun c17 => ?_) (fun c17 => ?_)
        ·
          try simp only [Bool.not_eq_true', Bool.not_eq_false', decide_eq_true_eq, decide_eq_false_iff_not, ne_eq, Classical.not_not, Int.not_lt, Int.not_le] at c17
          have hin := hok.run_in (l := p) (k := k) fun j hj => hpj j (by omega)
          have hin2 := hok.run_in (l := p) (k := k + 1) fun j hj => hpj j (by omega)
          have hpk := hpj k (by omega)
          have hdk := dK_facts hok hpk
          obtain ⟨hvk, hck⟩ := Cn.pE_zero.1 hpk
          have hto : (if c.noB (c.runK p k) (p.getD k Po.z).f.toNat (p.getD k Po.z).t.toNat then c.runK p k else c.to (c.runK p k) (p.getD k Po.z).f.toNat (p.getD k Po.z).t.toNat) = c.runK p (k + 1) := Cn.can_to hck
          obtain ⟨bp, op, rfl, hcp⟩ := hp.cell k (by omega)
          change At w bp _ (p.getD k Po.z).cells at hcp
          have a1' : 0 ≤ (c.runK p k).a := hin.lo 0 (by decide)
          have a2' : (c.runK p k).a ≤ 600 := hin.hi 0 (Nat.zero_le _)
          have a3' : 0 ≤ (c.runK p (k + 1)).a := hin2.lo 0 (by decide)
          have a4' : (c.runK p (k + 1)).a ≤ 600 := hin2.hi 0 (Nat.zero_le _)
          refine W_skip ?_
          refine Then_normal ?_
          refine W_seq ?_
          refine W_block ?_
          refine W_seq ?_
          refine W_region_lit (fun ds => ?_)
          refine WS_det hF (by rfl) (y_index (k := k) (by rfl) (by rfl) (by first | rfl | omega) (by first | decide | omega) Tryd.runUnderlying27 Tryd.sizeOf26) ?_
          refine WS_det hF (by rfl) (y_loadN (by rfl) Tryd.isAgg26 Tryd.sizeOf26 (by first | exact Mem.old (by assumption) | exact Mem.oldAt (us := [.int .i64 _, .int .i64 _]) (by assumption) (by rfl) | exact Mem.oldAtL (us := [.int .i64 _, .int .i64 _]) (by assumption) (by rfl) (by rfl)) (by rfl)) ?_
          refine WS_new hF (by rfl) (y_alloc Tryd.zeroValue26 (by rfl)) (fun b6 => ?_)
          refine WS_store hF (us := [.int .i64 _, .int .i64 _]) (i := 0) (by rfl) (by rfl) Tryd.sizeOf26 (by rfl) (by rfl) (by rfl) (by first | decide | exact Nat.le_of_ble_eq_true rfl | simp) ?_
          refine WS_nil ?_
          refine Then_normal ?_
          refine W_seq ?_
          refine W_region_lit (fun ds => ?_)
          refine WS_det hF (by rfl) (y_loadN (by rfl) Tryd.isAgg96 Tryd.sizeOf96 (Mem.own (us := [.slice _ _ _, .slice _ _ _, .int .i64 _]) 2 (by rfl) (by rfl)) (by rfl)) ?_
          refine WS_det hF (by rfl) (y_loadN (by rfl) Tryd.isAgg99 Tryd.sizeOf99 (Mem.own (us := [.int .i64 _, .int .i64 _, .int .i64 _, .int .i64 _]) 1 (by rfl) (by rfl)) (by rfl)) ?_
          refine WS_det hF (by rfl) (y_loadN (by rfl) Tryd.isAgg26 Tryd.sizeOf26 (Mem.own (us := [.int .i64 _, .int .i64 _]) 0 (by rfl) (by rfl)) (by rfl)) ?_
          refine WS_det hF (by rfl) (y_callL (by rfl) (by rfl) Tryd.call49 (fun w hw => bpourP_any c a1 p1 a2 p2 (c.runK p k) (p.getD k Po.z) w hok hn hm (h1.st w hw) (h2.st w hw) hin hvk)) ?_
          refine WS_det hF (by rfl) (y_move (c := .tuple _) (by rfl)) ?_
          refine WS_det hF (by rfl) (y_extract (c := .agg _) (by rfl) (by rfl)) ?_
          refine WS_det hF (by rfl) (y_extract (c := .bool _) (by rfl) (by rfl)) ?_
          refine WS_new hF (by rfl) (y_alloc Tryd.zeroValue99 (by rfl)) (fun b7 => ?_)
          refine WS_store hF (us := [.int .i64 _, .int .i64 _, .int .i64 _, .int .i64 _]) (i := 0) (by rfl) (by rfl) Tryd.sizeOf99 (by rfl) (by rfl) (by rfl) (by first | decide | exact Nat.le_of_ble_eq_true rfl | simp) ?_
          refine WS_det hF (by rfl) (y_assign (c := .bool _) (by rfl)) ?_
          refine WS_nil ?_
          refine Then_normal ?_
          refine W_seq ?_
          rw [hto]
          refine W_region_lit (fun ds => ?_)
          refine WS_det hF (by rfl) (y_indexA (k := 0) (by rfl) (by rfl) (by first | rfl | omega) (by first | decide | omega) Tryd.runUnderlying99 Tryd.sizeOf3) ?_
          refine WS_det hF (by rfl) (y_load1 (by rfl) Tryd.isAgg3 (Mem.own1 0 (by rfl) (by rfl))) ?_
          refine WS_det hF (by rfl) (y_indexA (k := 0) (by rfl) (by rfl) (by first | rfl | omega) (by first | decide | omega) Tryd.runUnderlying99 Tryd.sizeOf3) ?_
          refine WS_det hF (by rfl) (y_load1 (by rfl) Tryd.isAgg3 (Mem.own1 2 (by rfl) (by rfl))) ?_
          refine WS_det hF (by rfl) (y_sub (by rfl) (by rfl) (by unfold I64; simp only; omega)) ?_
          refine WS_det hF (by rfl) (y_assign (c := .int .i64 _) (by rfl)) ?_
          refine WS_nil ?_
          refine Then_normal ?_
          refine W_seq ?_
          refine W_region_lit (fun ds => ?_)
          refine WS_det hF (by rfl) (y_loadN (by rfl) Tryd.isAgg99 Tryd.sizeOf99 (Mem.own (us := [.int .i64 _, .int .i64 _, .int .i64 _, .int .i64 _]) 0 (by rfl) (by rfl)) (by rfl)) ?_
          refine WS_store hF (us := [.int .i64 _, .int .i64 _, .int .i64 _, .int .i64 _]) (i := 2) (by rfl) (by rfl) Tryd.sizeOf99 (by rfl) (by rfl) (by rfl) (by first | decide | exact Nat.le_of_ble_eq_true rfl | simp) ?_
          refine WS_nil ?_
          refine Then_normal ?_
          refine W_seq ?_
          refine W_seq ?_
          refine W_region_lit (fun ds => ?_)
          refine WS_det hF (by rfl) (y_loadN (by rfl) Tryd.isAgg26 Tryd.sizeOf26 (Mem.own (us := [.int .i64 _, .int .i64 _]) 1 (by rfl) (by rfl)) (by rfl)) ?_
          refine WS_det hF (by rfl) (y_fieldAddr (by rfl) fa26_0) ?_
          refine WS_det hF (by rfl) (y_load1 (by rfl) Tryd.isAgg3 (Mem.own1 1 (by rfl) (by rfl))) ?_
          refine WS_det hF (by rfl) (y_buildL bd26_0 (by rfl)) ?_
          refine WS_det hF (by rfl) (y_neqlA (by rfl) (by rfl) neqA26) ?_
          refine WS_det hF (by rfl) (y_move (c := .bool _) (by rfl)) ?_
          refine WS_split 86 (by rfl) (fun g22_5 => ?_) (fun g22_5 => ?_)
          ·
            try simp only [Bool.not_eq_true', Bool.not_eq_false', decide_eq_true_eq, decide_eq_false_iff_not, ne_eq, Classical.not_not, Int.not_lt, Int.not_le] at g22_5
            refine WS_det hF (by rfl) (y_loadN (by rfl) Tryd.isAgg26 Tryd.sizeOf26 (Mem.own (us := [.int .i64 _, .int .i64 _]) 1 (by rfl) (by rfl)) (by rfl)) ?_
            refine WS_det hF (by rfl) (y_fieldAddr (by rfl) fa26_1) ?_
            refine WS_det hF (by rfl) (y_load1 (by rfl) Tryd.isAgg3 (Mem.own1 1 (by rfl) (by rfl))) ?_
            refine WS_det hF (by rfl) (y_buildL bd26_1 (by rfl)) ?_
            refine WS_det hF (by rfl) (y_neqlA (by rfl) (by rfl) neqA26) ?_
            refine WS_det hF (by rfl) (by first | exact y_pick_t (c := .bool _) (by rfl) (by rfl) | exact y_pick_f (c := .bool _) (by rfl) (by rfl)) ?_
            refine WS_nil ?_
            refine Then_normal ?_
            refine W_cond (by rfl) (fun c22 => ?_) (fun c22 => ?_)
            ·
              try simp only [Bool.not_eq_true', Bool.not_eq_false', decide_eq_true_eq, decide_eq_false_iff_not, ne_eq, Classical.not_not, Int.not_lt, Int.not_le] at c22
              have hz : dK c p k = 0 := hdk.2 (by simp_all [ieq])
              have hK : wrK l c p (k + 1) = wrK l c p k := if_pos hz
              have hj2 : ∀ j, j < k + 1 → wrE l c p j = 0 := fun j h => by by_cases hjk : j = k; (subst hjk; exact if_pos hz); exact hj j (by omega)
              have hT2 : TwinL (wrK l c p (k + 1)) (.agg (lgV (wrK l c p (k + 1)) ga gc gae gce).toArray) HL := by rw [hK]; exact hT
              rw [← hK]
              refine W_exit ?_
              refine Then_exit ?_
              refine InB_same ?_
              refine Then_normal ?_
              refine W_region_lit (fun ds => ?_)
              refine WS_det hF (by rfl) (y_add (by rfl) (by rfl) (by unfold I64; omega)) ?_
              refine WS_det hF (by rfl) (y_move (c := .int .i64 _) (by rfl)) ?_
              refine WS_nil ?_
              exact Loop_next (k + 1, (ga, gc, gae, gce), HX) ⟨by simp only; omega, hj2, ⟨HL, hT2, hHL⟩⟩ (by repeat (first | exact trivial | refine ⟨by rfl, ?_⟩)) sbA (by simp only; omega)
            ·
              try simp only [Bool.not_eq_true', Bool.not_eq_false', decide_eq_true_eq, decide_eq_false_iff_not, ne_eq, Classical.not_not, Int.not_lt, Int.not_le] at c22
              have hz : ¬ dK c p k = 0 := fun h => (by have := hdk.1 h; simp_all [ieq])
              obtain ⟨G3, G4, hg3, hg4, rfl⟩ := twinL_of hT
              have hb1 : -600 ≤ dK c p k ∧ dK c p k ≤ 600 := ⟨by unfold dK; omega, by unfold dK; omega⟩
              have hg3s := (List.sublist_append_left G3 G4).trans hHL
              have hg4s := (List.sublist_append_right G3 G4).trans hHL
              refine W_skip ?_
              refine Then_normal ?_
              refine W_seq ?_
              refine W_region_lit (fun ds => ?_)
              refine WS_det hF (by rfl) (y_move (c := .int .i64 _) (by rfl)) ?_
              refine WS_det hF (by rfl) (y_move (c := .int .i64 _) (by rfl)) ?_
              refine WS_det hF (by rfl) (y_move (c := .int .i64 _) (by rfl)) ?_
              refine WS_det hF (by rfl) (y_buildL bd63_0_1 (by rfl)) ?_
              refine WS_det hF (by rfl) (y_buildL bd77_0_1_2 (by rfl)) ?_
              refine WS_new hF (by rfl) (y_alloc Tryd.zeroValue77 (by rfl)) (fun b8 => ?_)
              refine WS_store hF (us := [.int .i64 _, .int .i64 _, .int .i64 _, .int .i64 _]) (i := 0) (by rfl) (by rfl) Tryd.sizeOf77 (by rfl) (by rfl) (by rfl) (by first | decide | exact Nat.le_of_ble_eq_true rfl | simp) ?_
              refine WS_nil ?_
              refine Then_normal ?_
              refine W_seq ?_
              refine W_seq ?_
              refine W_region_lit (fun ds => ?_)
              refine WS_det hF (by rfl) (y_move (c := .int .i64 _) (by rfl)) ?_
              refine WS_det hF (by rfl) (y_lss (by rfl) (by rfl)) ?_
              refine WS_nil ?_
              refine Then_normal ?_
              refine W_cond (by rfl) (fun c24 => ?_) (fun c24 => ?_)
              ·
                try simp only [Bool.not_eq_true', Bool.not_eq_false', decide_eq_true_eq, decide_eq_false_iff_not, ne_eq, Classical.not_not, Int.not_lt, Int.not_le] at c24
                have hX : wrX (dayK l l.es.length) (dK c p k) = ⟨dayK l l.es.length, 2, ⟨-dK c p k, -dK c p k⟩⟩ := if_pos c24
                refine W_region_lit (fun ds => ?_)
                refine WS_det hF (by rfl) (y_move (c := .int .i64 _) (by rfl)) ?_
                refine WS_det hF (by rfl) (y_neg (by rfl) (by show I64 (-dK c p k); unfold I64; omega)) ?_
                refine WS_det hF (by rfl) (y_move (c := .int .i64 _) (by rfl)) ?_
                refine WS_det hF (by rfl) (y_neg (by rfl) (by show I64 (-dK c p k); unfold I64; omega)) ?_
                refine WS_det hF (by rfl) (y_buildL bd63_0_1 (by rfl)) ?_
                refine WS_det hF (by rfl) (y_fieldAddr (by rfl) fa77_1) ?_
                refine WS_store hF (us := [.int .i64 _]) (i := 0) (by rfl) (by rfl) Tryd.sizeOf3 (by rfl) (by rfl) (by rfl) (by first | decide | exact Nat.le_of_ble_eq_true rfl | simp) ?_
                refine WS_det hF (by rfl) (y_fieldAddr (by rfl) fa77_2) ?_
                refine WS_store hF (us := [.int .i64 _, .int .i64 _]) (i := 0) (by rfl) (by rfl) Tryd.sizeOf63 (by rfl) (by rfl) (by rfl) (by first | decide | exact Nat.le_of_ble_eq_true rfl | simp) ?_
                refine WS_nil ?_
                refine Then_normal ?_
                refine W_seq ?_
                refine W_region_lit (fun ds => ?_)
                refine WS_det hF (by rfl) (y_loadN (by rfl) Tryd.isAgg66 Tryd.sizeOf66 (Mem.own (us := [.slice _ _ _, .int .i64 _, .int .i64 _, .int .i64 _, .int .i64 _, .slice _ _ _]) 6 (by rfl) (by rfl)) (by rfl)) ?_
                refine WS_det hF (by rfl) (y_loadN (by rfl) Tryd.isAgg77 Tryd.sizeOf77 (Mem.own (us := [.int .i64 _, .int .i64 _, .int .i64 _, .int .i64 _]) 0 (by rfl) (by rfl)) (by rfl)) ?_
                refine WS_gen hF (by rfl) (y_callL (by rfl) (by rfl) Tryd.call82 (fun w hw => add_any (wrK l c p k) ga gc gae gce ⟨dayK l l.es.length, 2, ⟨-dK c p k, -dK c p k⟩⟩ w (by rw [wrK_tk]; exact hgn) (NewRow.ints hg3 rfl (hg3s.trans sbA) w hw) (NewRow.rws en_len hg4 rfl (hg4s.trans sbA) w hw))) ?_
                rintro _ _ hT9
                obtain ⟨_, rfl, u1, v1, u2, v2, Q1, Q2, rfl, hu1, hu2, rfl⟩ := AddV.twin hT9
                refine WS_back ?_
                refine WS_det hF (by rfl) (y_move (c := .tuple _) (by rfl)) ?_
                refine WS_det hF (by rfl) (y_extract (c := .agg _) (by rfl) (by rfl)) ?_
                refine WS_det hF (by rfl) (y_extract (c := .int .i64 _) (by rfl) (by rfl)) ?_
                refine WS_store hF (us := [.slice _ _ _, .int .i64 _, .int .i64 _, .int .i64 _, .int .i64 _, .slice _ _ _]) (i := 6) (by rfl) (by rfl) Tryd.sizeOf66 (by rfl) (by rfl) (by rfl) (by first | decide | exact Nat.le_of_ble_eq_true rfl | simp) ?_
                refine WS_det hF (by rfl) (y_assign (c := .int .i64 _) (by rfl)) ?_
                refine WS_nil ?_
                refine Then_normal ?_
                refine W_seq ?_
                have hE : wrE l c p k = (wrK l c p k).addE (wrX (dayK l l.es.length) (dK c p k)) := if_neg hz
                have hL0 : (wrK l c p k).addE (wrX (dayK l l.es.length) (dK c p k)) = 0 → (wrK l c p k).addL (wrX (dayK l l.es.length) (dK c p k)) = wrK l c p (k + 1) := fun h => by
                  unfold Lg.addL
                  rw [if_pos h]
                  exact (if_neg hz).symm
                rw [hX] at hE hL0
                refine W_region_lit (fun ds => ?_)
                refine WS_det hF (by rfl) (y_move (c := .int .i64 _) (by rfl)) ?_
                refine WS_det hF (by rfl) (y_neq (by rfl) (by rfl)) ?_
                refine WS_nil ?_
                refine Then_normal ?_
                refine W_cond (by rfl) (fun c27 => ?_) (fun c27 => ?_)
                ·
                  try simp only [Bool.not_eq_true', Bool.not_eq_false', decide_eq_true_eq, decide_eq_false_iff_not, ne_eq, Classical.not_not, Int.not_lt, Int.not_le] at c27
                  refine W_seq ?_
                  refine W_region_lit (fun ds => ?_)
                  refine WS_det hF (by rfl) (y_buildL bd66 (by rfl)) ?_
                  refine WS_det hF (by rfl) (y_move (c := .int .i64 _) (by rfl)) ?_
                  refine WS_store hF (us := [.slice _ _ _, .int .i64 _, .int .i64 _, .int .i64 _, .int .i64 _, .slice _ _ _]) (i := 5) (by rfl) (by rfl) Tryd.sizeOf66 (by rfl) (by rfl) (by rfl) (by first | decide | exact Nat.le_of_ble_eq_true rfl | simp) ?_
                  refine WS_det hF (by rfl) (y_assign (c := .int .i64 _) (by rfl)) ?_
                  refine WS_nil ?_
                  refine Then_normal ?_
                  refine W_ret ?_
                  refine InB_ret ?_
                  refine Then_ret ?_
                  refine Loop_ret ?_
                  refine InB_ret ?_
                  refine Then_ret ?_
                  refine Fin_ret [_, .int .i64 _] [] Tryd.results34 ⟨lvN (by rfl) Tryd.isAgg66 Tryd.sizeOf66 (Mem.own (us := [.slice _ _ _, .int .i64 _, .int .i64 _, .int .i64 _, .int .i64 _, .slice _ _ _]) 5 (by rfl) (by rfl)) (by rfl), by rfl, trivial⟩ HSub.nil ?_
                  exact WrtV.stop c2 c5 (by omega) hj hE c27
                ·
                  try simp only [Bool.not_eq_true', Bool.not_eq_false', decide_eq_true_eq, decide_eq_false_iff_not, ne_eq, Classical.not_not, Int.not_lt, Int.not_le] at c27
                  have hL := hL0 c27
                  have hj2 : ∀ j, j < k + 1 → wrE l c p j = 0 := fun j h => by by_cases hjk : j = k; (subst hjk; exact hE.trans c27); exact hj j (by omega)
                  change NewRow _ _ ((wrK l c p k).addL _).tk.n _ _ _ at hu1
                  rw [hL] at hu1 hu2
                  have hT2 : TwinL (wrK l c p (k + 1)) (.agg (lgV (wrK l c p (k + 1)) u1 v1 u2 v2).toArray) (Q1 ++ Q2) := ⟨_, _, _, _, Q1, Q2, rfl, hu1, hu2, rfl⟩
                  rw [show (wrK l c p k).addL _ = wrK l c p (k + 1) from hL, show (wrK l c p k).addE _ = 0 from c27]
                  refine W_skip ?_
                  refine InB_normal ?_
                  refine Then_normal ?_
                  refine W_region_lit (fun ds => ?_)
                  refine WS_det hF (by rfl) (y_add (by rfl) (by rfl) (by unfold I64; omega)) ?_
                  refine WS_det hF (by rfl) (y_move (c := .int .i64 _) (by rfl)) ?_
                  refine WS_nil ?_
                  exact Loop_next (k + 1, (u1, v1, u2, v2), HX ++ (Q1 ++ Q2)) ⟨by simp only; omega, hj2, ⟨Q1 ++ Q2, hT2, sbA⟩⟩ (by repeat (first | exact trivial | refine ⟨by rfl, ?_⟩)) sbA (by simp only; omega)
              ·
                try simp only [Bool.not_eq_true', Bool.not_eq_false', decide_eq_true_eq, decide_eq_false_iff_not, ne_eq, Classical.not_not, Int.not_lt, Int.not_le] at c24
                have hX : wrX (dayK l l.es.length) (dK c p k) = ⟨dayK l l.es.length, 1, ⟨dK c p k, dK c p k⟩⟩ := if_neg (by show ¬ dK c p k < 0; have : 0 ≤ dK c p k := c24; omega)
                refine W_skip ?_
                refine Then_normal ?_
                refine W_seq ?_
                refine W_region_lit (fun ds => ?_)
                refine WS_det hF (by rfl) (y_loadN (by rfl) Tryd.isAgg66 Tryd.sizeOf66 (Mem.own (us := [.slice _ _ _, .int .i64 _, .int .i64 _, .int .i64 _, .int .i64 _, .slice _ _ _]) 6 (by rfl) (by rfl)) (by rfl)) ?_
                refine WS_det hF (by rfl) (y_loadN (by rfl) Tryd.isAgg77 Tryd.sizeOf77 (Mem.own (us := [.int .i64 _, .int .i64 _, .int .i64 _, .int .i64 _]) 0 (by rfl) (by rfl)) (by rfl)) ?_
                refine WS_gen hF (by rfl) (y_callL (by rfl) (by rfl) Tryd.call82 (fun w hw => add_any (wrK l c p k) ga gc gae gce ⟨dayK l l.es.length, 1, ⟨dK c p k, dK c p k⟩⟩ w (by rw [wrK_tk]; exact hgn) (NewRow.ints hg3 rfl (hg3s.trans sbA) w hw) (NewRow.rws en_len hg4 rfl (hg4s.trans sbA) w hw))) ?_
                rintro _ _ hT9
                obtain ⟨_, rfl, u1, v1, u2, v2, Q1, Q2, rfl, hu1, hu2, rfl⟩ := AddV.twin hT9
                refine WS_back ?_
                refine WS_det hF (by rfl) (y_move (c := .tuple _) (by rfl)) ?_
                refine WS_det hF (by rfl) (y_extract (c := .agg _) (by rfl) (by rfl)) ?_
                refine WS_det hF (by rfl) (y_extract (c := .int .i64 _) (by rfl) (by rfl)) ?_
                refine WS_store hF (us := [.slice _ _ _, .int .i64 _, .int .i64 _, .int .i64 _, .int .i64 _, .slice _ _ _]) (i := 6) (by rfl) (by rfl) Tryd.sizeOf66 (by rfl) (by rfl) (by rfl) (by first | decide | exact Nat.le_of_ble_eq_true rfl | simp) ?_
                refine WS_det hF (by rfl) (y_assign (c := .int .i64 _) (by rfl)) ?_
                refine WS_nil ?_
                refine Then_normal ?_
                refine W_seq ?_
                have hE : wrE l c p k = (wrK l c p k).addE (wrX (dayK l l.es.length) (dK c p k)) := if_neg hz
                have hL0 : (wrK l c p k).addE (wrX (dayK l l.es.length) (dK c p k)) = 0 → (wrK l c p k).addL (wrX (dayK l l.es.length) (dK c p k)) = wrK l c p (k + 1) := fun h => by
                  unfold Lg.addL
                  rw [if_pos h]
                  exact (if_neg hz).symm
                rw [hX] at hE hL0
                refine W_region_lit (fun ds => ?_)
                refine WS_det hF (by rfl) (y_move (c := .int .i64 _) (by rfl)) ?_
                refine WS_det hF (by rfl) (y_neq (by rfl) (by rfl)) ?_
                refine WS_nil ?_
                refine Then_normal ?_
                refine W_cond (by rfl) (fun c27 => ?_) (fun c27 => ?_)
                ·
                  try simp only [Bool.not_eq_true', Bool.not_eq_false', decide_eq_true_eq, decide_eq_false_iff_not, ne_eq, Classical.not_not, Int.not_lt, Int.not_le] at c27
                  refine W_seq ?_
                  refine W_region_lit (fun ds => ?_)
                  refine WS_det hF (by rfl) (y_buildL bd66 (by rfl)) ?_
                  refine WS_det hF (by rfl) (y_move (c := .int .i64 _) (by rfl)) ?_
                  refine WS_store hF (us := [.slice _ _ _, .int .i64 _, .int .i64 _, .int .i64 _, .int .i64 _, .slice _ _ _]) (i := 5) (by rfl) (by rfl) Tryd.sizeOf66 (by rfl) (by rfl) (by rfl) (by first | decide | exact Nat.le_of_ble_eq_true rfl | simp) ?_
                  refine WS_det hF (by rfl) (y_assign (c := .int .i64 _) (by rfl)) ?_
                  refine WS_nil ?_
                  refine Then_normal ?_
                  refine W_ret ?_
                  refine InB_ret ?_
                  refine Then_ret ?_
                  refine Loop_ret ?_
                  refine InB_ret ?_
                  refine Then_ret ?_
                  refine Fin_ret [_, .int .i64 _] [] Tryd.results34 ⟨lvN (by rfl) Tryd.isAgg66 Tryd.sizeOf66 (Mem.own (us := [.slice _ _ _, .int .i64 _, .int .i64 _, .int .i64 _, .int .i64 _, .slice _ _ _]) 5 (by rfl) (by rfl)) (by rfl), by rfl, trivial⟩ HSub.nil ?_
                  exact WrtV.stop c2 c5 (by omega) hj hE c27
                ·
                  try simp only [Bool.not_eq_true', Bool.not_eq_false', decide_eq_true_eq, decide_eq_false_iff_not, ne_eq, Classical.not_not, Int.not_lt, Int.not_le] at c27
                  have hL := hL0 c27
                  have hj2 : ∀ j, j < k + 1 → wrE l c p j = 0 := fun j h => by by_cases hjk : j = k; (subst hjk; exact hE.trans c27); exact hj j (by omega)
                  change NewRow _ _ ((wrK l c p k).addL _).tk.n _ _ _ at hu1
                  rw [hL] at hu1 hu2
                  have hT2 : TwinL (wrK l c p (k + 1)) (.agg (lgV (wrK l c p (k + 1)) u1 v1 u2 v2).toArray) (Q1 ++ Q2) := ⟨_, _, _, _, Q1, Q2, rfl, hu1, hu2, rfl⟩
                  rw [show (wrK l c p k).addL _ = wrK l c p (k + 1) from hL, show (wrK l c p k).addE _ = 0 from c27]
                  refine W_skip ?_
                  refine InB_normal ?_
                  refine Then_normal ?_
                  refine W_region_lit (fun ds => ?_)
                  refine WS_det hF (by rfl) (y_add (by rfl) (by rfl) (by unfold I64; omega)) ?_
                  refine WS_det hF (by rfl) (y_move (c := .int .i64 _) (by rfl)) ?_
                  refine WS_nil ?_
                  exact Loop_next (k + 1, (u1, v1, u2, v2), HX ++ (Q1 ++ Q2)) ⟨by simp only; omega, hj2, ⟨Q1 ++ Q2, hT2, sbA⟩⟩ (by repeat (first | exact trivial | refine ⟨by rfl, ?_⟩)) sbA (by simp only; omega)
          ·
            try simp only [Bool.not_eq_true', Bool.not_eq_false', decide_eq_true_eq, decide_eq_false_iff_not, ne_eq, Classical.not_not, Int.not_lt, Int.not_le] at g22_5
            refine WS_no hF (by rfl) ?_
            refine WS_no hF (by rfl) ?_
            refine WS_no hF (by rfl) ?_
            refine WS_no hF (by rfl) ?_
            refine WS_no hF (by rfl) ?_
            refine WS_det hF (by rfl) (by first | exact y_pick_t (c := .bool _) (by rfl) (by rfl) | exact y_pick_f (c := .bool _) (by rfl) (by rfl)) ?_
            refine WS_nil ?_
            refine Then_normal ?_
            refine W_cond (by rfl) (fun c22 => ?_) (fun c22 => ?_)
            · cases c22
            ·
              try simp only [Bool.not_eq_true', Bool.not_eq_false', decide_eq_true_eq, decide_eq_false_iff_not, ne_eq, Classical.not_not, Int.not_lt, Int.not_le] at c22
              have hz : ¬ dK c p k = 0 := fun h => (by have := hdk.1 h; simp_all [ieq])
              obtain ⟨G3, G4, hg3, hg4, rfl⟩ := twinL_of hT
              have hb1 : -600 ≤ dK c p k ∧ dK c p k ≤ 600 := ⟨by unfold dK; omega, by unfold dK; omega⟩
              have hg3s := (List.sublist_append_left G3 G4).trans hHL
              have hg4s := (List.sublist_append_right G3 G4).trans hHL
              refine W_skip ?_
              refine Then_normal ?_
              refine W_seq ?_
              refine W_region_lit (fun ds => ?_)
              refine WS_det hF (by rfl) (y_move (c := .int .i64 _) (by rfl)) ?_
              refine WS_det hF (by rfl) (y_move (c := .int .i64 _) (by rfl)) ?_
              refine WS_det hF (by rfl) (y_move (c := .int .i64 _) (by rfl)) ?_
              refine WS_det hF (by rfl) (y_buildL bd63_0_1 (by rfl)) ?_
              refine WS_det hF (by rfl) (y_buildL bd77_0_1_2 (by rfl)) ?_
              refine WS_new hF (by rfl) (y_alloc Tryd.zeroValue77 (by rfl)) (fun b9 => ?_)
              refine WS_store hF (us := [.int .i64 _, .int .i64 _, .int .i64 _, .int .i64 _]) (i := 0) (by rfl) (by rfl) Tryd.sizeOf77 (by rfl) (by rfl) (by rfl) (by first | decide | exact Nat.le_of_ble_eq_true rfl | simp) ?_
              refine WS_nil ?_
              refine Then_normal ?_
              refine W_seq ?_
              refine W_seq ?_
              refine W_region_lit (fun ds => ?_)
              refine WS_det hF (by rfl) (y_move (c := .int .i64 _) (by rfl)) ?_
              refine WS_det hF (by rfl) (y_lss (by rfl) (by rfl)) ?_
              refine WS_nil ?_
              refine Then_normal ?_
              refine W_cond (by rfl) (fun c24 => ?_) (fun c24 => ?_)
              ·
                try simp only [Bool.not_eq_true', Bool.not_eq_false', decide_eq_true_eq, decide_eq_false_iff_not, ne_eq, Classical.not_not, Int.not_lt, Int.not_le] at c24
                have hX : wrX (dayK l l.es.length) (dK c p k) = ⟨dayK l l.es.length, 2, ⟨-dK c p k, -dK c p k⟩⟩ := if_pos c24
                refine W_region_lit (fun ds => ?_)
                refine WS_det hF (by rfl) (y_move (c := .int .i64 _) (by rfl)) ?_
                refine WS_det hF (by rfl) (y_neg (by rfl) (by show I64 (-dK c p k); unfold I64; omega)) ?_
                refine WS_det hF (by rfl) (y_move (c := .int .i64 _) (by rfl)) ?_
                refine WS_det hF (by rfl) (y_neg (by rfl) (by show I64 (-dK c p k); unfold I64; omega)) ?_
                refine WS_det hF (by rfl) (y_buildL bd63_0_1 (by rfl)) ?_
                refine WS_det hF (by rfl) (y_fieldAddr (by rfl) fa77_1) ?_
                refine WS_store hF (us := [.int .i64 _]) (i := 0) (by rfl) (by rfl) Tryd.sizeOf3 (by rfl) (by rfl) (by rfl) (by first | decide | exact Nat.le_of_ble_eq_true rfl | simp) ?_
                refine WS_det hF (by rfl) (y_fieldAddr (by rfl) fa77_2) ?_
                refine WS_store hF (us := [.int .i64 _, .int .i64 _]) (i := 0) (by rfl) (by rfl) Tryd.sizeOf63 (by rfl) (by rfl) (by rfl) (by first | decide | exact Nat.le_of_ble_eq_true rfl | simp) ?_
                refine WS_nil ?_
                refine Then_normal ?_
                refine W_seq ?_
                refine W_region_lit (fun ds => ?_)
                refine WS_det hF (by rfl) (y_loadN (by rfl) Tryd.isAgg66 Tryd.sizeOf66 (Mem.own (us := [.slice _ _ _, .int .i64 _, .int .i64 _, .int .i64 _, .int .i64 _, .slice _ _ _]) 6 (by rfl) (by rfl)) (by rfl)) ?_
                refine WS_det hF (by rfl) (y_loadN (by rfl) Tryd.isAgg77 Tryd.sizeOf77 (Mem.own (us := [.int .i64 _, .int .i64 _, .int .i64 _, .int .i64 _]) 0 (by rfl) (by rfl)) (by rfl)) ?_
                refine WS_gen hF (by rfl) (y_callL (by rfl) (by rfl) Tryd.call82 (fun w hw => add_any (wrK l c p k) ga gc gae gce ⟨dayK l l.es.length, 2, ⟨-dK c p k, -dK c p k⟩⟩ w (by rw [wrK_tk]; exact hgn) (NewRow.ints hg3 rfl (hg3s.trans sbA) w hw) (NewRow.rws en_len hg4 rfl (hg4s.trans sbA) w hw))) ?_
                rintro _ _ hT9
                obtain ⟨_, rfl, u1, v1, u2, v2, Q1, Q2, rfl, hu1, hu2, rfl⟩ := AddV.twin hT9
                refine WS_back ?_
                refine WS_det hF (by rfl) (y_move (c := .tuple _) (by rfl)) ?_
                refine WS_det hF (by rfl) (y_extract (c := .agg _) (by rfl) (by rfl)) ?_
                refine WS_det hF (by rfl) (y_extract (c := .int .i64 _) (by rfl) (by rfl)) ?_
                refine WS_store hF (us := [.slice _ _ _, .int .i64 _, .int .i64 _, .int .i64 _, .int .i64 _, .slice _ _ _]) (i := 6) (by rfl) (by rfl) Tryd.sizeOf66 (by rfl) (by rfl) (by rfl) (by first | decide | exact Nat.le_of_ble_eq_true rfl | simp) ?_
                refine WS_det hF (by rfl) (y_assign (c := .int .i64 _) (by rfl)) ?_
                refine WS_nil ?_
                refine Then_normal ?_
                refine W_seq ?_
                have hE : wrE l c p k = (wrK l c p k).addE (wrX (dayK l l.es.length) (dK c p k)) := if_neg hz
                have hL0 : (wrK l c p k).addE (wrX (dayK l l.es.length) (dK c p k)) = 0 → (wrK l c p k).addL (wrX (dayK l l.es.length) (dK c p k)) = wrK l c p (k + 1) := fun h => by
                  unfold Lg.addL
                  rw [if_pos h]
                  exact (if_neg hz).symm
                rw [hX] at hE hL0
                refine W_region_lit (fun ds => ?_)
                refine WS_det hF (by rfl) (y_move (c := .int .i64 _) (by rfl)) ?_
                refine WS_det hF (by rfl) (y_neq (by rfl) (by rfl)) ?_
                refine WS_nil ?_
                refine Then_normal ?_
                refine W_cond (by rfl) (fun c27 => ?_) (fun c27 => ?_)
                ·
                  try simp only [Bool.not_eq_true', Bool.not_eq_false', decide_eq_true_eq, decide_eq_false_iff_not, ne_eq, Classical.not_not, Int.not_lt, Int.not_le] at c27
                  refine W_seq ?_
                  refine W_region_lit (fun ds => ?_)
                  refine WS_det hF (by rfl) (y_buildL bd66 (by rfl)) ?_
                  refine WS_det hF (by rfl) (y_move (c := .int .i64 _) (by rfl)) ?_
                  refine WS_store hF (us := [.slice _ _ _, .int .i64 _, .int .i64 _, .int .i64 _, .int .i64 _, .slice _ _ _]) (i := 5) (by rfl) (by rfl) Tryd.sizeOf66 (by rfl) (by rfl) (by rfl) (by first | decide | exact Nat.le_of_ble_eq_true rfl | simp) ?_
                  refine WS_det hF (by rfl) (y_assign (c := .int .i64 _) (by rfl)) ?_
                  refine WS_nil ?_
                  refine Then_normal ?_
                  refine W_ret ?_
                  refine InB_ret ?_
                  refine Then_ret ?_
                  refine Loop_ret ?_
                  refine InB_ret ?_
                  refine Then_ret ?_
                  refine Fin_ret [_, .int .i64 _] [] Tryd.results34 ⟨lvN (by rfl) Tryd.isAgg66 Tryd.sizeOf66 (Mem.own (us := [.slice _ _ _, .int .i64 _, .int .i64 _, .int .i64 _, .int .i64 _, .slice _ _ _]) 5 (by rfl) (by rfl)) (by rfl), by rfl, trivial⟩ HSub.nil ?_
                  exact WrtV.stop c2 c5 (by omega) hj hE c27
                ·
                  try simp only [Bool.not_eq_true', Bool.not_eq_false', decide_eq_true_eq, decide_eq_false_iff_not, ne_eq, Classical.not_not, Int.not_lt, Int.not_le] at c27
                  have hL := hL0 c27
                  have hj2 : ∀ j, j < k + 1 → wrE l c p j = 0 := fun j h => by by_cases hjk : j = k; (subst hjk; exact hE.trans c27); exact hj j (by omega)
                  change NewRow _ _ ((wrK l c p k).addL _).tk.n _ _ _ at hu1
                  rw [hL] at hu1 hu2
                  have hT2 : TwinL (wrK l c p (k + 1)) (.agg (lgV (wrK l c p (k + 1)) u1 v1 u2 v2).toArray) (Q1 ++ Q2) := ⟨_, _, _, _, Q1, Q2, rfl, hu1, hu2, rfl⟩
                  rw [show (wrK l c p k).addL _ = wrK l c p (k + 1) from hL, show (wrK l c p k).addE _ = 0 from c27]
                  refine W_skip ?_
                  refine InB_normal ?_
                  refine Then_normal ?_
                  refine W_region_lit (fun ds => ?_)
                  refine WS_det hF (by rfl) (y_add (by rfl) (by rfl) (by unfold I64; omega)) ?_
                  refine WS_det hF (by rfl) (y_move (c := .int .i64 _) (by rfl)) ?_
                  refine WS_nil ?_
                  exact Loop_next (k + 1, (u1, v1, u2, v2), HX ++ (Q1 ++ Q2)) ⟨by simp only; omega, hj2, ⟨Q1 ++ Q2, hT2, sbA⟩⟩ (by repeat (first | exact trivial | refine ⟨by rfl, ?_⟩)) sbA (by simp only; omega)
              ·
                try simp only [Bool.not_eq_true', Bool.not_eq_false', decide_eq_true_eq, decide_eq_false_iff_not, ne_eq, Classical.not_not, Int.not_lt, Int.not_le] at c24
                have hX : wrX (dayK l l.es.length) (dK c p k) = ⟨dayK l l.es.length, 1, ⟨dK c p k, dK c p k⟩⟩ := if_neg (by show ¬ dK c p k < 0; have : 0 ≤ dK c p k := c24; omega)
                refine W_skip ?_
                refine Then_normal ?_
                refine W_seq ?_
                refine W_region_lit (fun ds => ?_)
                refine WS_det hF (by rfl) (y_loadN (by rfl) Tryd.isAgg66 Tryd.sizeOf66 (Mem.own (us := [.slice _ _ _, .int .i64 _, .int .i64 _, .int .i64 _, .int .i64 _, .slice _ _ _]) 6 (by rfl) (by rfl)) (by rfl)) ?_
                refine WS_det hF (by rfl) (y_loadN (by rfl) Tryd.isAgg77 Tryd.sizeOf77 (Mem.own (us := [.int .i64 _, .int .i64 _, .int .i64 _, .int .i64 _]) 0 (by rfl) (by rfl)) (by rfl)) ?_
                refine WS_gen hF (by rfl) (y_callL (by rfl) (by rfl) Tryd.call82 (fun w hw => add_any (wrK l c p k) ga gc gae gce ⟨dayK l l.es.length, 1, ⟨dK c p k, dK c p k⟩⟩ w (by rw [wrK_tk]; exact hgn) (NewRow.ints hg3 rfl (hg3s.trans sbA) w hw) (NewRow.rws en_len hg4 rfl (hg4s.trans sbA) w hw))) ?_
                rintro _ _ hT9
                obtain ⟨_, rfl, u1, v1, u2, v2, Q1, Q2, rfl, hu1, hu2, rfl⟩ := AddV.twin hT9
                refine WS_back ?_
                refine WS_det hF (by rfl) (y_move (c := .tuple _) (by rfl)) ?_
                refine WS_det hF (by rfl) (y_extract (c := .agg _) (by rfl) (by rfl)) ?_
                refine WS_det hF (by rfl) (y_extract (c := .int .i64 _) (by rfl) (by rfl)) ?_
                refine WS_store hF (us := [.slice _ _ _, .int .i64 _, .int .i64 _, .int .i64 _, .int .i64 _, .slice _ _ _]) (i := 6) (by rfl) (by rfl) Tryd.sizeOf66 (by rfl) (by rfl) (by rfl) (by first | decide | exact Nat.le_of_ble_eq_true rfl | simp) ?_
                refine WS_det hF (by rfl) (y_assign (c := .int .i64 _) (by rfl)) ?_
                refine WS_nil ?_
                refine Then_normal ?_
                refine W_seq ?_
                have hE : wrE l c p k = (wrK l c p k).addE (wrX (dayK l l.es.length) (dK c p k)) := if_neg hz
                have hL0 : (wrK l c p k).addE (wrX (dayK l l.es.length) (dK c p k)) = 0 → (wrK l c p k).addL (wrX (dayK l l.es.length) (dK c p k)) = wrK l c p (k + 1) := fun h => by
                  unfold Lg.addL
                  rw [if_pos h]
                  exact (if_neg hz).symm
                rw [hX] at hE hL0
                refine W_region_lit (fun ds => ?_)
                refine WS_det hF (by rfl) (y_move (c := .int .i64 _) (by rfl)) ?_
                refine WS_det hF (by rfl) (y_neq (by rfl) (by rfl)) ?_
                refine WS_nil ?_
                refine Then_normal ?_
                refine W_cond (by rfl) (fun c27 => ?_) (fun c27 => ?_)
                ·
                  try simp only [Bool.not_eq_true', Bool.not_eq_false', decide_eq_true_eq, decide_eq_false_iff_not, ne_eq, Classical.not_not, Int.not_lt, Int.not_le] at c27
                  refine W_seq ?_
                  refine W_region_lit (fun ds => ?_)
                  refine WS_det hF (by rfl) (y_buildL bd66 (by rfl)) ?_
                  refine WS_det hF (by rfl) (y_move (c := .int .i64 _) (by rfl)) ?_
                  refine WS_store hF (us := [.slice _ _ _, .int .i64 _, .int .i64 _, .int .i64 _, .int .i64 _, .slice _ _ _]) (i := 5) (by rfl) (by rfl) Tryd.sizeOf66 (by rfl) (by rfl) (by rfl) (by first | decide | exact Nat.le_of_ble_eq_true rfl | simp) ?_
                  refine WS_det hF (by rfl) (y_assign (c := .int .i64 _) (by rfl)) ?_
                  refine WS_nil ?_
                  refine Then_normal ?_
                  refine W_ret ?_
                  refine InB_ret ?_
                  refine Then_ret ?_
                  refine Loop_ret ?_
                  refine InB_ret ?_
                  refine Then_ret ?_
                  refine Fin_ret [_, .int .i64 _] [] Tryd.results34 ⟨lvN (by rfl) Tryd.isAgg66 Tryd.sizeOf66 (Mem.own (us := [.slice _ _ _, .int .i64 _, .int .i64 _, .int .i64 _, .int .i64 _, .slice _ _ _]) 5 (by rfl) (by rfl)) (by rfl), by rfl, trivial⟩ HSub.nil ?_
                  exact WrtV.stop c2 c5 (by omega) hj hE c27
                ·
                  try simp only [Bool.not_eq_true', Bool.not_eq_false', decide_eq_true_eq, decide_eq_false_iff_not, ne_eq, Classical.not_not, Int.not_lt, Int.not_le] at c27
                  have hL := hL0 c27
                  have hj2 : ∀ j, j < k + 1 → wrE l c p j = 0 := fun j h => by by_cases hjk : j = k; (subst hjk; exact hE.trans c27); exact hj j (by omega)
                  change NewRow _ _ ((wrK l c p k).addL _).tk.n _ _ _ at hu1
                  rw [hL] at hu1 hu2
                  have hT2 : TwinL (wrK l c p (k + 1)) (.agg (lgV (wrK l c p (k + 1)) u1 v1 u2 v2).toArray) (Q1 ++ Q2) := ⟨_, _, _, _, Q1, Q2, rfl, hu1, hu2, rfl⟩
                  rw [show (wrK l c p k).addL _ = wrK l c p (k + 1) from hL, show (wrK l c p k).addE _ = 0 from c27]
                  refine W_skip ?_
                  refine InB_normal ?_
                  refine Then_normal ?_
                  refine W_region_lit (fun ds => ?_)
                  refine WS_det hF (by rfl) (y_add (by rfl) (by rfl) (by unfold I64; omega)) ?_
                  refine WS_det hF (by rfl) (y_move (c := .int .i64 _) (by rfl)) ?_
                  refine WS_nil ?_
                  exact Loop_next (k + 1, (u1, v1, u2, v2), HX ++ (Q1 ++ Q2)) ⟨by simp only; omega, hj2, ⟨Q1 ++ Q2, hT2, sbA⟩⟩ (by repeat (first | exact trivial | refine ⟨by rfl, ?_⟩)) sbA (by simp only; omega)
        ·
          try simp only [Bool.not_eq_true', Bool.not_eq_false', decide_eq_true_eq, decide_eq_false_iff_not, ne_eq, Classical.not_not, Int.not_lt, Int.not_le] at c17
          refine W_exit ?_
          refine Then_exit ?_
          refine Loop_exit ?_
          refine InB_same ?_
          refine Then_normal ?_
          refine W_seq ?_
          refine W_region_lit (fun ds => ?_)
          refine WS_det hF (by rfl) (y_loadN (by rfl) Tryd.isAgg66 Tryd.sizeOf66 (Mem.own (us := [.slice _ _ _, .int .i64 _, .int .i64 _, .int .i64 _, .int .i64 _, .slice _ _ _]) 3 (by rfl) (by rfl)) (by rfl)) ?_
          refine WS_det hF (by rfl) (y_move (c := .int .i64 _) (by rfl)) ?_
          refine WS_store hF (us := [.slice _ _ _, .int .i64 _, .int .i64 _, .int .i64 _, .int .i64 _, .slice _ _ _]) (i := 2) (by rfl) (by rfl) Tryd.sizeOf66 (by rfl) (by rfl) (by rfl) (by first | decide | exact Nat.le_of_ble_eq_true rfl | simp) ?_
          refine WS_det hF (by rfl) (y_assign (c := .int .i64 _) (by rfl)) ?_
          refine WS_nil ?_
          refine Then_normal ?_
          refine W_ret ?_
          refine Fin_ret [_, .int .i64 _] HL Tryd.results34 ⟨lvN (by rfl) Tryd.isAgg66 Tryd.sizeOf66 (Mem.own (us := [.slice _ _ _, .int .i64 _, .int .i64 _, .int .i64 _, .int .i64 _, .slice _ _ _]) 2 (by rfl) (by rfl)) (by rfl), by rfl, trivial⟩ (HSub.sub (hHL.trans sbA)) ?_
          obtain rfl : k = p.length := by omega
          exact WrtV.go c2 c5 hj hT
end Go.Proofs.YtjekjehgmljbgaaDoor.T

/- The law CanLogs, walked. -/
namespace Go.Proofs.YtjekjehgmljbgaaDoor.T
open Go.RowKit Go.Proofs Go.Eng
set_option maxRecDepth 100000
set_option maxHeartbeats 1000000
set_option linter.unusedVariables false
set_option linter.unusedSimpArgs false



section
variable {C : Ctx} {F : Fence} {n : Nat} {ds : List Deferred} {all : Array Oper} {Q : Exit → Env → List Blk → Prop} {rest : List Oper} {e : Env} {H M' : List Blk}
theorem WS_pull (x : Blk) (hp : H.Perm (x :: M')) (h : WS C F n ds all Q rest e (x :: M')) : WS C F n ds all Q rest e H := fun w hw a ha => h w ⟨hw.1, hw.2.perm hp.symm, hw.3⟩ a ha
end
theorem begC_bd (l : Lg) (D : List Int) (h : D.length ≤ 1000) : (begC l D).n ≤ 1000 ∧ (begC l D).inn.length ≤ 1000 := by
  unfold begC
  split
  · split
    · exact ⟨h, by rw [begC0_inn]; exact h⟩
    · exact ⟨Nat.zero_le _, Nat.zero_le _⟩
  · exact ⟨Nat.zero_le _, Nat.zero_le _⟩
theorem wrK_len (l : Lg) (c : Cn) (p : List Po) : ∀ k, (wrK l c p k).es.length ≤ l.es.length + k
  | 0 => Nat.le_refl _
  | k + 1 => by
    have := wrK_len l c p k
    unfold wrK
    split
    · omega
    · rw [Lg.put_len]; omega
theorem wtL_bd (l : Lg) (c : Cn) (p : List Po) (hn : l.tk.n ≤ 100) (he : l.es.length ≤ 100) (hp : p.length ≤ 100) : (wtL l c p).tk.n ≤ 1000 ∧ (wtL l c p).es.length ≤ 1000 := by
  unfold wtL
  split
  · split
    · split
      · have := wrK_len l c p p.length
        refine ⟨?_, by omega⟩
        show (wrK l c p p.length).tk.n ≤ 1000
        rw [wrK_tk]; omega
      · exact ⟨Nat.zero_le _, Nat.zero_le _⟩
    · exact ⟨Nat.zero_le _, Nat.zero_le _⟩
  · exact ⟨Nat.zero_le _, Nat.zero_le _⟩
theorem canLogs_any (l : Lg) (a : Option Addr) (cap : Nat) (ae : Option Addr) (cape : Nat) (ta : Option Addr) (tn tcap : Nat) (D : List Int) (c : Cn) (a1 : Option Addr) (p1 : Nat) (a2 : Option Addr) (p2 : Nat) (p : List Po) (pa : Option Addr) (pn pcap : Nat) (w : World) (hG : Gv w) (hx : Ints w a l.tk.n cap l.tk.pints) (he : Ens w ae l.es.length cape l.es) (hD : Ints w ta tn tcap D) (h1 : Ints w a1 c.n p1 c.sz) (h2 : Ints w a2 c.inn.length p2 c.inn) (hp : Pos w pa pn pcap p) :
    Ct Tryd.prog 6 #[.agg #[.slice a l.tk.n cap, .int .i64 l.tk.leak, .int .i64 l.tk.foot, .int .i64 l.start.lo, .int .i64 l.start.hi, .slice ae l.es.length cape], .slice ta tn tcap, .agg #[.slice a1 c.n p1, .slice a2 c.inn.length p2, .int .i64 c.st], .slice pa pn pcap] w fun v _ => v = .bool true := by
  have hDl := hD.len
  subst hDl
  have hpl := hp.len
  subst hpl
  have hF := wide_wide
  refine Ct_start (args := [_, _, _, _]) Tryd.func6 (by rfl) Tryd.ntmps6 (by rfl) ?_
  refine W_seq ?_
  refine W_region_lit (fun ds => ?_)
  refine WS_new hF (by rfl) (y_box (by rfl)) (fun b1 => ?_)
  refine WS_new hF (by rfl) (y_box (by rfl)) (fun b2 => ?_)
  refine WS_det hF (by rfl) (y_assign (c := .bool _) (by rfl)) ?_
  refine WS_nil ?_
  refine Then_normal ?_
  refine W_seq ?_
  refine W_seq ?_
  refine W_region_lit (fun ds => ?_)
  refine WS_det hF (by rfl) (y_loadN (by rfl) Tryd.isAgg66 Tryd.sizeOf66 (Mem.own (us := [.slice _ _ _, .int .i64 _, .int .i64 _, .int .i64 _, .int .i64 _, .slice _ _ _]) 1 (by rfl) (by rfl)) (by rfl)) ?_
  refine WS_det hF (by rfl) (y_callL (by rfl) (by rfl) Tryd.call30 (fun w hw => great_any l a cap ae cape w)) ?_
  refine WS_det hF (by rfl) (y_move (c := .bool _) (by rfl)) ?_
  refine WS_split 27 (by rfl) (fun g1_2 => ?_) (fun g1_2 => ?_)
  ·
    try simp only [Bool.not_eq_true', Bool.not_eq_false', decide_eq_true_eq, decide_eq_false_iff_not, ne_eq, Classical.not_not, Int.not_lt, Int.not_le] at g1_2
    refine WS_no hF (by rfl) ?_
    refine WS_no hF (by rfl) ?_
    refine WS_no hF (by rfl) ?_
    refine WS_det hF (by rfl) (by first | exact y_pick_t (c := .bool _) (by rfl) (by rfl) | exact y_pick_f (c := .bool _) (by rfl) (by rfl)) ?_
    refine WS_det hF (by rfl) (y_move (c := .bool _) (by rfl)) ?_
    refine WS_no hF (by rfl) ?_
    refine WS_no hF (by rfl) ?_
    refine WS_det hF (by rfl) (by first | exact y_pick_t (c := .bool _) (by rfl) (by rfl) | exact y_pick_f (c := .bool _) (by rfl) (by rfl)) ?_
    refine WS_det hF (by rfl) (y_move (c := .bool _) (by rfl)) ?_
    refine WS_no hF (by rfl) ?_
    refine WS_no hF (by rfl) ?_
    refine WS_no hF (by rfl) ?_
    refine WS_det hF (by rfl) (by first | exact y_pick_t (c := .bool _) (by rfl) (by rfl) | exact y_pick_f (c := .bool _) (by rfl) (by rfl)) ?_
    refine WS_nil ?_
    refine Then_normal ?_
    refine W_cond (by rfl) (fun c1 => ?_) (fun c1 => ?_)
    ·
      try simp only [Bool.not_eq_true', Bool.not_eq_false', decide_eq_true_eq, decide_eq_false_iff_not, ne_eq, Classical.not_not, Int.not_lt, Int.not_le] at c1
      refine W_seq ?_
      refine W_region_lit (fun ds => ?_)
      refine WS_det hF (by rfl) (y_assign (c := .bool _) (by rfl)) ?_
      refine WS_nil ?_
      refine Then_normal ?_
      refine W_ret ?_
      refine Then_ret ?_
      refine Fin_ret [.bool _] [] Tryd.results6 ⟨by rfl, trivial⟩ HSub.nil ?_
      rfl
    · cases c1
  ·
    try simp only [Bool.not_eq_true', Bool.not_eq_false', decide_eq_true_eq, decide_eq_false_iff_not, ne_eq, Classical.not_not, Int.not_lt, Int.not_le] at g1_2
    simp only [Bool.or_eq_false_iff, decide_eq_false_iff_not] at g1_2
    have hgn : l.tk.n ≤ 1000000 := by omega
    have hge : l.es.length ≤ 1000000 := by omega
    refine WS_det hF (by rfl) (y_move (c := .slice _ _ _) (by rfl)) ?_
    refine WS_det hF (by rfl) (y_len (by rfl) Tryd.runUnderlying22) ?_
    refine WS_det hF (by rfl) (y_gtr (by rfl) (by rfl)) ?_
    refine WS_det hF (by rfl) (by first | exact y_pick_t (c := .bool _) (by rfl) (by rfl) | exact y_pick_f (c := .bool _) (by rfl) (by rfl)) ?_
    refine WS_det hF (by rfl) (y_move (c := .bool _) (by rfl)) ?_
    refine WS_split 32 (by rfl) (fun g1_7 => ?_) (fun g1_7 => ?_)
    ·
      try simp only [Bool.not_eq_true', Bool.not_eq_false', decide_eq_true_eq, decide_eq_false_iff_not, ne_eq, Classical.not_not, Int.not_lt, Int.not_le] at g1_7
      refine WS_no hF (by rfl) ?_
      refine WS_no hF (by rfl) ?_
      refine WS_det hF (by rfl) (by first | exact y_pick_t (c := .bool _) (by rfl) (by rfl) | exact y_pick_f (c := .bool _) (by rfl) (by rfl)) ?_
      refine WS_det hF (by rfl) (y_move (c := .bool _) (by rfl)) ?_
      refine WS_no hF (by rfl) ?_
      refine WS_no hF (by rfl) ?_
      refine WS_no hF (by rfl) ?_
      refine WS_det hF (by rfl) (by first | exact y_pick_t (c := .bool _) (by rfl) (by rfl) | exact y_pick_f (c := .bool _) (by rfl) (by rfl)) ?_
      refine WS_nil ?_
      refine Then_normal ?_
      refine W_cond (by rfl) (fun c1 => ?_) (fun c1 => ?_)
      ·
        try simp only [Bool.not_eq_true', Bool.not_eq_false', decide_eq_true_eq, decide_eq_false_iff_not, ne_eq, Classical.not_not, Int.not_lt, Int.not_le] at c1
        refine W_seq ?_
        refine W_region_lit (fun ds => ?_)
        refine WS_det hF (by rfl) (y_assign (c := .bool _) (by rfl)) ?_
        refine WS_nil ?_
        refine Then_normal ?_
        refine W_ret ?_
        refine Then_ret ?_
        refine Fin_ret [.bool _] [] Tryd.results6 ⟨by rfl, trivial⟩ HSub.nil ?_
        rfl
      · cases c1
    ·
      try simp only [Bool.not_eq_true', Bool.not_eq_false', decide_eq_true_eq, decide_eq_false_iff_not, ne_eq, Classical.not_not, Int.not_lt, Int.not_le] at g1_7
      have htn : D.length ≤ 1000000 := by omega
      refine WS_det hF (by rfl) (y_loadN (by rfl) Tryd.isAgg24 Tryd.sizeOf24 (Mem.own (us := [.slice _ _ _, .slice _ _ _, .int .i64 _]) 0 (by rfl) (by rfl)) (by rfl)) ?_
      refine WS_det hF (by rfl) (y_callL (by rfl) (by rfl) Tryd.call9 (fun w hw => rcgreat_any c a1 p1 a2 p2 w)) ?_
      refine WS_det hF (by rfl) (by first | exact y_pick_t (c := .bool _) (by rfl) (by rfl) | exact y_pick_f (c := .bool _) (by rfl) (by rfl)) ?_
      refine WS_det hF (by rfl) (y_move (c := .bool _) (by rfl)) ?_
      refine WS_split 36 (by rfl) (fun g1_11 => ?_) (fun g1_11 => ?_)
      ·
        try simp only [Bool.not_eq_true', Bool.not_eq_false', decide_eq_true_eq, decide_eq_false_iff_not, ne_eq, Classical.not_not, Int.not_lt, Int.not_le] at g1_11
        refine WS_no hF (by rfl) ?_
        refine WS_no hF (by rfl) ?_
        refine WS_no hF (by rfl) ?_
        refine WS_det hF (by rfl) (by first | exact y_pick_t (c := .bool _) (by rfl) (by rfl) | exact y_pick_f (c := .bool _) (by rfl) (by rfl)) ?_
        refine WS_nil ?_
        refine Then_normal ?_
        refine W_cond (by rfl) (fun c1 => ?_) (fun c1 => ?_)
        ·
          try simp only [Bool.not_eq_true', Bool.not_eq_false', decide_eq_true_eq, decide_eq_false_iff_not, ne_eq, Classical.not_not, Int.not_lt, Int.not_le] at c1
          refine W_seq ?_
          refine W_region_lit (fun ds => ?_)
          refine WS_det hF (by rfl) (y_assign (c := .bool _) (by rfl)) ?_
          refine WS_nil ?_
          refine Then_normal ?_
          refine W_ret ?_
          refine Then_ret ?_
          refine Fin_ret [.bool _] [] Tryd.results6 ⟨by rfl, trivial⟩ HSub.nil ?_
          rfl
        · cases c1
      ·
        try simp only [Bool.not_eq_true', Bool.not_eq_false', decide_eq_true_eq, decide_eq_false_iff_not, ne_eq, Classical.not_not, Int.not_lt, Int.not_le] at g1_11
        simp only [Bool.or_eq_false_iff, decide_eq_false_iff_not] at g1_11
        have hn : c.n ≤ 1000000 := by omega
        have hm : c.inn.length ≤ 1000000 := by omega
        refine WS_det hF (by rfl) (y_move (c := .slice _ _ _) (by rfl)) ?_
        refine WS_det hF (by rfl) (y_len (by rfl) Tryd.runUnderlying27) ?_
        refine WS_det hF (by rfl) (y_gtr (by rfl) (by rfl)) ?_
        refine WS_det hF (by rfl) (by first | exact y_pick_t (c := .bool _) (by rfl) (by rfl) | exact y_pick_f (c := .bool _) (by rfl) (by rfl)) ?_
        refine WS_nil ?_
        refine Then_normal ?_
        refine W_cond (by rfl) (fun c1 => ?_) (fun c1 => ?_)
        ·
          try simp only [Bool.not_eq_true', Bool.not_eq_false', decide_eq_true_eq, decide_eq_false_iff_not, ne_eq, Classical.not_not, Int.not_lt, Int.not_le] at c1
          refine W_seq ?_
          refine W_region_lit (fun ds => ?_)
          refine WS_det hF (by rfl) (y_assign (c := .bool _) (by rfl)) ?_
          refine WS_nil ?_
          refine Then_normal ?_
          refine W_ret ?_
          refine Then_ret ?_
          refine Fin_ret [.bool _] [] Tryd.results6 ⟨by rfl, trivial⟩ HSub.nil ?_
          rfl
        ·
          try simp only [Bool.not_eq_true', Bool.not_eq_false', decide_eq_true_eq, decide_eq_false_iff_not, ne_eq, Classical.not_not, Int.not_lt, Int.not_le] at c1
          have hpl : p.length ≤ 1000000 := by omega
          obtain ⟨ab1, ab2⟩ := begC_bd l D (by omega)
          obtain ⟨sb1, sb2⟩ := wtL_bd l c p (by omega) (by omega) (by omega)
          refine W_skip ?_
          refine Then_normal ?_
          refine W_seq ?_
          apply W_drawMT 12 hF Trydmixed [] [] [] (by rfl) (by decide +kernel) (by decide) HSub.refl
          intro ds
          refine P_det (by rfl) (Over_nil (y_loadN (by rfl) Tryd.isAgg66 Tryd.sizeOf66 (Mem.own (us := [.slice _ _ _, .int .i64 _, .int .i64 _, .int .i64 _, .int .i64 _, .slice _ _ _]) 1 (by rfl) (by rfl)) (by rfl))) ?_
          refine P_new (by rfl) (by rfl) (Over_nil (y_callL (by rfl) (by rfl) Tryd.call31 (fun w hw => twin_any l a cap ae cape w hge hgn (hx.st w hw) (he.st w hw)))) ?_
          refine P_new (by rfl) (by rfl) (Over_out (by rfl) (Over_nil (y_buildSliceL bs22_0 (by rfl)))) ?_
          refine P_det (by rfl) (Over_out (by rfl) (Over_out (by rfl) (Over_nil (y_move (c := .slice _ _ _) (by rfl))))) ?_
          refine P_new (by rfl) (by rfl) (Over_in (by rfl) (Over_out (by rfl) (Over_nil (by rintro _ _ ⟨b5, rfl, rfl⟩; exact (y_append0 (by rfl) (by rfl) Tryd.underlying22 infInt (by rfl) hD.src (iv_len D) (by omega) (by omega)))))) ?_
          refine P_det (by rfl) (Over_out (by rfl) (Over_out (by rfl) (Over_out (by rfl) (Over_nil (y_loadN (by rfl) Tryd.isAgg24 Tryd.sizeOf24 (Mem.own (us := [.slice _ _ _, .slice _ _ _, .int .i64 _]) 0 (by rfl) (by rfl)) (by rfl)))))) ?_
          refine P_new (by rfl) (by rfl) (Over_out (by rfl) (Over_out (by rfl) (Over_out (by rfl) (Over_nil (y_callL (by rfl) (by rfl) Tryd.call10 (fun w hw => rctwin_any c a1 p1 a2 p2 w hn hm (h1.st w hw) (h2.st w hw))))))) ?_
          refine P_new (by rfl) (by rfl) (Over_out (by rfl) (Over_out (by rfl) (Over_out (by rfl) (Over_out (by rfl) (Over_nil (y_buildSliceL bs27_0 (by rfl))))))) ?_
          refine P_det (by rfl) (Over_out (by rfl) (Over_out (by rfl) (Over_out (by rfl) (Over_out (by rfl) (Over_out (by rfl) (Over_nil (y_move (c := .slice _ _ _) (by rfl)))))))) ?_
          refine P_new (by rfl) (by rfl) (Over_in (by rfl) (Over_out (by rfl) (Over_out (by rfl) (Over_out (by rfl) (Over_out (by rfl) (Over_nil (by rintro _ _ ⟨b9, rfl, rfl⟩; exact (y_append0 (by rfl) (by rfl) Tryd.underlying27 infPo (by rfl) (Rws.src po_len hp) (rowOf_len po_len _ _) (by omega) (by omega))))))))) ?_
          refine P_new (by rfl) (by rfl) (Over_out (by rfl) (Over_out (by rfl) (Over_out (by rfl) (Over_out (by rfl) (Over_out (by rfl) (Over_out (by rfl) (Over_nil (y_alloc Tryd.zeroValue66 (by rfl))))))))) ?_
          refine P_new (by rfl) (by rfl) (Over_out (by rfl) (Over_out (by rfl) (Over_out (by rfl) (Over_out (by rfl) (Over_out (by rfl) (Over_out (by rfl) (Over_out (by rfl) (Over_nil (y_alloc Tryd.zeroValue24 (by rfl)))))))))) ?_
          refine PW_end (by rfl) ?_
          refine OverAll_cons (fun w11 l11 => ?_)
          refine OverAll_cons (fun w9 l9 => ?_)
          refine OverAll_cons (fun w50 l50 => ?_)
          refine OverAll_cons (fun w48 l48 => ?_)
          refine OverAll_cons (fun w47 l47 => ?_)
          refine OverAll_cons (fun w45 l45 => ?_)
          refine OverAll_cons (fun w43 l43 => ?_)
          refine OverAll_cons (fun w42 l42 => ?_)
          refine OverAll_nil ?_
          rintro ⟨⟨⟨⟨⟨⟨⟨⟨-, h11⟩, h9⟩, h50⟩, h48⟩, h47⟩, h45⟩, h43⟩, h42⟩
          obtain ⟨a', cap', ae', cape', H1, H2, rfl, hr1, hr2, rfl⟩ := h42
          obtain ⟨b4, rfl, rfl⟩ := h43
          obtain ⟨la, lcap, rfl, hrl2⟩ := NewRow.sl h45
          obtain ⟨z1, q1, z2, q2, K1, K2, rfl, hk1, hk2, rfl⟩ := h47
          obtain ⟨b8, rfl, rfl⟩ := h48
          obtain ⟨la2, lcap2, rfl, hrp2⟩ := NewRow.sl h50
          obtain ⟨bo, rfl, rfl⟩ := h9
          obtain ⟨bq, rfl, rfl⟩ := h11
          refine WS_pull (b1, _) (by repeat (first | exact Pul.base0 | exact Pul.base | apply Pul.cons | apply Pul.app)) ?_
          refine WS_pull (b2, _) (by repeat (first | exact Pul.base0 | exact Pul.base | apply Pul.cons | apply Pul.app)) ?_
          refine WS_pull (bo, _) (by repeat (first | exact Pul.base0 | exact Pul.base | apply Pul.cons | apply Pul.app)) ?_
          refine WS_pull (bq, _) (by repeat (first | exact Pul.base0 | exact Pul.base | apply Pul.cons | apply Pul.app)) ?_
          refine WS_store hF (us := [.slice _ _ _, .int .i64 _, .int .i64 _, .int .i64 _, .int .i64 _, .slice _ _ _]) (i := 1) (by rfl) (by rfl) Tryd.sizeOf66 (by rfl) (by rfl) (by rfl) (by first | decide | exact Nat.le_of_ble_eq_true rfl | simp) ?_
          refine WS_det hF (by rfl) (y_assign (c := .slice _ _ _) (by rfl)) ?_
          refine WS_store hF (us := [.slice _ _ _, .slice _ _ _, .int .i64 _]) (i := 0) (by rfl) (by rfl) Tryd.sizeOf24 (by rfl) (by rfl) (by rfl) (by first | decide | exact Nat.le_of_ble_eq_true rfl | simp) ?_
          refine WS_det hF (by rfl) (y_assign (c := .slice _ _ _) (by rfl)) ?_
          refine WS_nil ?_
          refine Then_normal ?_
          refine W_seq ?_
          refine W_keep [(1, .slice _ _ _), (3, .slice _ _ _), (4, .pointer _), (6, .pointer _), (8, .bool _), (9, .pointer _), (10, .slice _ _ _), (11, .pointer _), (12, .slice _ _ _)] (by repeat (first | exact trivial | refine ⟨by rfl, ?_⟩)) (fun e => ?_)
          refine W_region_lit (fun ds => ?_)
          refine WS_det hF (by rfl) (y_loadN (by rfl) Tryd.isAgg66 Tryd.sizeOf66 (Mem.own (us := [.slice _ _ _, .int .i64 _, .int .i64 _, .int .i64 _, .int .i64 _, .slice _ _ _]) 1 (by rfl) (by rfl)) (by rfl)) ?_
          refine WS_det hF (by rfl) (y_move (c := .slice _ _ _) (by rfl)) ?_
          refine WS_gen hF (by rfl) (y_callL (by rfl) (by rfl) Tryd.call32 (fun w hw => begin_any l a' cap' ae' cape' la D.length lcap D w (hG.st w hw) htn hgn (NewRow.ints hr1 rfl sbA w hw) (NewRow.rws en_len hr2 rfl sbA w hw) (NewRow.ints hrl2 rfl sbA w hw))) ?_
          rintro _ _ ⟨_, rfl, x1, y1, x2, y2, Hx1, Hx2, rfl, hx1, hx2, rfl⟩
          refine WS_back ?_
          refine WS_det hF (by rfl) (y_move (c := .tuple _) (by rfl)) ?_
          refine WS_det hF (by rfl) (y_extract (c := .agg _) (by rfl) (by rfl)) ?_
          refine WS_det hF (by rfl) (y_extract (c := .int .i64 _) (by rfl) (by rfl)) ?_
          refine WS_new hF (by rfl) (y_alloc Tryd.zeroValue24 (by rfl)) (fun bA => ?_)
          refine WS_store hF (us := [.slice _ _ _, .slice _ _ _, .int .i64 _]) (i := 0) (by rfl) (by rfl) Tryd.sizeOf24 (by rfl) (by rfl) (by rfl) (by first | decide | exact Nat.le_of_ble_eq_true rfl | simp) ?_
          refine WS_det hF (by rfl) (y_assign (c := .int .i64 _) (by rfl)) ?_
          refine WS_nil ?_
          refine Then_normal ?_
          refine W_seq ?_
          refine W_region_lit (fun ds => ?_)
          refine WS_det hF (by rfl) (y_loadN (by rfl) Tryd.isAgg66 Tryd.sizeOf66 (Mem.own (us := [.slice _ _ _, .int .i64 _, .int .i64 _, .int .i64 _, .int .i64 _, .slice _ _ _]) 4 (by rfl) (by rfl)) (by rfl)) ?_
          refine WS_det hF (by rfl) (y_move (c := .slice _ _ _) (by rfl)) ?_
          refine WS_gen hF (by rfl) (y_callL (by rfl) (by rfl) Tryd.call33 (fun w hw => rbegin_any l a cap ae cape ta D.length tcap D w htn hgn (hx.st w hw) (he.st w hw) (hD.st w hw))) ?_
          rintro _ _ ⟨_, rfl, e1, f1, e2, f2, He1, He2, rfl, he1, he2, rfl⟩
          refine WS_back ?_
          refine WS_det hF (by rfl) (y_move (c := .tuple _) (by rfl)) ?_
          refine WS_det hF (by rfl) (y_extract (c := .agg _) (by rfl) (by rfl)) ?_
          refine WS_det hF (by rfl) (y_extract (c := .int .i64 _) (by rfl) (by rfl)) ?_
          refine WS_new hF (by rfl) (y_alloc Tryd.zeroValue24 (by rfl)) (fun b11 => ?_)
          refine WS_store hF (us := [.slice _ _ _, .slice _ _ _, .int .i64 _]) (i := 0) (by rfl) (by rfl) Tryd.sizeOf24 (by rfl) (by rfl) (by rfl) (by first | decide | exact Nat.le_of_ble_eq_true rfl | simp) ?_
          refine WS_det hF (by rfl) (y_assign (c := .int .i64 _) (by rfl)) ?_
          refine WS_nil ?_
          refine Then_normal ?_
          refine W_seq ?_
          refine W_region_lit (fun ds => ?_)
          refine WS_det hF (by rfl) (y_loadN (by rfl) Tryd.isAgg66 Tryd.sizeOf66 (Mem.own (us := [.slice _ _ _, .int .i64 _, .int .i64 _, .int .i64 _, .int .i64 _, .slice _ _ _]) 3 (by rfl) (by rfl)) (by rfl)) ?_
          refine WS_det hF (by rfl) (y_loadN (by rfl) Tryd.isAgg24 Tryd.sizeOf24 (Mem.own (us := [.slice _ _ _, .slice _ _ _, .int .i64 _]) 2 (by rfl) (by rfl)) (by rfl)) ?_
          refine WS_det hF (by rfl) (y_move (c := .slice _ _ _) (by rfl)) ?_
          refine WS_gen hF (by rfl) (y_callL (by rfl) (by rfl) Tryd.call34 (fun w hw => written_any l a' cap' ae' cape' c z1 q1 z2 q2 p la2 lcap2 w (hG.st w hw) hpl hgn hge (NewRow.ints hr1 rfl sbA w hw) (NewRow.rws en_len hr2 rfl sbA w hw) hn hm (NewRow.ints hk1 rfl sbA w hw) (NewRow.ints hk2 rfl sbA w hw) (NewRow.rws po_len hrp2 rfl sbA w hw))) ?_
          rintro _ _ ⟨_, rfl, g1, gc1, g2, gc2, Hc1, Hc2, rfl, hc1, hc2, rfl⟩
          refine WS_back ?_
          refine WS_det hF (by rfl) (y_move (c := .tuple _) (by rfl)) ?_
          refine WS_det hF (by rfl) (y_extract (c := .agg _) (by rfl) (by rfl)) ?_
          refine WS_det hF (by rfl) (y_extract (c := .int .i64 _) (by rfl) (by rfl)) ?_
          refine WS_new hF (by rfl) (y_alloc Tryd.zeroValue66 (by rfl)) (fun bW => ?_)
          refine WS_store hF (us := [.slice _ _ _, .int .i64 _, .int .i64 _, .int .i64 _, .int .i64 _, .slice _ _ _]) (i := 0) (by rfl) (by rfl) Tryd.sizeOf66 (by rfl) (by rfl) (by rfl) (by first | decide | exact Nat.le_of_ble_eq_true rfl | simp) ?_
          refine WS_det hF (by rfl) (y_assign (c := .int .i64 _) (by rfl)) ?_
          refine WS_nil ?_
          refine Then_normal ?_
          refine W_seq ?_
          refine W_region_lit (fun ds => ?_)
          refine WS_det hF (by rfl) (y_loadN (by rfl) Tryd.isAgg66 Tryd.sizeOf66 (Mem.own (us := [.slice _ _ _, .int .i64 _, .int .i64 _, .int .i64 _, .int .i64 _, .slice _ _ _]) 6 (by rfl) (by rfl)) (by rfl)) ?_
          refine WS_det hF (by rfl) (y_loadN (by rfl) Tryd.isAgg24 Tryd.sizeOf24 (Mem.own (us := [.slice _ _ _, .slice _ _ _, .int .i64 _]) 5 (by rfl) (by rfl)) (by rfl)) ?_
          refine WS_det hF (by rfl) (y_move (c := .slice _ _ _) (by rfl)) ?_
          refine WS_gen hF (by rfl) (y_callL (by rfl) (by rfl) Tryd.call35 (fun w hw => rwritten_any l a cap ae cape c a1 p1 a2 p2 p pa pcap w hpl hgn hge (hx.st w hw) (he.st w hw) hn hm (h1.st w hw) (h2.st w hw) (hp.st w hw))) ?_
          rintro _ _ ⟨_, rfl, d1, dc1, d2, dc2, Hd1, Hd2, rfl, hd1, hd2, rfl⟩
          refine WS_back ?_
          refine WS_det hF (by rfl) (y_move (c := .tuple _) (by rfl)) ?_
          refine WS_det hF (by rfl) (y_extract (c := .agg _) (by rfl) (by rfl)) ?_
          refine WS_det hF (by rfl) (y_extract (c := .int .i64 _) (by rfl) (by rfl)) ?_
          refine WS_new hF (by rfl) (y_alloc Tryd.zeroValue66 (by rfl)) (fun b12 => ?_)
          refine WS_store hF (us := [.slice _ _ _, .int .i64 _, .int .i64 _, .int .i64 _, .int .i64 _, .slice _ _ _]) (i := 0) (by rfl) (by rfl) Tryd.sizeOf66 (by rfl) (by rfl) (by rfl) (by first | decide | exact Nat.le_of_ble_eq_true rfl | simp) ?_
          refine WS_det hF (by rfl) (y_assign (c := .int .i64 _) (by rfl)) ?_
          refine WS_nil ?_
          refine Then_normal ?_
          refine W_seq ?_
          refine W_keep [(1, .slice _ _ _), (3, .slice _ _ _), (4, .pointer _), (6, .pointer _), (8, .bool _), (9, .pointer _), (10, .slice _ _ _), (11, .pointer _), (12, .slice _ _ _), (13, .pointer _), (14, .int .i64 _), (15, .pointer _), (16, .int .i64 _), (17, .pointer _), (18, .int .i64 _), (19, .pointer _), (20, .int .i64 _)] (by repeat (first | exact trivial | refine ⟨by rfl, ?_⟩)) (fun e => ?_)
          refine W_region_lit (fun ds => ?_)
          refine WS_det hF (by rfl) (y_loadN (by rfl) Tryd.isAgg24 Tryd.sizeOf24 (Mem.own (us := [.slice _ _ _, .slice _ _ _, .int .i64 _]) 3 (by rfl) (by rfl)) (by rfl)) ?_
          refine WS_det hF (by rfl) (y_loadN (by rfl) Tryd.isAgg24 Tryd.sizeOf24 (Mem.own (us := [.slice _ _ _, .slice _ _ _, .int .i64 _]) 2 (by rfl) (by rfl)) (by rfl)) ?_
          refine WS_det hF (by rfl) (y_callL (by rfl) (by rfl) Tryd.call15 (fun w hw => Ct_eq (rcsame_any (begC l D) x1 y1 x2 y2 (begC l D) e1 f1 e2 f2 w (by omega) (by omega) (NewRow.ints hx1 rfl sbA w hw) (NewRow.ints hx2 rfl sbA w hw) (NewRow.ints he1 rfl sbA w hw) (NewRow.ints he2 rfl sbA w hw)) (c' := .bool true) (by simp))) ?_
          refine WS_det hF (by rfl) (y_move (c := .bool _) (by rfl)) ?_
          refine WS_det hF (by rfl) (y_move (c := .int .i64 _) (by rfl)) ?_
          refine WS_det hF (by rfl) (y_move (c := .int .i64 _) (by rfl)) ?_
          refine WS_det hF (by rfl) (y_eqlT (by rfl) (by rfl)) ?_
          refine WS_det hF (by rfl) (by first | exact y_pick_t (c := .bool _) (by rfl) (by rfl) | exact y_pick_f (c := .bool _) (by rfl) (by rfl)) ?_
          refine WS_det hF (by rfl) (y_move (c := .bool _) (by rfl)) ?_
          refine WS_det hF (by rfl) (y_loadN (by rfl) Tryd.isAgg66 Tryd.sizeOf66 (Mem.own (us := [.slice _ _ _, .int .i64 _, .int .i64 _, .int .i64 _, .int .i64 _, .slice _ _ _]) 1 (by rfl) (by rfl)) (by rfl)) ?_
          refine WS_det hF (by rfl) (y_loadN (by rfl) Tryd.isAgg66 Tryd.sizeOf66 (Mem.own (us := [.slice _ _ _, .int .i64 _, .int .i64 _, .int .i64 _, .int .i64 _, .slice _ _ _]) 0 (by rfl) (by rfl)) (by rfl)) ?_
          refine WS_det hF (by rfl) (y_callL (by rfl) (by rfl) Tryd.call36 (fun w hw => same_any (wtL l c p) d1 dc1 d2 dc2 g1 gc1 g2 gc2 w (by omega) (by omega) (NewRow.ints hd1 rfl sbA w hw) (NewRow.rws en_len hd2 rfl sbA w hw) (NewRow.ints hc1 rfl sbA w hw) (NewRow.rws en_len hc2 rfl sbA w hw))) ?_
          refine WS_det hF (by rfl) (by first | exact y_pick_t (c := .bool _) (by rfl) (by rfl) | exact y_pick_f (c := .bool _) (by rfl) (by rfl)) ?_
          refine WS_det hF (by rfl) (y_move (c := .bool _) (by rfl)) ?_
          refine WS_det hF (by rfl) (y_move (c := .int .i64 _) (by rfl)) ?_
          refine WS_det hF (by rfl) (y_move (c := .int .i64 _) (by rfl)) ?_
          refine WS_det hF (by rfl) (y_eqlT (by rfl) (by rfl)) ?_
          refine WS_det hF (by rfl) (by first | exact y_pick_t (c := .bool _) (by rfl) (by rfl) | exact y_pick_f (c := .bool _) (by rfl) (by rfl)) ?_
          refine WS_det hF (by rfl) (y_assign (c := .bool _) (by rfl)) ?_
          refine WS_nil ?_
          refine Then_normal ?_
          refine W_seq ?_
          refine W_seq ?_
          have ho1 : OwnR (Hx1 ++ (Hc1 ++ Hc2)) 3 1 x1 (begC l D).n := hx1.own fun y h => List.mem_append_left _ h
          have ho2 : OwnR (Hx1 ++ (Hc1 ++ Hc2)) 77 4 g2 (wtL l c p).es.length := hc2.own fun y h => List.mem_append_right _ (List.mem_append_right _ h)
          have ho3 : OwnR (Hx1 ++ (Hc1 ++ Hc2)) 3 1 g1 (wtL l c p).tk.n := hc1.own fun y h => List.mem_append_right _ (List.mem_append_left _ h)
          refine W_region_lit (fun ds => ?_)
          refine WS_det hF (by rfl) (y_fieldAddr (by rfl) fa24_0) ?_
          refine WS_det hF (by rfl) (y_load1 (by rfl) Tryd.isAgg22 (Mem.own1 3 (by rfl) (by rfl))) ?_
          refine WS_det hF (by rfl) (y_len (by rfl) Tryd.runUnderlying22) ?_
          refine WS_det hF (by rfl) (y_move (c := .int .i64 _) (by rfl)) ?_
          refine WS_nil ?_
          refine Then_normal ?_
          refine W_block ?_
          refine W_loop (γ := Nat × List Blk) (fun q => q.1 ≤ (begC l D).n ∧ Shp (Hx1 ++ (Hc1 ++ Hc2)) q.2) (fun q => [(98, .int .i64 (q.1 : Int)), (97, .int .i64 ((begC l D).n : Int)), (9, .pointer (some ⟨bo, 0, none⟩)), (10, .slice la D.length lcap), (1, .slice ta D.length tcap), (11, .pointer (some ⟨bq, 0, none⟩)), (12, .slice la2 p.length lcap2), (3, .slice pa p.length pcap), (4, .pointer (some ⟨b1, 0, none⟩)), (6, .pointer (some ⟨b2, 0, none⟩)), (13, .pointer (some ⟨bA, 0, none⟩)), (17, .pointer (some ⟨bW, 0, none⟩)), (21, .bool true)]) (fun q => (bW, CB [.slice g1 (wtL l c p).tk.n gc1, .int .i64 (wtL l c p).tk.leak, .int .i64 (wtL l c p).tk.foot, .int .i64 (wtL l c p).start.lo, .int .i64 (wtL l c p).start.hi, .slice g2 (wtL l c p).es.length gc2] 66) :: (bA, CB [.slice x1 (begC l D).n y1, .slice x2 (begC l D).inn.length y2, .int .i64 (begC l D).st] 24) :: (bq, CB [.slice z1 c.n q1, .slice z2 c.inn.length q2, .int .i64 c.st] 24) :: (bo, CB [.slice a' l.tk.n cap', .int .i64 l.tk.leak, .int .i64 l.tk.foot, .int .i64 l.start.lo, .int .i64 l.start.hi, .slice ae' l.es.length cape'] 66) :: (b2, CB [.slice a1 c.n p1, .slice a2 c.inn.length p2, .int .i64 c.st] 24) :: (b1, CB [.slice a l.tk.n cap, .int .i64 l.tk.leak, .int .i64 l.tk.foot, .int .i64 l.start.lo, .int .i64 l.start.hi, .slice ae l.es.length cape] 66) :: (H1 ++ (H2 ++ (l45 ++ (K1 ++ (K2 ++ (l50 ++ q.2))))))) (fun q => (begC l D).n - q.1) ((0, Hx1 ++ (Hc1 ++ Hc2))) ⟨Nat.zero_le _, hx1.shp.app (hc1.shp.app hc2.shp)⟩ (by repeat (first | exact trivial | refine ⟨by rfl, ?_⟩)) (sbA) ?_
          rintro ⟨i, S⟩ e ⟨hi, hS⟩
          refine W_seq ?_
          refine W_region_lit (fun ds => ?_)
          refine WS_det hF (by rfl) (y_lss (by rfl) (by rfl)) ?_
          refine WS_nil ?_
          refine Then_normal ?_
          refine W_seq ?_
          refine W_cond (by rfl) (fun c10 => ?_) (fun c10 => ?_)
          ·
            try simp only [Bool.not_eq_true', Bool.not_eq_false', decide_eq_true_eq, decide_eq_false_iff_not, ne_eq, Classical.not_not, Int.not_lt, Int.not_le] at c10
            obtain ⟨by_, Sa, us, Sb, hz1, rfl, hle, hput⟩ := ho1.get (k := i) (by omega) hS
            refine W_pull (by_, CB us 3) (by repeat (first | exact Pul.base0 | exact Pul.base | apply Pul.cons | apply Pul.app)) ?_
            refine W_skip ?_
            refine Then_normal ?_
            refine W_seq ?_
            refine W_block ?_
            refine W_seq ?_
            refine W_region_lit (fun ds => ?_)
            refine WS_det hF (by rfl) (y_move (c := .int .i64 _) (by rfl)) ?_
            refine WS_det hF (by rfl) (y_assign (c := .int .i64 _) (by rfl)) ?_
            refine WS_nil ?_
            refine Then_normal ?_
            refine W_region_lit (fun ds => ?_)
            refine WS_det hF (by rfl) (y_fieldAddr (by rfl) fa24_0) ?_
            refine WS_det hF (by rfl) (y_load1 (by rfl) Tryd.isAgg22 (Mem.own1 2 (by rfl) (by rfl))) ?_
            refine WS_det hF (by rfl) (y_move (c := .int .i64 _) (by rfl)) ?_
            rw [hz1]
            refine WS_det hF (by rfl) (y_index (k := i) (by rfl) (by rfl) (by first | rfl | omega) (by first | decide | omega) Tryd.runUnderlying22 Tryd.sizeOf3) ?_
            refine WS_store hF (us := [.int .i64 _]) (i := 0) (by rfl) (by rfl) Tryd.sizeOf3 (by rfl) (by rfl) (by rfl) (by simp only [List.length_singleton]; omega) ?_
            refine WS_nil ?_
            refine InB_normal ?_
            refine Then_normal ?_
            refine W_push (M := (bW, _) :: (bA, _) :: (bq, _) :: (bo, _) :: (b2, _) :: (b1, _) :: (H1 ++ (H2 ++ (l45 ++ (K1 ++ (K2 ++ (l50 ++ (Sa ++ (by_, CB (splice us (0 + i * 1) [.int .i64 (-7)]) 3) :: Sb)))))))) (by repeat (first | exact Pul.base0 | exact Pul.base | apply Pul.cons | apply Pul.app)) ?_
            obtain ⟨Sn, hSe, hSn⟩ : ∃ Sn, Sn = Sa ++ (by_, CB (splice us (0 + i * 1) [.int .i64 (-7)]) 3) :: Sb ∧ Shp (Hx1 ++ (Hc1 ++ Hc2)) Sn := ⟨_, rfl, hput _ (length_splice (by simp only [List.length_singleton]; omega))⟩
            rw [← hSe]
            refine W_region_lit (fun ds => ?_)
            refine WS_det hF (by rfl) (y_add (by rfl) (by rfl) (by unfold I64; omega)) ?_
            refine WS_det hF (by rfl) (y_move (c := .int .i64 _) (by rfl)) ?_
            refine WS_nil ?_
            exact Loop_next (i + 1, Sn) ⟨by simp only; omega, hSn⟩ (by repeat (first | exact trivial | refine ⟨by rfl, ?_⟩)) sbA (by simp only; omega)
          ·
            try simp only [Bool.not_eq_true', Bool.not_eq_false', decide_eq_true_eq, decide_eq_false_iff_not, ne_eq, Classical.not_not, Int.not_lt, Int.not_le] at c10
            refine W_exit ?_
            refine Then_exit ?_
            refine Loop_exit ?_
            refine InB_same ?_
            refine Then_normal ?_
            refine W_seq ?_
            refine W_seq ?_
            refine W_region_lit (fun ds => ?_)
            refine WS_det hF (by rfl) (y_fieldAddr (by rfl) fa66_2) ?_
            refine WS_det hF (by rfl) (y_load1 (by rfl) Tryd.isAgg64 (Mem.own1 0 (by rfl) (by rfl))) ?_
            refine WS_det hF (by rfl) (y_len (by rfl) Tryd.runUnderlying64) ?_
            refine WS_det hF (by rfl) (y_move (c := .int .i64 _) (by rfl)) ?_
            refine WS_nil ?_
            refine Then_normal ?_
            refine W_block ?_
            refine W_loop (γ := Nat × List Blk) (fun q => q.1 ≤ (wtL l c p).es.length ∧ Shp (Hx1 ++ (Hc1 ++ Hc2)) q.2) (fun q => [(109, .int .i64 (q.1 : Int)), (108, .int .i64 ((wtL l c p).es.length : Int)), (9, .pointer (some ⟨bo, 0, none⟩)), (10, .slice la D.length lcap), (1, .slice ta D.length tcap), (11, .pointer (some ⟨bq, 0, none⟩)), (12, .slice la2 p.length lcap2), (3, .slice pa p.length pcap), (4, .pointer (some ⟨b1, 0, none⟩)), (6, .pointer (some ⟨b2, 0, none⟩)), (13, .pointer (some ⟨bA, 0, none⟩)), (17, .pointer (some ⟨bW, 0, none⟩)), (21, .bool true)]) (fun q => (bW, CB [.slice g1 (wtL l c p).tk.n gc1, .int .i64 (wtL l c p).tk.leak, .int .i64 (wtL l c p).tk.foot, .int .i64 (wtL l c p).start.lo, .int .i64 (wtL l c p).start.hi, .slice g2 (wtL l c p).es.length gc2] 66) :: (bA, CB [.slice x1 (begC l D).n y1, .slice x2 (begC l D).inn.length y2, .int .i64 (begC l D).st] 24) :: (bq, CB [.slice z1 c.n q1, .slice z2 c.inn.length q2, .int .i64 c.st] 24) :: (bo, CB [.slice a' l.tk.n cap', .int .i64 l.tk.leak, .int .i64 l.tk.foot, .int .i64 l.start.lo, .int .i64 l.start.hi, .slice ae' l.es.length cape'] 66) :: (b2, CB [.slice a1 c.n p1, .slice a2 c.inn.length p2, .int .i64 c.st] 24) :: (b1, CB [.slice a l.tk.n cap, .int .i64 l.tk.leak, .int .i64 l.tk.foot, .int .i64 l.start.lo, .int .i64 l.start.hi, .slice ae l.es.length cape] 66) :: (H1 ++ (H2 ++ (l45 ++ (K1 ++ (K2 ++ (l50 ++ q.2))))))) (fun q => (wtL l c p).es.length - q.1) ((0, S)) ⟨Nat.zero_le _, hS⟩ (by repeat (first | exact trivial | refine ⟨by rfl, ?_⟩)) (sbA) ?_
            rintro ⟨j, S2⟩ e ⟨hj, hS2⟩
            refine W_seq ?_
            refine W_region_lit (fun ds => ?_)
            refine WS_det hF (by rfl) (y_lss (by rfl) (by rfl)) ?_
            refine WS_nil ?_
            refine Then_normal ?_
            refine W_seq ?_
            refine W_cond (by rfl) (fun c15 => ?_) (fun c15 => ?_)
            ·
              try simp only [Bool.not_eq_true', Bool.not_eq_false', decide_eq_true_eq, decide_eq_false_iff_not, ne_eq, Classical.not_not, Int.not_lt, Int.not_le] at c15
              obtain ⟨by_, Sa, us, Sb, hz1, rfl, hle, hput⟩ := ho2.get (k := j) (by omega) hS2
              refine W_pull (by_, CB us 77) (by repeat (first | exact Pul.base0 | exact Pul.base | apply Pul.cons | apply Pul.app)) ?_
              refine W_skip ?_
              refine Then_normal ?_
              refine W_seq ?_
              refine W_block ?_
              refine W_seq ?_
              refine W_region_lit (fun ds => ?_)
              refine WS_det hF (by rfl) (y_move (c := .int .i64 _) (by rfl)) ?_
              refine WS_det hF (by rfl) (y_assign (c := .int .i64 _) (by rfl)) ?_
              refine WS_nil ?_
              refine Then_normal ?_
              refine W_region_lit (fun ds => ?_)
              refine WS_det hF (by rfl) (y_fieldAddr (by rfl) fa66_2) ?_
              refine WS_det hF (by rfl) (y_load1 (by rfl) Tryd.isAgg64 (Mem.own1 1 (by rfl) (by rfl))) ?_
              refine WS_det hF (by rfl) (y_move (c := .int .i64 _) (by rfl)) ?_
              rw [hz1]
              refine WS_det hF (by rfl) (y_index (k := j) (by rfl) (by rfl) (by first | rfl | omega) (by first | decide | omega) Tryd.runUnderlying64 Tryd.sizeOf77) ?_
              refine WS_det hF (by rfl) (y_fieldAddr (by rfl) fa77_0) ?_
              refine WS_store hF (us := [.int .i64 _]) (i := 0) (by rfl) (by rfl) Tryd.sizeOf3 (by rfl) (by rfl) (by rfl) (by simp only [List.length_singleton]; omega) ?_
              refine WS_nil ?_
              refine InB_normal ?_
              refine Then_normal ?_
              refine W_push (M := (bW, _) :: (bA, _) :: (bq, _) :: (bo, _) :: (b2, _) :: (b1, _) :: (H1 ++ (H2 ++ (l45 ++ (K1 ++ (K2 ++ (l50 ++ (Sa ++ (by_, CB (splice us (0 + j * 4 + 0) [.int .i64 (-7)]) 77) :: Sb)))))))) (by repeat (first | exact Pul.base0 | exact Pul.base | apply Pul.cons | apply Pul.app)) ?_
              obtain ⟨Sn, hSe, hSn⟩ : ∃ Sn, Sn = Sa ++ (by_, CB (splice us (0 + j * 4 + 0) [.int .i64 (-7)]) 77) :: Sb ∧ Shp (Hx1 ++ (Hc1 ++ Hc2)) Sn := ⟨_, rfl, hput _ (length_splice (by simp only [List.length_singleton]; omega))⟩
              rw [← hSe]
              refine W_region_lit (fun ds => ?_)
              refine WS_det hF (by rfl) (y_add (by rfl) (by rfl) (by unfold I64; omega)) ?_
              refine WS_det hF (by rfl) (y_move (c := .int .i64 _) (by rfl)) ?_
              refine WS_nil ?_
              exact Loop_next (j + 1, Sn) ⟨by simp only; omega, hSn⟩ (by repeat (first | exact trivial | refine ⟨by rfl, ?_⟩)) sbA (by simp only; omega)
            ·
              try simp only [Bool.not_eq_true', Bool.not_eq_false', decide_eq_true_eq, decide_eq_false_iff_not, ne_eq, Classical.not_not, Int.not_lt, Int.not_le] at c15
              refine W_exit ?_
              refine Then_exit ?_
              refine Loop_exit ?_
              refine InB_same ?_
              refine Then_normal ?_
              refine W_seq ?_
              refine W_seq ?_
              refine W_region_lit (fun ds => ?_)
              refine WS_det hF (by rfl) (y_fieldAddr (by rfl) fa66_0) ?_
              refine WS_det hF (by rfl) (y_fieldAddr (by rfl) fa61_0) ?_
              refine WS_det hF (by rfl) (y_load1 (by rfl) Tryd.isAgg22 (Mem.own1 0 (by rfl) (by rfl))) ?_
              refine WS_det hF (by rfl) (y_len (by rfl) Tryd.runUnderlying22) ?_
              refine WS_det hF (by rfl) (y_move (c := .int .i64 _) (by rfl)) ?_
              refine WS_nil ?_
              refine Then_normal ?_
              refine W_block ?_
              refine W_loop (γ := Nat × List Blk) (fun q => q.1 ≤ (wtL l c p).tk.n ∧ Shp (Hx1 ++ (Hc1 ++ Hc2)) q.2) (fun q => [(122, .int .i64 (q.1 : Int)), (121, .int .i64 ((wtL l c p).tk.n : Int)), (9, .pointer (some ⟨bo, 0, none⟩)), (10, .slice la D.length lcap), (1, .slice ta D.length tcap), (11, .pointer (some ⟨bq, 0, none⟩)), (12, .slice la2 p.length lcap2), (3, .slice pa p.length pcap), (4, .pointer (some ⟨b1, 0, none⟩)), (6, .pointer (some ⟨b2, 0, none⟩)), (13, .pointer (some ⟨bA, 0, none⟩)), (17, .pointer (some ⟨bW, 0, none⟩)), (21, .bool true)]) (fun q => (bW, CB [.slice g1 (wtL l c p).tk.n gc1, .int .i64 (wtL l c p).tk.leak, .int .i64 (wtL l c p).tk.foot, .int .i64 (wtL l c p).start.lo, .int .i64 (wtL l c p).start.hi, .slice g2 (wtL l c p).es.length gc2] 66) :: (bA, CB [.slice x1 (begC l D).n y1, .slice x2 (begC l D).inn.length y2, .int .i64 (begC l D).st] 24) :: (bq, CB [.slice z1 c.n q1, .slice z2 c.inn.length q2, .int .i64 c.st] 24) :: (bo, CB [.slice a' l.tk.n cap', .int .i64 l.tk.leak, .int .i64 l.tk.foot, .int .i64 l.start.lo, .int .i64 l.start.hi, .slice ae' l.es.length cape'] 66) :: (b2, CB [.slice a1 c.n p1, .slice a2 c.inn.length p2, .int .i64 c.st] 24) :: (b1, CB [.slice a l.tk.n cap, .int .i64 l.tk.leak, .int .i64 l.tk.foot, .int .i64 l.start.lo, .int .i64 l.start.hi, .slice ae l.es.length cape] 66) :: (H1 ++ (H2 ++ (l45 ++ (K1 ++ (K2 ++ (l50 ++ q.2))))))) (fun q => (wtL l c p).tk.n - q.1) ((0, S2)) ⟨Nat.zero_le _, hS2⟩ (by repeat (first | exact trivial | refine ⟨by rfl, ?_⟩)) (sbA) ?_
              rintro ⟨m, S3⟩ e ⟨hm3, hS3⟩
              refine W_seq ?_
              refine W_region_lit (fun ds => ?_)
              refine WS_det hF (by rfl) (y_lss (by rfl) (by rfl)) ?_
              refine WS_nil ?_
              refine Then_normal ?_
              refine W_seq ?_
              refine W_cond (by rfl) (fun c20 => ?_) (fun c20 => ?_)
              ·
                try simp only [Bool.not_eq_true', Bool.not_eq_false', decide_eq_true_eq, decide_eq_false_iff_not, ne_eq, Classical.not_not, Int.not_lt, Int.not_le] at c20
                obtain ⟨by_, Sa, us, Sb, hz1, rfl, hle, hput⟩ := ho3.get (k := m) (by omega) hS3
                refine W_pull (by_, CB us 3) (by repeat (first | exact Pul.base0 | exact Pul.base | apply Pul.cons | apply Pul.app)) ?_
                refine W_skip ?_
                refine Then_normal ?_
                refine W_seq ?_
                refine W_block ?_
                refine W_seq ?_
                refine W_region_lit (fun ds => ?_)
                refine WS_det hF (by rfl) (y_move (c := .int .i64 _) (by rfl)) ?_
                refine WS_det hF (by rfl) (y_assign (c := .int .i64 _) (by rfl)) ?_
                refine WS_nil ?_
                refine Then_normal ?_
                refine W_region_lit (fun ds => ?_)
                refine WS_det hF (by rfl) (y_fieldAddr (by rfl) fa66_0) ?_
                refine WS_det hF (by rfl) (y_fieldAddr (by rfl) fa61_0) ?_
                refine WS_det hF (by rfl) (y_load1 (by rfl) Tryd.isAgg22 (Mem.own1 1 (by rfl) (by rfl))) ?_
                refine WS_det hF (by rfl) (y_move (c := .int .i64 _) (by rfl)) ?_
                rw [hz1]
                refine WS_det hF (by rfl) (y_index (k := m) (by rfl) (by rfl) (by first | rfl | omega) (by first | decide | omega) Tryd.runUnderlying22 Tryd.sizeOf3) ?_
                refine WS_store hF (us := [.int .i64 _]) (i := 0) (by rfl) (by rfl) Tryd.sizeOf3 (by rfl) (by rfl) (by rfl) (by simp only [List.length_singleton]; omega) ?_
                refine WS_nil ?_
                refine InB_normal ?_
                refine Then_normal ?_
                refine W_push (M := (bW, _) :: (bA, _) :: (bq, _) :: (bo, _) :: (b2, _) :: (b1, _) :: (H1 ++ (H2 ++ (l45 ++ (K1 ++ (K2 ++ (l50 ++ (Sa ++ (by_, CB (splice us (0 + m * 1) [.int .i64 (-7)]) 3) :: Sb)))))))) (by repeat (first | exact Pul.base0 | exact Pul.base | apply Pul.cons | apply Pul.app)) ?_
                obtain ⟨Sn, hSe, hSn⟩ : ∃ Sn, Sn = Sa ++ (by_, CB (splice us (0 + m * 1) [.int .i64 (-7)]) 3) :: Sb ∧ Shp (Hx1 ++ (Hc1 ++ Hc2)) Sn := ⟨_, rfl, hput _ (length_splice (by simp only [List.length_singleton]; omega))⟩
                rw [← hSe]
                refine W_region_lit (fun ds => ?_)
                refine WS_det hF (by rfl) (y_add (by rfl) (by rfl) (by unfold I64; omega)) ?_
                refine WS_det hF (by rfl) (y_move (c := .int .i64 _) (by rfl)) ?_
                refine WS_nil ?_
                exact Loop_next (m + 1, Sn) ⟨by simp only; omega, hSn⟩ (by repeat (first | exact trivial | refine ⟨by rfl, ?_⟩)) sbA (by simp only; omega)
              ·
                try simp only [Bool.not_eq_true', Bool.not_eq_false', decide_eq_true_eq, decide_eq_false_iff_not, ne_eq, Classical.not_not, Int.not_lt, Int.not_le] at c20
                refine W_exit ?_
                refine Then_exit ?_
                refine Loop_exit ?_
                refine InB_same ?_
                refine Then_normal ?_
                refine W_seq ?_
                refine W_keep [(1, .slice _ _ _), (3, .slice _ _ _), (4, .pointer _), (6, .pointer _), (9, .pointer _), (10, .slice _ _ _), (11, .pointer _), (12, .slice _ _ _), (21, .bool _)] (by repeat (first | exact trivial | refine ⟨by rfl, ?_⟩)) (fun e => ?_)
                refine W_region_lit (fun ds => ?_)
                refine WS_det hF (by rfl) (y_move (c := .bool _) (by rfl)) ?_
                refine WS_det hF (by rfl) (y_move (c := .bool _) (by rfl)) ?_
                refine WS_det hF (by rfl) (y_loadN (by rfl) Tryd.isAgg66 Tryd.sizeOf66 (Mem.own (us := [.slice _ _ _, .int .i64 _, .int .i64 _, .int .i64 _, .int .i64 _, .slice _ _ _]) 3 (by rfl) (by rfl)) (by rfl)) ?_
                refine WS_det hF (by rfl) (y_loadN (by rfl) Tryd.isAgg66 Tryd.sizeOf66 (Mem.own (us := [.slice _ _ _, .int .i64 _, .int .i64 _, .int .i64 _, .int .i64 _, .slice _ _ _]) 5 (by rfl) (by rfl)) (by rfl)) ?_
                refine WS_det hF (by rfl) (y_callL (by rfl) (by rfl) Tryd.call36 (fun w hw => same_any l a cap ae cape a' cap' ae' cape' w hge hgn (hx.st w hw) (he.st w hw) (NewRow.ints hr1 rfl sbA w hw) (NewRow.rws en_len hr2 rfl sbA w hw))) ?_
                refine WS_det hF (by rfl) (by first | exact y_pick_t (c := .bool _) (by rfl) (by rfl) | exact y_pick_f (c := .bool _) (by rfl) (by rfl)) ?_
                refine WS_det hF (by rfl) (y_move (c := .bool _) (by rfl)) ?_
                refine WS_det hF (by rfl) (y_move (c := .slice _ _ _) (by rfl)) ?_
                refine WS_det hF (by rfl) (y_move (c := .slice _ _ _) (by rfl)) ?_
                refine WS_det hF (by rfl) (y_callL (by rfl) (by rfl) Tryd.call29 (fun w hw => Ct_eq (sameInts2_any la ta D.length D.length lcap tcap D D w htn (NewRow.ints hrl2 rfl sbA w hw) (hD.st w hw)) (show Value.bool (decide (D = D)) = .bool true by simp))) ?_
                refine WS_det hF (by rfl) (by first | exact y_pick_t (c := .bool _) (by rfl) (by rfl) | exact y_pick_f (c := .bool _) (by rfl) (by rfl)) ?_
                refine WS_det hF (by rfl) (y_move (c := .bool _) (by rfl)) ?_
                refine WS_det hF (by rfl) (y_loadN (by rfl) Tryd.isAgg24 Tryd.sizeOf24 (Mem.own (us := [.slice _ _ _, .slice _ _ _, .int .i64 _]) 2 (by rfl) (by rfl)) (by rfl)) ?_
                refine WS_det hF (by rfl) (y_loadN (by rfl) Tryd.isAgg24 Tryd.sizeOf24 (Mem.own (us := [.slice _ _ _, .slice _ _ _, .int .i64 _]) 4 (by rfl) (by rfl)) (by rfl)) ?_
                refine WS_det hF (by rfl) (y_callL (by rfl) (by rfl) Tryd.call15 (fun w hw => Ct_eq (rcsame_any c z1 q1 z2 q2 c a1 p1 a2 p2 w hn hm (NewRow.ints hk1 rfl sbA w hw) (NewRow.ints hk2 rfl sbA w hw) (h1.st w hw) (h2.st w hw)) (c' := .bool true) (by simp))) ?_
                refine WS_det hF (by rfl) (by first | exact y_pick_t (c := .bool _) (by rfl) (by rfl) | exact y_pick_f (c := .bool _) (by rfl) (by rfl)) ?_
                refine WS_det hF (by rfl) (y_move (c := .bool _) (by rfl)) ?_
                refine WS_det hF (by rfl) (y_move (c := .slice _ _ _) (by rfl)) ?_
                refine WS_det hF (by rfl) (y_move (c := .slice _ _ _) (by rfl)) ?_
                refine WS_det hF (by rfl) (y_callL (by rfl) (by rfl) Tryd.call18 (fun w hw => samePo_any p la2 lcap2 pa pcap w hpl (NewRow.rws po_len hrp2 rfl sbA w hw) (hp.st w hw))) ?_
                refine WS_det hF (by rfl) (by first | exact y_pick_t (c := .bool _) (by rfl) (by rfl) | exact y_pick_f (c := .bool _) (by rfl) (by rfl)) ?_
                refine WS_det hF (by rfl) (y_assign (c := .bool _) (by rfl)) ?_
                refine WS_nil ?_
                refine Then_normal ?_
                refine W_ret ?_
                refine Fin_ret [.bool _] [] Tryd.results6 ⟨by rfl, trivial⟩ HSub.nil ?_
                rfl
end Go.Proofs.YtjekjehgmljbgaaDoor.T

namespace Go.Proofs.YtjekjehgmljbgaaDoor
open Go.RowKit Go.Proofs Go.Eng Go.ChangeShapes Go.WideShapes Go.ChangeAt Go.Joins T
set_option maxRecDepth 100000
set_option maxHeartbeats 1000000
set_option linter.unusedVariables false

theorem walkCanLogs (v0 v1 v2 v3 : Value) (W : World) (hG : Gv W) (h0 : ∃ (l0 : Lg) (a0 : Option Addr) (cap0 : Nat) (ae0 : Option Addr) (cape0 : Nat), v0 = .agg #[.slice a0 l0.tk.n cap0, .int .i64 l0.tk.leak, .int .i64 l0.tk.foot, .int .i64 l0.start.lo, .int .i64 l0.start.hi, .slice ae0 l0.es.length cape0] ∧ Ints W a0 l0.tk.n cap0 l0.tk.pints ∧ Ens W ae0 l0.es.length cape0 l0.es) (h1 : ∃ (ta1 : Option Addr) (tn1 tcap1 : Nat) (D1 : List Int), v1 = .slice ta1 tn1 tcap1 ∧ Ints W ta1 tn1 tcap1 D1) (h2 : ∃ (c2 : Cn) (a2 : Option Addr) (p2 : Nat) (b2 : Option Addr) (q2 : Nat), v2 = .agg #[.slice a2 c2.n p2, .slice b2 c2.inn.length q2, .int .i64 c2.st] ∧ Ints W a2 c2.n p2 c2.sz ∧ Ints W b2 c2.inn.length q2 c2.inn) (h3 : ∃ (ta3 : Option Addr) (tn3 tcap3 : Nat) (D3 : List Po), v3 = .slice ta3 tn3 tcap3 ∧ Pos W ta3 tn3 tcap3 D3) :
    Calls Tryd.prog 6 #[v0, v1, v2, v3] W fun e W' => e = .returned (.bool true) ∧ Below W.heap.size W W' := by
  obtain ⟨l0, a0, cap0, ae0, cape0, rfl, hx0, he0⟩ := h0
  obtain ⟨ta1, tn1, tcap1, D1, rfl, hD1⟩ := h1
  obtain ⟨c2, a2, p2, b2, q2, rfl, hx2, hy2⟩ := h2
  obtain ⟨ta3, tn3, tcap3, D3, rfl, hD3⟩ := h3
  refine Calls.mono (canLogs_any l0 a0 cap0 ae0 cape0 ta1 tn1 tcap1 D1 c2 a2 p2 b2 q2 D3 ta3 tn3 tcap3 W hG hx0 he0 hD1 hx2 hy2 hD3) ?_
  rintro e W' ⟨v, rfl, Hn, hb, _, rfl⟩
  exact ⟨rfl, hb⟩

theorem liftCanLogs (os : Os) (started : os.Started) (H : Type) (enc : TypeId × Value → H) :
    ReturnsInHanded {} Tryd.checked os 6 .any (fun w args => (Rows.canLogsSpec.pre enc Tryd.prog Tryd.f6 [] false w args ∧ laidMetH Tryd.prog laidC w) ∧ sizedMet enc Tryd.prog Tryd.f6 (OpenSpec.ofChange Rows.canLogsSpec) false w args) (Rows.canLogsSpec.post enc Tryd.prog Tryd.f6 false true false false) := by
  refine returnsInHanded_of_change_and (C := Tryd.checked) (X := fun w _ => laidMetH Tryd.prog laidC w) (fun _ _ _ hh h => h.of_heap hh) own started (by kernel_rfl) Tryd.func6
    (ChangeSpec.witness_shaped (enc := enc) (C := Tryd.checked) (os := os) (X := fun w _ => laidMetH Tryd.prog laidC w) false (World.doorLaid Tryd.prog 400 os) #[.agg #[.slice none 0 0, .int .i64 0, .int .i64 0, .int .i64 0, .int .i64 0, .slice none 0 0], .slice none 0 0, .agg #[.slice none 0 0, .slice none 0 0, .int .i64 0], .slice none 0 0] 8 rfl (World.shaped_of_RefB (by kernel_rfl) (by kernel_rfl)) (by kernel_rfl) (by kernel_rfl) (by kernel_rfl) (door_met os _)) ?_
  intro W base args ds gs before hval0 hW _ _ hL _
  have hval : ∀ (j : Nat) t v, Tryd.f6.params[j]? = some t → args[j]? = some v → Value.okWide Tryd.prog W .any base t v := hval0
  have hW' := hW
  obtain ⟨p, q, hA0, hV, rfl, hfz, hnd⟩ := hW
  have hA : DataW.TrodAll enc Tryd.prog W 0 (fun _ => true) true Tryd.f6.params.toList args.toList ds p := hA0
  rw [Tryd.params6] at hA hval
  obtain ⟨v0, vs0, d0, ds0, p0, q0, hargs, rfl, rfl, h0, r0⟩ := trodAll_cons hA
  obtain ⟨v1, vs1, d1, ds1, p1, q1, rfl, rfl, rfl, h1, r1⟩ := trodAll_cons r0
  obtain ⟨v2, vs2, d2, ds2, p2, q2, rfl, rfl, rfl, h2, r2⟩ := trodAll_cons r1
  obtain ⟨v3, vs3, d3, ds3, p3, q3, rfl, rfl, rfl, h3, r3⟩ := trodAll_cons r2
  obtain ⟨rfl, rfl, rfl⟩ := trodAll_nil r3
  obtain rfl : args = #[v0, v1, v2, v3] := by cases args; simp_all
  obtain ⟨rfl, rfl⟩ := trodVars_none hV
  have lt0 : ∀ x ∈ p0, x.block < W.heap.size := by obtain ⟨m, hm⟩ := h0; exact DataW.trod_lt m _ _ _ hm
  have lt1 : ∀ x ∈ p1, x.block < W.heap.size := by obtain ⟨m, hm⟩ := h1; exact DataW.trod_lt m _ _ _ hm
  have lt2 : ∀ x ∈ p2, x.block < W.heap.size := by obtain ⟨m, hm⟩ := h2; exact DataW.trod_lt m _ _ _ hm
  have lt3 : ∀ x ∈ p3, x.block < W.heap.size := by obtain ⟨m, hm⟩ := h3; exact DataW.trod_lt m _ _ _ hm
  have o0 : ∃ (l0 : Lg) (a0 : Option Addr) (cap0 : Nat) (ae0 : Option Addr) (cape0 : Nat), v0 = .agg #[.slice a0 l0.tk.n cap0, .int .i64 l0.tk.leak, .int .i64 l0.tk.foot, .int .i64 l0.start.lo, .int .i64 l0.start.hi, .slice ae0 l0.es.length cape0] ∧ Ints W a0 l0.tk.n cap0 l0.tk.pints ∧ Ens W ae0 l0.es.length cape0 l0.es := open_log (hval 0 _ v0 rfl rfl) h0 (fun _ => rfl)
  have o1 : ∃ (ta1 : Option Addr) (tn1 tcap1 : Nat) (D1 : List Int), v1 = .slice ta1 tn1 tcap1 ∧ Ints W ta1 tn1 tcap1 D1 := open_intsV (hval 1 _ v1 rfl rfl) h1 (fun _ => rfl)
  have o2 : ∃ (c2 : Cn) (a2 : Option Addr) (p2 : Nat) (b2 : Option Addr) (q2 : Nat), v2 = .agg #[.slice a2 c2.n p2, .slice b2 c2.inn.length q2, .int .i64 c2.st] ∧ Ints W a2 c2.n p2 c2.sz ∧ Ints W b2 c2.inn.length q2 c2.inn := open_cans (hval 2 _ v2 rfl rfl) h2 (fun _ => rfl)
  have o3 : ∃ (ta3 : Option Addr) (tn3 tcap3 : Nat) (D3 : List Po), v3 = .slice ta3 tn3 tcap3 ∧ Pos W ta3 tn3 tcap3 D3 := open_pours (hval 3 _ v3 rfl rfl) h3
  clear hA0 hval0
  refine (walkCanLogs v0 v1 v2 v3 W (of_laid hL) o0 o1 o2 o3).mono fun e W' ⟨he, bel⟩ => ?_
  subst he
  exact ⟨_, rfl, _, _, _, [], _, [], hW', trodAll_mk1 (shut_bool Tryd.underlying4 _),
    (trodAll_cons_mk (Below.trod laidOut (by kernel_rfl) (of_decide_eq_true (by kernel_rfl)) h0 bel lt0) (trodAll_cons_mk (Below.trod laidOut (by kernel_rfl) (of_decide_eq_true (by kernel_rfl)) h1 bel lt1) (trodAll_cons_mk (Below.trod laidOut (by kernel_rfl) (of_decide_eq_true (by kernel_rfl)) h2 bel lt2) (trodAll_cons_mk (Below.trod laidOut (by kernel_rfl) (of_decide_eq_true (by kernel_rfl)) h3 bel lt3) trodAll_mk0)))), rfl, bel.frame _, fun h => by cases h⟩

theorem canLogsH : Rows.CanLogsSaid :=
  OpenClaim.holds_of_wide 6 Tryd.f6 rfl rfl rfl rfl rfl rfl rfl ⟨rfl, rfl, rfl, rfl, rfl⟩ rfl rfl rfl rfl rfl (by kernel_rfl) Tryd.func6 (by kernel_rfl)
    (of_decide_eq_true (by kernel_rfl)) (by unfold Func.isWrapper; first | (rw [if_pos (by decide +kernel)]; kernel_rfl) | (rw [if_neg (by decide +kernel)]; exact ⟨rfl, rfl⟩))
    (fun os started H enc _ => liftCanLogs os started H enc)
theorem canLogs : Rows.CanLogsCardSaid :=
  Claim7.holds_tied_plain_at .later [] [.funcs] true (true, "4f976da4b806c04e14c28f8bda1ba53d549989da811836dbb6df42d861d3a136") false
    canLogsH (fun _ h => by cases h) (by kernel_rfl) (fun _ h => by cases h) canLogs_row_tie rfl ⟨rfl, rfl⟩ (by kernel_rfl) rfl
    (fun f fn hf hfn => by
      obtain rfl : f = 6 := Option.some.inj ((show Tryd.prog.funcNamed "oilcake/oilcakelaw08.CanLogs" = some 6 by kernel_rfl).symm.trans hf) |>.symm
      obtain rfl : fn = Tryd.f6 := (Option.some.inj (Tryd.func6.symm.trans hfn)).symm
      exact ⟨by kernel_rfl, fun j t ht => by
        rw [Tryd.params6] at ht
        have hm : t ∈ [66, 22, 24, 27] := by simpa using Array.mem_of_getElem? ht
        have hall : ([66, 22, 24, 27].all fun u => !Tryd.prog.wantsStandIn u) = true := by kernel_rfl
        exact (show Tryd.prog.wantsStandIn t = false by simpa using List.all_eq_true.1 hall t hm)⟩)
    (by kernel_rfl)
end Go.Proofs.YtjekjehgmljbgaaDoor
