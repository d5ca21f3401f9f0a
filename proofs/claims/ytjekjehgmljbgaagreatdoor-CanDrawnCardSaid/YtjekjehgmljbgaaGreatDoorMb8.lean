/- Proved: for every input, with no condition, the law CanDrawn returns true and the input reads as it did (Rows.CanDrawnSaid). -/
import Derived.Test.YtjekjehgmljbgaaGreatDoorMb4
import Derived.Test.YtjekjehgmljbgaaGreatDoorMb5
import Derived.Test.YtjekjehgmljbgaaGreatDoorMb7
import Derived.Test.YtjekjehgmljbgaaGreatDoorMb2
import Derived.Test.YtjekjehgmljbgaaGreatDoorRows
import Derived.WalkKit
import Derived.ProofKit
import Derived.OpenShut
import Derived.Lib.SmallJoins
import Derived.ChangeOld
import Derived.Below
import Derived.Test.YtjekjehgmljbgaaGreatDoorTie
import Derived.Test.YtjekjehgmljbgaaGreatDoorCards
import Derived.LaidMore
import Derived.Stop.Joined
import Derived.SevenTiedAt
set_option linter.unusedVariables false
set_option linter.unusedSimpArgs false
namespace Go.Proofs.YtjekjehgmljbgaaGreatDoor.T
open Go.RowKit Go.Proofs Go.Eng
set_option maxRecDepth 100000
set_option maxHeartbeats 1000000
theorem bd57_0_1_2 {x0a : Option Addr} {x0l x0c : Nat} {x1 : Int} {x2 : Int} : ∀ w, (Instr.build 57 #[(0, .slice x0a x0l x0c), (1, .int .i64 x1), (2, .int .i64 x2)]).run Tryz.prog w = .ok (.agg #[.slice x0a x0l x0c, .int .i64 x1, .int .i64 x2]) w := fun w => by kernel_rfl
theorem bd62_0_1_2 {x0_0a : Option Addr} {x0_0l x0_0c : Nat} {x0_1 : Int} {x0_2 : Int} {x1_0 : Int} {x1_1 : Int} {x2a : Option Addr} {x2l x2c : Nat} : ∀ w, (Instr.build 62 #[(0, .agg #[.slice x0_0a x0_0l x0_0c, .int .i64 x0_1, .int .i64 x0_2]), (1, .agg #[.int .i64 x1_0, .int .i64 x1_1]), (2, .slice x2a x2l x2c)]).run Tryz.prog w = .ok (.agg #[.slice x0_0a x0_0l x0_0c, .int .i64 x0_1, .int .i64 x0_2, .int .i64 x1_0, .int .i64 x1_1, .slice x2a x2l x2c]) w := fun w => by kernel_rfl
theorem bs22_5_0_1_2_3_4 {x0 : Int} {x1 : Int} {x2 : Int} {x3 : Int} {x4 : Int} : ∀ w, (Instr.buildSlice 22 5 #[(0, .int .i64 x0), (1, .int .i64 x1), (2, .int .i64 x2), (3, .int .i64 x3), (4, .int .i64 x4)]).run Tryz.prog w = .ok (.slice (some ⟨w.heap.size, 0, none⟩) 5 5) (w.alloc (CB [.int .i64 x0, .int .i64 x1, .int .i64 x2, .int .i64 x3, .int .i64 x4] 3)) := fun w => by kernel_rfl
theorem bs60_4_0_1_2_3 {x0_0 : Int} {x0_1 : Int} {x0_2 : Int} {x0_3 : Int} {x1_0 : Int} {x1_1 : Int} {x1_2 : Int} {x1_3 : Int} {x2_0 : Int} {x2_1 : Int} {x2_2 : Int} {x2_3 : Int} {x3_0 : Int} {x3_1 : Int} {x3_2 : Int} {x3_3 : Int} : ∀ w, (Instr.buildSlice 60 4 #[(0, .agg #[.int .i64 x0_0, .int .i64 x0_1, .int .i64 x0_2, .int .i64 x0_3]), (1, .agg #[.int .i64 x1_0, .int .i64 x1_1, .int .i64 x1_2, .int .i64 x1_3]), (2, .agg #[.int .i64 x2_0, .int .i64 x2_1, .int .i64 x2_2, .int .i64 x2_3]), (3, .agg #[.int .i64 x3_0, .int .i64 x3_1, .int .i64 x3_2, .int .i64 x3_3])]).run Tryz.prog w = .ok (.slice (some ⟨w.heap.size, 0, none⟩) 4 4) (w.alloc (CB [.int .i64 x0_0, .int .i64 x0_1, .int .i64 x0_2, .int .i64 x0_3, .int .i64 x1_0, .int .i64 x1_1, .int .i64 x1_2, .int .i64 x1_3, .int .i64 x2_0, .int .i64 x2_1, .int .i64 x2_2, .int .i64 x2_3, .int .i64 x3_0, .int .i64 x3_1, .int .i64 x3_2, .int .i64 x3_3] 90)) := fun w => by kernel_rfl
theorem l8span_any (x y : Int) (w : World) : Ct Tryz.prog 35 #[.int .i64 x, .int .i64 y] w fun v _ => v = .agg #[.int .i64 x, .int .i64 y] := by
 have hF := wide_wide
 refine Ct_start (args := [_, _]) Tryz.func35 rf Tryz.ntmps35 rf ?_
 refine zR fun ds => ?_
 refine WS_new hF rf (y_alloc Tryz.zeroValue59 rf) (fun b1 => ?_)
 refine zP fun ds => ?_
 refine zm (.int .i64 _) hF ?_
 refine zm (.int .i64 _) hF ?_
 refine zD hF (y_buildL bd59_0_1 rf) ?_
 refine WS_store hF (i := 0) rf rf Tryz.sizeOf59 rf rf rf d20 ?_
 refine zN ?_
 refine W_ret ?_
 refine Fin_ret [_] [] Tryz.results35 ⟨lvN rf Tryz.isAgg59 Tryz.sizeOf59 (Mem.own (us := [.int .i64 _, .int .i64 _]) 0 rf rf) rf, trivial⟩ HSub.nil ?_
 rfl
theorem l8log_any (w : World) : Ct Tryz.prog 46 #[] w (TwinL logL) := by
 have hF := wide_wide
 refine Ct_start (args := []) Tryz.func46 rf Tryz.ntmps46 rf ?_
 refine zR fun ds => ?_
 refine WS_new hF rf (y_alloc Tryz.zeroValue62 rf) (fun b1 => ?_)
 refine zP fun ds => ?_
 refine WS_newS hF rf (y_buildSliceL bs22_5_0_1_2_3_4 rf) (fun b2 => ?_)
 refine zD hF (y_buildL bd57_0_1_2 rf) ?_
 refine zD hF (y_callL rf rf Tryz.call35 (fun w hw => l8span_any _ _ w)) ?_
 refine zD hF (y_callL rf rf Tryz.call35 (fun w hw => l8span_any _ _ w)) ?_
 refine zD hF (y_buildL bd90_0_1_2 rf) ?_
 refine zD hF (y_callL rf rf Tryz.call35 (fun w hw => l8span_any _ _ w)) ?_
 refine zD hF (y_buildL bd90_0_1_2 rf) ?_
 refine zD hF (y_callL rf rf Tryz.call35 (fun w hw => l8span_any _ _ w)) ?_
 refine zD hF (y_buildL bd90_0_1_2 rf) ?_
 refine zD hF (y_callL rf rf Tryz.call35 (fun w hw => l8span_any _ _ w)) ?_
 refine zD hF (y_buildL bd90_0_1_2 rf) ?_
 refine WS_newS hF rf (y_buildSliceL bs60_4_0_1_2_3 rf) (fun b3 => ?_)
 refine zD hF (y_buildL bd62_0_1_2 rf) ?_
 refine WS_store hF (i := 2) rf rf Tryz.sizeOf62 rf rf rf d20 ?_
 refine zN ?_
 refine W_ret ?_
 refine Fin_ret [_] [(b2, CB (iv logL.tk.pints) 3), (b3, CB (rowOf En.cells logL.e logL.es.length) 90)] Tryz.results46 ⟨lvN rf Tryz.isAgg62 Tryz.sizeOf62 (Mem.own (us := [.slice _ _ _, .int .i64 _, .int .i64 _, .int .i64 _, .int .i64 _, .slice _ _ _]) 2 rf rf) rf, trivial⟩ (HSub.perm (Hn := [(b3, _), (b2, _)]) (HSub.sub sbA) (List.Perm.swap _ _ _)) ?_
 exact ⟨_, _, _, _, [(b2, _)], [(b3, _)], rfl, ⟨_, _, rfl, Nat.le_refl _, .inl ⟨by decide, b2, [], rfl, by rw [List.append_nil], by rfl⟩⟩, ⟨_, _, rfl, Nat.le_refl _, .inl ⟨by decide, b3, [], by rfl, by rw [List.append_nil], by rfl⟩⟩, rfl⟩
theorem l8bench_any (s : Int) (xs : List Int) (a : Option Addr) (cap : Nat) (w : World) (hn : xs.length ≤ 1000000) : Ct Tryz.prog 43 #[.int .i64 s, .slice a xs.length cap] w fun v Hn => ∃ z q, v = .agg #[.slice a xs.length cap, .slice z xs.length q, .int .i64 s] ∧ NewRow 3 1 xs.length (iv (List.replicate xs.length 0)) (.slice z xs.length q) Hn := by
 have hF := wide_wide
 refine Ct_start (args := [_, _]) Tryz.func43 rf Tryz.ntmps43 rf ?_
 refine zR fun ds => ?_
 refine WS_new hF rf (y_alloc Tryz.zeroValue24 rf) (fun b1 => ?_)
 refine zP fun ds => ?_
 refine zm (.slice _ _ _) hF ?_
 refine zm (.slice _ _ _) hF ?_
 refine zD hF (y_len rf Tryz.runUnderlying22) ?_
 refine WS_gen hF rf (y_makeRow (n := xs.length) rf rf rf rf Tryz.underlying22 infInt rf rf om0 om0 (zeros_iv xs Lg.zero)) ?_
 rintro _ Hn hr0
 obtain ⟨z, q, rfl, hr⟩ := NewRow.sl hr0
 refine WS_back ?_
 refine zm (.int .i64 _) hF ?_
 refine zD hF (y_buildL bd24_0_1_2 rf) ?_
 refine WS_store hF (i := 0) rf rf Tryz.sizeOf24 rf rf rf d20 ?_
 refine zN ?_
 refine W_ret ?_
 refine Fin_ret [_] Hn Tryz.results43 ⟨lvN rf Tryz.isAgg24 Tryz.sizeOf24 (Mem.own (us := [.slice _ _ _, .slice _ _ _, .int .i64 _]) 0 rf rf) rf, trivial⟩ (HSub.sub sbA) ?_
 exact ⟨z, q, rfl, hr⟩
def flatP (ps : List Po) : List Int := ps.flatMap fun p => [p.f, p.t]
theorem flatP_get : ∀ {ps : List Po} {k : Nat}, k < ps.length → (flatP ps).getD (2 * k) 0 = (ps.getD k Po.z).f ∧ (flatP ps).getD (2 * k + 1) 0 = (ps.getD k Po.z).t
 | [], k, h => absurd h (Nat.not_lt_zero _)
 | p :: ps, 0, _ => ⟨rfl, rfl⟩
 | p :: ps, k + 1, h => by
  have ih := flatP_get (ps := ps) (k := k) (by simpa using h)
  rw [show 2 * (k + 1) = 2 * k + 1 + 1 by omega]
  exact ih
def pRow (ps : List Po) : List Value := rowOf Po.cells (fun k => ps.getD k Po.z) ps.length
theorem pRow_snoc (ps : List Po) (y : Po) : pRow (ps ++ [y]) = pRow ps ++ y.cells := by
 unfold pRow
 rw [List.length_append, List.length_singleton, rowOf_succ]
 congr 1
 ·exact rowOf_congr _ fun k hk => by simp [List.getD_eq_getElem?_getD, List.getElem?_append_left hk]
 ·simp [List.getD_eq_getElem?_getD]
theorem l8pours_any (ps : List Po) (a : Option Addr) (cap : Nat) (w : World) (hl : ps.length ≤ 1000) (hx : Ints w a (2 * ps.length) cap (flatP ps)) : Ct Tryz.prog 44 #[.slice a (2 * ps.length) cap] w fun v Hn => ∃ b k, v = .slice b ps.length k ∧ NewRow 47 2 ps.length (pRow ps) (.slice b ps.length k) Hn := by
 have hF := wide_wide
 refine Ct_start (args := [_]) Tryz.func44 rf Tryz.ntmps44 rf ?_
 refine zR fun ds => ?_
 refine za (.slice _ _ _) hF ?_
 refine zP fun ds => ?_
 refine za (.slice _ _ _) hF ?_
 refine zO ?_
 refine zR fun ds => ?_
 refine za (.int .i64 _) hF ?_
 refine zN ?_
 refine W_block ?_
 refine W_loop (γ := Nat × Option Addr × Nat × List Blk) (fun q => q.1 ≤ ps.length ∧ NewRow 47 2 q.1 (rowOf Po.cells (fun k => ps.getD k Po.z) q.1) (.slice q.2.1 q.1 q.2.2.1) q.2.2.2) (fun q => [(0, .slice a (2 * ps.length) cap), (3, .slice q.2.1 q.1 q.2.2.1), (4, .int .i64 ((2 * q.1 : Nat) : Int))]) (fun q => q.2.2.2) (fun q => ps.length - q.1) ((0, none, 0, [])) ⟨Nat.zero_le _, none, 0, rfl, Nat.le_refl _, .inr ⟨rfl, rfl, rfl⟩⟩ s10 (List.Sublist.refl _) ?_
 rintro ⟨k, ra, rc, Hr⟩ e ⟨(hk : k ≤ ps.length), (hrow : NewRow 47 2 k (rowOf Po.cells (fun k => ps.getD k Po.z) k) (.slice ra k rc) Hr)⟩
 refine W_seq ?_
 refine zR fun ds => ?_
 refine zm (.int .i64 _) hF ?_
 refine zD hF (y_add rf rf ui) ?_
 refine zm (.slice _ _ _) hF ?_
 refine zD hF (y_len rf Tryz.runUnderlying22) ?_
 refine zD hF (y_lss rf rf) ?_
 refine zN ?_
 refine W_cond rf (fun c3 => ?_) (fun c3 => ?_)
 ·
  try simp only [qz1, qz2, qz3, qz4, qz5, qz6, qz7, qz8] at c3
  have hk2 : k < ps.length := by omega
  obtain ⟨b, o, rfl, hc⟩ := hx.cell (2 * k) om0
  have hc2 := hx.at (k := 2 * k + 1) om0
  rw [(flatP_get hk2).1] at hc
  rw [(flatP_get hk2).2] at hc2
  refine zU ?_
  refine W_seq ?_
  refine W_block ?_
  apply W_drawMT 12 hF Tryzmixed [] [] [] rf dk0 dc HSub.refl
  intro ds
  refine P_det rf (Over_nil (y_move (c := .slice _ _ _) rf)) ?_
  refine P_det rf (Over_nil (y_move (c := .slice _ _ _) rf)) ?_
  refine P_det rf (Over_nil (y_move (c := .int .i64 _) rf)) ?_
  refine P_det rf (Over_nil (y_index (k := 2 * k) rf rf r10 d10 Tryz.runUnderlying22 Tryz.sizeOf3)) ?_
  refine P_det rf (Over_nil (y_load1 rf Tryz.isAgg3 zo)) ?_
  refine P_det rf (Over_nil (y_move (c := .slice _ _ _) rf)) ?_
  refine P_det rf (Over_nil (y_move (c := .int .i64 _) rf)) ?_
  refine P_det rf (Over_nil (y_add rf rf ui)) ?_
  refine P_det rf (Over_nil (y_index (k := 2 * k + 1) rf rf r10 d10 Tryz.runUnderlying22 Tryz.sizeOf3)) ?_
  refine P_det rf (Over_nil (y_load1 rf Tryz.isAgg3 zo)) ?_
  refine P_det rf (Over_nil (y_buildL bd47_0_1 rf)) ?_
  refine P_new rf rf (Over_nil (y_buildSliceL bs35_1_0 rf)) ?_
  refine PW_end rf ?_
  refine OverAll_cons (fun w23 l23 => ?_)
  refine OverAll_nil ?_
  rintro ⟨-, h23⟩
  obtain ⟨bx, rfl, rfl⟩ := h23
  refine WS_appendN hF (H1 := (_ :: [])) (Hn := Hr) (news := (ps.getD k Po.z).cells) rf rf rf Tryz.underlying35 infPo rf rf hrow (rowOf_len po_len _ _) (.inr ⟨_, _, rfl, Mem.own (us := (ps.getD k Po.z).cells) 0 rf rf⟩) rf rf om0 om0 om0 ?_
  intro a3 c3 H3 hr3
  have hrow3 : NewRow 47 2 (k + 1) (rowOf Po.cells (fun k => ps.getD k Po.z) (k + 1)) (.slice a3 (k + 1) c3) H3 := by
   rw [rowOf_succ]
   exact hr3
  refine za (.slice _ _ _) hF ?_
  refine WS_nil ?_
  refine InB_normal ?_
  refine zT fun ds => ?_
  refine zm (.int .i64 _) hF ?_
  refine zD hF (y_add rf rf ui) ?_
  refine za (.int .i64 _) hF ?_
  refine WS_nil ?_
  exact Loop_next (k + 1, a3, c3, H3) ⟨by simp only; omega, hrow3⟩ s30 sbA (by simp only; omega)
 ·
  try simp only [qz1, qz2, qz3, qz4, qz5, qz6, qz7, qz8] at c3
  refine W_exit ?_
  refine Then_exit ?_
  refine Loop_exit ?_
  refine InB_same ?_
  refine zS fun ds => ?_
  refine zm (.slice _ _ _) hF ?_
  refine za (.slice _ _ _) hF ?_
  refine zN ?_
  refine W_ret ?_
  refine Fin_ret [.slice _ _ _] Hr Tryz.results44 ⟨by rfl, trivial⟩ (HSub.sub sbA) ?_
  obtain rfl : k = ps.length := by omega
  exact ⟨ra, rc, rfl, hrow⟩
theorem getD_app_lt {α : Type} {l m : List α} {d : α} {k : Nat} (h : k < l.length) : (l ++ m).getD k d = l.getD k d := by
 simp [List.getD_eq_getElem?_getD, List.getElem?_append_left h]
theorem getD_app_eq {α : Type} {l : List α} {x d : α} : (l ++ [x]).getD l.length d = x := by simp [List.getD_eq_getElem?_getD]
theorem Cn.runK_app (c : Cn) (l m : List Po) : ∀ k, k ≤ l.length → c.runK (l ++ m) k = c.runK l k
 | 0, _ => rfl
 | k + 1, h => by
  unfold Cn.runK
  rw [Cn.runK_app c l m k om0, getD_app_lt om0]
theorem Cn.runK_snoc (c : Cn) (l : List Po) (p : Po) : c.runK (l ++ [p]) (l.length + 1) = c.stp (c.runK l l.length) p := by
 show c.stp (c.runK (l ++ [p]) l.length) ((l ++ [p]).getD l.length Po.z) = _
 rw [c.runK_app l [p] _ (Nat.le_refl _), getD_app_eq]
theorem Cn.RunOk.snoc {c : Cn} {l : List Po} {p : Po} (h : c.RunOk l l.length) (hp : c.pE (c.runK l l.length) p = 0) : c.RunOk (l ++ [p]) (l ++ [p]).length := fun j hj => by
 rw [List.length_append, List.length_singleton] at hj
 by_cases hjl : j = l.length
 ·subst hjl
  rw [c.runK_app l [p] _ (Nat.le_refl _), getD_app_eq]; exact hp
 ·rw [c.runK_app l [p] j om0, getD_app_lt om0]; exact h j om0
def Cn.b0 (c : Cn) (a1 : Option Addr) (p1 : Nat) (a2 : Option Addr) (p2 : Nat) : Bl := ⟨c.co, a1, p1, a2, p2⟩
structure WkS (c : Cn) (B0 : Bl) (ps : List Po) (bs : List Bl) (aA : Option Addr) (kA : Nat) (HA : List Blk) (aL : Option Addr) (kL : Nat) (HL HX : List Blk) : Prop where
 len : bs.length = ps.length
 run : c.RunOk ps ps.length
 x : ∀ k, k < bs.length → (bs.getD k Bl.z).x = c.runK ps (k + 1)
 rowA : NewRow 24 3 (B0 :: bs).length (blRow c (B0 :: bs)) (.slice aA (B0 :: bs).length kA) HA
 rowL : NewRow 47 2 ps.length (pRow ps) (.slice aL ps.length kL) HL
 rd : ∀ b ∈ bs, b.RdH c HX
theorem WkS.at {c : Cn} {B0 : Bl} {ps : List Po} {bs : List Bl} {aA : Option Addr} {kA : Nat} {HA : List Blk} {aL : Option Addr} {kL : Nat} {HL HX : List Blk} (h : WkS c B0 ps bs aA kA HA aL kL HL HX) (h0 : B0.x = c.co) {k : Nat} (hk : k ≤ bs.length) : ((B0 :: bs).getD k Bl.z).x = c.runK ps k := by
 cases k with
 | zero => exact h0
 | succ k => exact h.x k hk
theorem WkS.push {c : Cn} {B0 : Bl} {ps : List Po} {bs : List Bl} {aA : Option Addr} {kA : Nat} {HA : List Blk} {aL : Option Addr} {kL : Nat} {HL HX : List Blk} (h : WkS c B0 ps bs aA kA HA aL kL HL HX) {p : Po} {b : Bl} {aA' : Option Addr} {kA' : Nat} {HA' : List Blk} {aL' : Option Addr} {kL' : Nat} {HL' HX' : List Blk} (hp : c.pE (c.runK ps ps.length) p = 0) (hb : b.x = c.stp (c.runK ps ps.length) p)
  (rA : NewRow 24 3 (B0 :: (bs ++ [b])).length (blRow c (B0 :: (bs ++ [b]))) (.slice aA' (B0 :: (bs ++ [b])).length kA') HA')
  (rL : NewRow 47 2 (ps ++ [p]).length (pRow (ps ++ [p])) (.slice aL' (ps ++ [p]).length kL') HL') (hr : b.RdH c HX') (hs : HX.Sublist HX') : WkS c B0 (ps ++ [p]) (bs ++ [b]) aA' kA' HA' aL' kL' HL' HX' :=
 ⟨by rw [List.length_append, List.length_append, h.len]; rfl, h.run.snoc hp, fun k hk => by
  rw [List.length_append, List.length_singleton] at hk
  by_cases hkl : k = bs.length
  ·subst hkl
   rw [getD_app_eq, hb, h.len, c.runK_snoc]
  ·rw [getD_app_lt om0, h.x k om0, c.runK_app _ _ _ (by have := h.len; omega)], rA, rL, fun y hy => by
  rcases List.mem_append.1 hy with hy | hy
  ·exact (h.rd y hy).mono hs
  ·rw [List.mem_singleton] at hy; subst hy; exact hr⟩
def WalkV (c : Cn) (B0 : Bl) (many : Nat) (v : Value) (Hn : List Blk) : Prop := ∃ ps bs aA kA HA aL kL HL HX, v = .tuple #[.slice aA (B0 :: bs).length kA, .slice aL ps.length kL] ∧ ps.length ≤ many ∧ WkS c B0 ps bs aA kA HA aL kL HL HX ∧ Hn = HX ++ (HA ++ HL)
theorem NewRow.adr {T : TypeId} {sz m cap : Nat} {us : List Value} {a : Option Addr} {Hn : List Blk} (h : NewRow T sz m us (.slice a m cap) Hn) (h0 : 0 < m) : ∃ b, a = some ⟨b, 0, none⟩ := by
 obtain ⟨b, _, h1, _⟩ := NewRow.head h h0
 exact ⟨b, h1⟩
theorem Bl.ints {c : Cn} {b B0 : Bl} {HX : List Blk} {C : Ctx} {H : List Blk} (h : b = B0 ∨ b.RdH c HX) (h1 : Ints C.w0 B0.s c.n B0.ks c.sz) (h2 : Ints C.w0 B0.i (c.of B0.x).inn.length B0.ki (c.of B0.x).inn) (hs : HX.Sublist H) (w : World) (hw : St C H w) : Ints w b.s c.n b.ks c.sz ∧ Ints w b.i (c.of b.x).inn.length b.ki (c.of b.x).inn := by
 rcases h with rfl | h
 ·exact ⟨h1.st w hw, h2.st w hw⟩
 ·exact ⟨h.s C H w hs hw, h.i C H w hs hw⟩
theorem Bl.RdH.two {c : Cn} {x : Co} {z1 z2 : Option Addr} {q1 q2 : Nat} {H1 H2 HX : List Blk} (h1 : NewRow 3 1 c.n (iv c.sz) (.slice z1 c.n q1) H1) (h2 : NewRow 3 1 (c.of x).inn.length (iv (c.of x).inn) (.slice z2 (c.of x).inn.length q2) H2) (hs : (H1 ++ H2).Sublist HX) : (⟨x, z1, q1, z2, q2⟩ : Bl).RdH c HX :=
 (Bl.RdH.new (HX := []) h1 h2).mono hs
def LdV (c : Cn) (B0 : Bl) (ps : List Po) (v : Value) (Hn : List Blk) : Prop := ∃ b : Bl, v = .tuple #[.agg (b.cells c).toArray, .int .i64 (c.backK ps ps.length), .bool true] ∧ b.x = c.runK ps ps.length ∧ (b = B0 ∨ b.RdH c Hn)
def frL (n k : Nat) : List Int := (List.range n).map fun j => if j < k then -1 else 0
theorem blRow_cons_snoc (c : Cn) (B0 : Bl) (bs : List Bl) (y : Bl) : blRow c (B0 :: (bs ++ [y])) = blRow c (B0 :: bs) ++ y.cells c := by
 rw [← List.cons_append]; exact blRow_snoc c (B0 :: bs) y
theorem WkS.zero {c : Cn} {B0 : Bl} {bA : Nat} {L : List Value} (h : B0.cells c = L) : WkS c B0 [] [] (some ⟨bA, 0, none⟩) 1 [(bA, CB L 24)] none 0 [] [] := by
 subst h
 refine ⟨rfl, fun j hj => absurd hj (Nat.not_lt_zero _), fun k hk => absurd hk (Nat.not_lt_zero _), ⟨_, _, rfl, Nat.le_refl _, .inl ⟨Nat.zero_lt_one, bA, [], rfl, ?_, ?_⟩⟩, ⟨none, 0, rfl, Nat.le_refl _, .inr ⟨rfl, rfl, rfl⟩⟩, fun b hb => (by cases hb)⟩
 ·unfold blRow rowOf; simp
 ·unfold blRow rowOf; simp [Bl.cells]
theorem HSub.pullL {A M' B : List Blk} (L : List Blk) (hp : A.Perm (L ++ M')) (h : HSub (L ++ M') B) : HSub A B := fun N w hw => h N w (HSub.perm HSub.refl hp.symm N w hw)
theorem HSub.pull1 {A M' B : List Blk} (x : Blk) (hp : A.Perm (x :: M')) (h : HSub (x :: M') B) : HSub A B := fun N w hw => h N w (HSub.perm HSub.refl hp.symm N w hw)
theorem lwalk_any (c : Cn) (a1 : Option Addr) (p1 : Nat) (a2 : Option Addr) (p2 : Nat) (ba : Option Addr) (bn bcap : Nat) (by_ : List Int) (many : Nat) (w : World) (hok : c.Ok) (hn : c.n ≤ 1000000) (hm : c.inn.length ≤ 1000000) (h1 : Ints w a1 c.n p1 c.sz) (h2 : Ints w a2 c.inn.length p2 c.inn) (hmy : many ≤ 100) (hby : U4s w ba bn bcap by_) : Ct Tryz.prog 17 #[.agg #[.slice a1 c.n p1, .slice a2 c.inn.length p2, .int .i64 c.st], .slice ba bn bcap, .int .i64 (many : Int)] w (WalkV c (c.b0 a1 p1 a2 p2) many) := by
 have hn1 := hok.n1
 have hn3 := hok.n3
 have hco := hok.co_of
 have hi2 : (c.of (c.b0 a1 p1 a2 p2).x).inn = c.inn := by show (c.of c.co).inn = _; rw [hco]
 have hB2 : Ints w (c.b0 a1 p1 a2 p2).i (c.of (c.b0 a1 p1 a2 p2).x).inn.length (c.b0 a1 p1 a2 p2).ki (c.of (c.b0 a1 p1 a2 p2).x).inn := by rw [hi2]; exact h2
 have hB0 : (c.b0 a1 p1 a2 p2).cells c = [.slice a1 c.n p1, .slice a2 c.inn.length p2, .int .i64 c.st] := by
  show [Value.slice a1 c.n p1, .slice a2 (c.of (c.b0 a1 p1 a2 p2).x).inn.length p2, .int .i64 c.st] = _
  rw [hi2]
 obtain ⟨B0, hBB⟩ : ∃ B0, B0 = c.b0 a1 p1 a2 p2 := ⟨_, rfl⟩
 have hBx : B0.x = c.co := by rw [hBB]; rfl
 rw [← hBB] at hB2 hB0
 have hB1 : Ints w B0.s c.n B0.ks c.sz := by rw [hBB]; exact h1
 rw [← hBB]
 obtain ⟨N, hN⟩ : ∃ N, N = c.n + 1 := ⟨_, rfl⟩
 obtain ⟨M, hM⟩ : ∃ M, M = N * N := ⟨_, rfl⟩
 have hMI : (M : Int) = (N : Int) * (N : Int) := by rw [hM]; push_cast; rfl
 have hM4 : 4 ≤ M ∧ M ≤ 16 := by
  obtain h | h | h : N = 2 ∨ N = 3 ∨ N = 4 := by omega
  all_goals subst h; omega
 have hF := wide_wide
 refine Ct_start (args := [_, _, _]) Tryz.func17 rf Tryz.ntmps17 rf ?_
 refine zR fun ds => ?_
 refine WS_new hF rf (y_box rf) (fun b1 => ?_)
 refine za (.slice _ _ _) hF ?_
 refine za (.slice _ _ _) hF ?_
 refine zP fun ds => ?_
 refine zD hF (y_loadN rf Tryz.isAgg24 Tryz.sizeOf24 (Mem.own (us := [.slice _ _ _, .slice _ _ _, .int .i64 _]) 0 rf rf) rf) ?_
 refine WS_newS hF rf (y_buildSliceL bs34_1_0 rf) (fun bA => ?_)
 refine za (.slice _ _ _) hF ?_
 refine za (.slice _ _ _) hF ?_
 refine zP fun ds => ?_
 refine zD hF (y_fieldAddr rf fa24_0) ?_
 refine zD hF (y_load1 rf Tryz.isAgg22 (Mem.own1 1 rf rf)) ?_
 refine zD hF (y_len rf Tryz.runUnderlying22) ?_
 refine zD hF (y_add rf rf ui) ?_
 refine za (.int .i64 _) hF ?_
 refine zO ?_
 refine W_seq ?_
 rw [show ((c.n : Int) + 1) = (N : Int) by rw [hN]; push_cast; rfl]
 refine W_pull (b1, CB [.slice a1 c.n p1, .slice a2 c.inn.length p2, .int .i64 c.st] 24) zu ?_
 refine W_region_lit (fun ds => ?_)
 refine zm (.int .i64 _) hF ?_
 refine zm (.int .i64 _) hF ?_
 refine zN ?_
 refine W_block ?_
 refine W_loop (γ := Nat × List Po × List Bl × (Option Addr × Nat × List Blk) × (Option Addr × Nat × List Blk) × List Blk) (fun q => q.1 ≤ many ∧ q.2.1.length ≤ q.1 ∧ WkS c B0 q.2.1 q.2.2.1 q.2.2.2.1.1 q.2.2.2.1.2.1 q.2.2.2.1.2.2 q.2.2.2.2.1.1 q.2.2.2.2.1.2.1 q.2.2.2.2.1.2.2 q.2.2.2.2.2) (fun q => [(1, .slice ba bn bcap), (3, .pointer (some ⟨b1, 0, none⟩)), (8, .slice q.2.2.2.1.1 (B0 :: q.2.2.1).length q.2.2.2.1.2.1), (9, .slice q.2.2.2.2.1.1 q.2.1.length q.2.2.2.2.1.2.1), (10, .int .i64 (N : Int)), (23, .int .i64 (many : Int)), (24, .int .i64 (q.1 : Int))]) (fun q => (b1, CB [.slice a1 c.n p1, .slice a2 c.inn.length p2, .int .i64 c.st] 24) :: (q.2.2.2.2.2 ++ (q.2.2.2.1.2.2 ++ q.2.2.2.2.1.2.2))) (fun q => many - q.1) ((0, [], [], (some ⟨bA, 0, none⟩, 1, [(bA, CB [.slice a1 c.n p1, .slice a2 c.inn.length p2, .int .i64 c.st] 24)]), (none, 0, []), [])) ⟨Nat.zero_le _, Nat.le_refl _, WkS.zero hB0⟩ s10 ((by simp only [List.append_nil, List.nil_append]; exact List.Sublist.refl _)) ?_
 rintro ⟨i, ps, bs, ⟨aA, kA, HA⟩, ⟨aL, kL, HL⟩, HX⟩ e ⟨(hi : i ≤ many), (hpl : ps.length ≤ i), (hS : WkS c B0 ps bs aA kA HA aL kL HL HX)⟩
 refine zR fun ds => ?_
 refine zD hF (y_lss rf rf) ?_
 refine zO ?_
 refine W_cond rf (fun c4 => ?_) (fun c4 => ?_)
 ·
  try simp only [qz1, qz2, qz3, qz4, qz5, qz6, qz7, qz8] at c4
  have hBl := hS.len
  have hbl : bs.length ≤ 100 := by omega
  have hcl : (B0 :: bs).length = bs.length + 1 := rfl
  refine zU ?_
  refine W_seq ?_
  refine W_block ?_
  refine zR fun ds => ?_
  refine zm (.int .i64 _) hF ?_
  refine za (.int .i64 _) hF ?_
  refine zP fun ds => ?_
  refine zm (.int .i64 _) hF ?_
  refine zm (.int .i64 _) hF ?_
  refine zD hF (y_mul rf rf (by rw [← hMI]; unfold I64; omega)) ?_
  rw [← hMI]
  refine zm (.int .i64 _) hF ?_
  refine zN ?_
  refine W_block ?_
  refine W_loop (γ := Nat) (fun k => k ≤ M) (fun k => [(1, .slice ba bn bcap), (3, .pointer (some ⟨b1, 0, none⟩)), (8, .slice aA (B0 :: bs).length kA), (9, .slice aL ps.length kL), (10, .int .i64 (N : Int)), (11, .int .i64 (i : Int)), (23, .int .i64 (many : Int)), (24, .int .i64 (i : Int)), (29, .int .i64 (M : Int)), (30, .int .i64 (k : Int))]) (fun _ => (b1, CB [.slice a1 c.n p1, .slice a2 c.inn.length p2, .int .i64 c.st] 24) :: (HX ++ (HA ++ HL))) (fun k => M - k) (0) (Nat.zero_le _) s10 (sbA) ?_
  rintro k e hk
  refine zR fun ds => ?_
  refine zD hF (y_lss rf rf) ?_
  refine zO ?_
  refine W_cond rf (fun c7 => ?_) (fun c7 => ?_)
  ·
   try simp only [qz1, qz2, qz3, qz4, qz5, qz6, qz7, qz8] at c7
   refine zU ?_
   refine W_seq ?_
   refine W_block ?_
   refine zR fun ds => ?_
   refine zm (.int .i64 _) hF ?_
   refine za (.int .i64 _) hF ?_
   refine zP fun ds => ?_
   refine zm (.slice _ _ _) hF ?_
   refine zm (.int .i64 _) hF ?_
   refine WS_gen hF rf (y_callL rf rf Tryz.call51 (fun w hw => lchoose_any ba bn bcap by_ i w hby.le om0 (hby.st w hw))) ?_
   rintro _ Hd ⟨m, rfl, hm⟩
   refine WS_sub (HSub.sub (List.sublist_append_right _ _)) ?_
   refine zm (.int .i64 _) hF ?_
   refine zD hF (y_add rf rf ui) ?_
   refine zm (.int .i64 _) hF ?_
   refine zm (.int .i64 _) hF ?_
   refine zD hF (y_mul rf rf (by rw [← hMI]; unfold I64; omega)) ?_
   rw [← hMI]
   refine zD hF (y_rem rf rf om0 om0) ?_
   refine za (.int .i64 _) hF ?_
   refine zO ?_
   obtain ⟨Z, hZ, hZM⟩ : ∃ Z : Nat, ((m : Int) + (k : Int)) % (M : Int) = (Z : Int) ∧ Z < M := ⟨(m + k) % M, by push_cast; rfl, Nat.mod_lt _ om0⟩
   rw [hZ]
   obtain ⟨f, hf⟩ : ∃ f, f = Z / N := ⟨_, rfl⟩
   obtain ⟨t, ht⟩ : ∃ t, t = Z % N := ⟨_, rfl⟩
   have hfN : f < N := by rw [hf]; exact Nat.div_lt_of_lt_mul om0
   have htN : t < N := by rw [ht]; exact Nat.mod_lt _ om0
   have hfI : (Z : Int) / (N : Int) = (f : Int) := by rw [hf]; push_cast; rfl
   have htI : (Z : Int) % (N : Int) = (t : Int) := by rw [ht]; push_cast; rfl
   refine W_draw0 hF Tryzmixed [13] dk0 (fun ds => ?_)
   refine P_det rf (Over_nil (y_move (c := .int .i64 _) rf)) ?_
   refine P_det rf (Over_nil (y_move (c := .int .i64 _) rf)) ?_
   refine P_det rf (Over_nil (y_quo rf rf om0 om0 ui)) ?_
   refine P_det rf (Over_nil (y_move (c := .int .i64 _) rf)) ?_
   refine P_det rf (Over_nil (y_move (c := .int .i64 _) rf)) ?_
   refine P_det rf (Over_nil (y_rem rf rf om0 om0)) ?_
   refine P_det rf (Over_nil (y_buildL bd47_0_1 rf)) ?_
   apply P_newS _ rf rf rf (Over_nil (y_alloc Tryz.zeroValue47 rf))
   refine P_st 13 0 rf rf rf rf rf (Over_nil (st_new (fun _ => by rfl) Tryz.sizeOf47 rf rf d20)) ?_
   refine PW_end rf ?_
   refine OverAll_cons (fun w13 l13 => ?_)
   refine OverAll_nil ?_
   rintro ⟨-, h13⟩
   obtain ⟨bx, rfl, rfl⟩ := h13
   refine Then_normal ?_
   refine W_seq ?_
   refine W_seq ?_
   rw [hfI, htI]
   refine W_region_lit (fun ds => ?_)
   refine zD hF (y_fieldAddr rf fa47_0) ?_
   refine zD hF (y_load1 rf Tryz.isAgg3 (Mem.own1 0 rf rf)) ?_
   refine zD hF (y_fieldAddr rf fa47_1) ?_
   refine zD hF (y_load1 rf Tryz.isAgg3 (Mem.own1 0 rf rf)) ?_
   refine zD hF (y_eql rf rf) ?_
   refine zN ?_
   refine W_cond rf (fun c11 => ?_) (fun c11 => ?_)
   ·
    try simp only [qz1, qz2, qz3, qz4, qz5, qz6, qz7, qz8] at c11
    have hft : f = t := by omega
    refine W_exit ?_
    refine Then_exit ?_
    refine InB_same ?_
    refine zT fun ds => ?_
    refine zD hF (y_add rf rf ui) ?_
    refine zm (.int .i64 _) hF ?_
    refine WS_nil ?_
    exact Loop_next (k + 1) om0 s10 sbA om0
   ·
    try simp only [qz1, qz2, qz3, qz4, qz5, qz6, qz7, qz8] at c11
    have hft : f ≠ t := by omega
    obtain ⟨y, hy⟩ : ∃ y, y = (B0 :: bs).getD bs.length Bl.z := ⟨_, rfl⟩
    have hyx : y.x = c.runK ps ps.length := by rw [hy, hS.at hBx (Nat.le_refl _), hBl]
    have hyr : y = B0 ∨ y.RdH c HX := by
     rw [hy]
     cases bs with
     | nil => exact .inl rfl
     | cons b bs =>
      refine .inr (hS.rd _ ?_)
      show (b :: bs).getD bs.length Bl.z ∈ _
      rw [List.getD_eq_getElem?_getD, List.getElem?_eq_getElem (by simp)]
      exact List.getElem_mem _
    have hin : c.In y.x := by rw [hyx]; exact hok.run_in fun j hj => hS.run j hj
    have hoc := hok.of_co hin
    have hok2 := hok.of hin
    obtain ⟨br, hbr⟩ := NewRow.adr hS.rowA (by simp)
    subst hbr
    refine zU ?_
    refine W_seq ?_
    refine W_draw0 hF Tryzmixed [14] dk0 (fun ds => ?_)
    refine P_det rf (Over_nil (y_move (c := .slice _ _ _) rf)) ?_
    refine P_det rf (Over_nil (y_move (c := .slice _ _ _) rf)) ?_
    refine P_det rf (Over_nil (y_len rf Tryz.runUnderlying34)) ?_
    refine P_det rf (Over_nil (y_sub rf rf ui)) ?_
    refine P_det rf (Over_nil (y_index (k := bs.length) rf rf r10 d10 Tryz.runUnderlying34 Tryz.sizeOf24)) ?_
    refine P_det rf (Over_nil (y_loadN rf Tryz.isAgg24 Tryz.sizeOf24 (fun w hw => (show At w br (0 + bs.length * 3) [.slice y.s c.n y.ks, .slice y.i (c.of y.x).inn.length y.ki, .int .i64 y.x.a] by rw [hy]; exact (NewRow.rws (bl_len c) hS.rowA rfl sbA w hw).at (k := bs.length) (by simp))) rf)) ?_
    refine P_det rf (Over_nil (y_loadN rf Tryz.isAgg47 Tryz.sizeOf47 (Mem.own (us := [.int .i64 _, .int .i64 _]) 0 rf rf) rf)) ?_
    refine P_new rf rf (Over_nil (y_callL rf rf Tryz.call24 (fun w hw => lstep_any (c.of y.x) y.s y.ks y.i y.ki f t w hok2 hn (by rw [c.of_len y.x hn3]; omega) (Bl.ints hyr hB1 hB2 sbA w hw).1 (Bl.ints hyr hB1 hB2 sbA w hw).2 (by show f ≤ c.n; omega) (by show t ≤ c.n; omega) hft))) ?_
    refine P_ali [62] (fun e => e 62) rf rf rf (fun _ _ h => h 62 (List.mem_singleton.2 rfl)) (Over_in rf (Over_nil (by intro vb3 l62 hb3; obtain ⟨d, n, _, rfl, ⟨z1, q1, z2, q2, H1, H2, rfl, hr1, hr2, hJ⟩, hd⟩ := hb3; obtain ⟨JJ, rfl⟩ : ∃ JJ, JJ = l62 := ⟨_, rfl⟩; exact (YD0_of (y_move (c := .tuple _) rf))))) ?_
    refine P_ali [54] (fun e => tupAt (e 54) 0) rf rf rf (fun _ _ h => congrArg (tupAt · 0) (h 54 (List.mem_singleton.2 rfl))) (Over_in rf (Over_in rf (Over_nil (by intro vb5 l62 hb5; obtain ⟨d, n, _, rfl, ⟨z1, q1, z2, q2, H1, H2, rfl, hr1, hr2, hJ⟩, hd⟩ := hb5; obtain ⟨JJ, rfl⟩ : ∃ JJ, JJ = l62 := ⟨_, rfl⟩; rintro vb6 _ ⟨hvb6, rfl⟩; replace hvb6 : vb6 = .tuple _ := hvb6; subst hvb6; exact (YD0_of (y_extract (c := .agg _) rf rf)))))) ?_
    refine P_ali [54] (fun e => tupAt (e 54) 1) rf rf rf (fun _ _ h => congrArg (tupAt · 1) (h 54 (List.mem_singleton.2 rfl))) (Over_out rf (Over_in rf (Over_in rf (Over_nil (by intro vb8 l62 hb8; obtain ⟨d, n, _, rfl, ⟨z1, q1, z2, q2, H1, H2, rfl, hr1, hr2, hJ⟩, hd⟩ := hb8; obtain ⟨JJ, rfl⟩ : ∃ JJ, JJ = l62 := ⟨_, rfl⟩; rintro vb9 _ ⟨hvb9, rfl⟩; replace hvb9 : vb9 = .tuple _ := hvb9; subst hvb9; exact (YD0_of (y_extract (c := .int .i64 _) rf rf))))))) ?_
    refine P_ali [54] (fun e => tupAt (e 54) 2) rf rf rf (fun _ _ h => congrArg (tupAt · 2) (h 54 (List.mem_singleton.2 rfl))) (Over_out rf (Over_out rf (Over_in rf (Over_in rf (Over_nil (by intro vb11 l62 hb11; obtain ⟨d, n, _, rfl, ⟨z1, q1, z2, q2, H1, H2, rfl, hr1, hr2, hJ⟩, hd⟩ := hb11; obtain ⟨JJ, rfl⟩ : ∃ JJ, JJ = l62 := ⟨_, rfl⟩; rintro vb12 _ ⟨hvb12, rfl⟩; replace hvb12 : vb12 = .tuple _ := hvb12; subst hvb12; exact (YD0_of (y_extract (c := .bool _) rf rf)))))))) ?_
    refine P_newSD 63 rf rf rf (Over_out rf (Over_out rf (Over_out rf (Over_out rf (Over_out rf (Over_nil (y_alloc Tryz.zeroValue24 rf))))))) ?_
    refine P_st 14 0 rf rf rf rf rf (Over_out rf (Over_out rf (Over_in rf (Over_in rf (Over_in rf (Over_nil (by intro vb14 l62 hb14; obtain ⟨d, n, _, rfl, ⟨z1, q1, z2, q2, H1, H2, rfl, hr1, hr2, hJ⟩, hd⟩ := hb14; obtain ⟨JJ, rfl⟩ : ∃ JJ, JJ = l62 := ⟨_, rfl⟩; rintro vb15 _ ⟨hvb15, rfl⟩; replace hvb15 : vb15 = .tuple _ := hvb15; subst hvb15; rintro vb16 _ ⟨hvb16, rfl⟩; replace hvb16 : vb16 = .agg _ := hvb16; subst hvb16; exact (st_newD rf rf Tryz.sizeOf24 rf rf d20)))))))) ?_
    refine P_ali [64] (fun e => e 64) rf rf rf (fun _ _ h => h 64 (List.mem_singleton.2 rfl)) (Over_out rf (Over_out rf (Over_in rf (Over_out rf (Over_in rf (Over_in rf (Over_nil (by intro vb17 l62 hb17; obtain ⟨d, n, _, rfl, ⟨z1, q1, z2, q2, H1, H2, rfl, hr1, hr2, hJ⟩, hd⟩ := hb17; obtain ⟨JJ, rfl⟩ : ∃ JJ, JJ = l62 := ⟨_, rfl⟩; rintro vb18 _ ⟨hvb18, rfl⟩; replace hvb18 : vb18 = .tuple _ := hvb18; subst hvb18; rintro vb19 _ ⟨hvb19, rfl⟩; replace hvb19 : vb19 = .int .i64 _ := hvb19; subst hvb19; exact (YD0_of (y_assign (c := .int .i64 _) rf)))))))))) ?_
    refine P_ali [65] (fun e => e 65) rf rf rf (fun _ _ h => h 65 (List.mem_singleton.2 rfl)) (Over_out rf (Over_out rf (Over_in rf (Over_out rf (Over_out rf (Over_in rf (Over_in rf (Over_nil (by intro vb21 l62 hb21; obtain ⟨d, n, _, rfl, ⟨z1, q1, z2, q2, H1, H2, rfl, hr1, hr2, hJ⟩, hd⟩ := hb21; obtain ⟨JJ, rfl⟩ : ∃ JJ, JJ = l62 := ⟨_, rfl⟩; rintro vb22 _ ⟨hvb22, rfl⟩; replace hvb22 : vb22 = .tuple _ := hvb22; subst hvb22; rintro vb23 _ ⟨hvb23, rfl⟩; replace hvb23 : vb23 = .bool _ := hvb23; subst hvb23; exact (YD0_of (y_assign (c := .bool _) rf))))))))))) ?_
    refine PW_end rf ?_
    refine OverAll_cons (fun w16 l16 => ?_)
    refine OverAll_cons (fun w15 l15 => ?_)
    refine OverAll_cons (fun w14 l14 => ?_)
    refine OverAll_cons (fun w65 l65 => ?_)
    refine OverAll_cons (fun w64 l64 => ?_)
    refine OverAll_cons (fun w63 l63 => ?_)
    refine OverAll_cons (fun w54 l54 => ?_)
    refine OverAll_cons (fun w62 l62 => ?_)
    refine OverAll_nil ?_
    rintro ⟨⟨⟨⟨⟨⟨⟨⟨-, h16⟩, h15⟩, h14⟩, h65⟩, h64⟩, h63⟩, h54⟩, h62⟩
    obtain ⟨d, n, _, rfl, ⟨z1, q1, z2, q2, H1, H2, rfl, hr1, hr2, hJ⟩, hd⟩ := h62
    obtain ⟨JJ, rfl⟩ : ∃ JJ, JJ = l62 := ⟨_, rfl⟩
    obtain ⟨h54, rfl⟩ := h54
    replace h54 : w54 = .tuple _ := h54
    subst h54
    obtain ⟨h63, rfl⟩ := h63
    replace h63 : w63 = .agg _ := h63
    subst h63
    obtain ⟨h64, rfl⟩ := h64
    replace h64 : w64 = .int .i64 _ := h64
    subst h64
    obtain ⟨h65, rfl⟩ := h65
    replace h65 : w65 = .bool _ := h65
    subst h65
    obtain ⟨h15, rfl⟩ := h15
    replace h15 : w15 = .int .i64 _ := h15
    subst h15
    obtain ⟨h16, rfl⟩ := h16
    replace h16 : w16 = .bool _ := h16
    subst h16
    obtain ⟨bd, rfl, rfl⟩ := h14
    refine zS fun ds => ?_
    refine zm (.bool _) hF ?_
    refine zN ?_
    refine W_cond rf (fun c13 => ?_) (fun c13 => ?_)
    ·
     try simp only [qz1, qz2, qz3, qz4, qz5, qz6, qz7, qz8] at c13
     rw [hoc] at hd
     have hcan : c.canB y.x f t = true := by
      have : (c.of y.x).canB (c.of y.x).co f t = true := c13
      rw [hoc] at this; exact this
     obtain ⟨rfl, rfl⟩ := hd hcan
     obtain ⟨X2, hX2⟩ : ∃ X2, X2 = c.to y.x f t := ⟨_, rfl⟩
     have hxx : (c.of y.x).of ((c.of y.x).to y.x f t) = c.of X2 := by rw [hX2]; rfl
     rw [hxx] at hr1 hr2
     rw [hxx]
     obtain ⟨hf9, ht9⟩ : f ≤ c.n ∧ t ≤ c.n := by omega
     have hpe : c.pE (c.runK ps ps.length) (⟨(f : Int), (t : Int)⟩ : Po) = 0 := by
      rw [← hyx]
      exact Cn.pE_zero.2 ⟨Cn.vld_iff.2 ⟨⟨by simp only; omega, by simp only; omega⟩, ⟨by simp only; omega, by simp only; omega⟩, by simp only; omega⟩, hcan⟩
     refine W_seq ?_
     refine W_pull (b1, CB [.slice a1 c.n p1, .slice a2 c.inn.length p2, .int .i64 c.st] 24) zu ?_
     refine W_pull (bx, CB [.int .i64 (f : Int), .int .i64 (t : Int)] 47) zu ?_
     refine W_pull (bd, CB (Bl.cells c (⟨X2, z1, q1, z2, q2⟩ : Bl)) 24) zu ?_
     refine W_tailH0 ((bd, CB (Bl.cells c (⟨X2, z1, q1, z2, q2⟩ : Bl)) 24) :: (bx, CB [.int .i64 (f : Int), .int .i64 (t : Int)] 47) :: (b1, CB [.slice a1 c.n p1, .slice a2 c.inn.length p2, .int .i64 c.st] 24) :: []) 8 Tryzmixed (fun e2 H2 => ∃ aA3 kA3 HA3 aL3 kL3 HL3, NewRow 24 3 (B0 :: (bs ++ [(⟨X2, z1, q1, z2, q2⟩ : Bl)])).length (blRow c (B0 :: (bs ++ [(⟨X2, z1, q1, z2, q2⟩ : Bl)]))) (.slice aA3 (B0 :: (bs ++ [(⟨X2, z1, q1, z2, q2⟩ : Bl)])).length kA3) HA3 ∧ NewRow 47 2 (ps ++ [(⟨(f : Int), (t : Int)⟩ : Po)]).length (pRow (ps ++ [(⟨(f : Int), (t : Int)⟩ : Po)])) (.slice aL3 (ps ++ [(⟨(f : Int), (t : Int)⟩ : Po)]).length kL3) HL3 ∧ Slots e2 [(1, .slice ba bn bcap), (3, .pointer (some ⟨b1, 0, none⟩)), (10, .int .i64 (N : Int)), (23, .int .i64 (many : Int)), (24, .int .i64 (i : Int)), (70, .slice aA3 (B0 :: (bs ++ [(⟨X2, z1, q1, z2, q2⟩ : Bl)])).length kA3), (74, .slice aL3 (ps ++ [(⟨(f : Int), (t : Int)⟩ : Po)]).length kL3)] ∧ HSub H2 ((b1, CB [.slice a1 c.n p1, .slice a2 c.inn.length p2, .int .i64 c.st] 24) :: (JJ ++ (HX ++ (HA3 ++ HL3))))) dk0 (fun ds e2 H2 hmid => ?_) (fun ds => ?_)
     ·
      obtain ⟨aA3, kA3, HA3, aL3, kL3, HL3, hA3, hL3, hsl, hsb⟩ := hmid
      rw [← hsl.sets]
      refine WS_sub hsb ?_
      have hS3 : WkS c B0 (ps ++ [(⟨(f : Int), (t : Int)⟩ : Po)]) (bs ++ [(⟨X2, z1, q1, z2, q2⟩ : Bl)]) aA3 kA3 HA3 aL3 kL3 HL3 (JJ ++ HX) := hS.push hpe (by rw [← hyx]; exact hX2) hA3 hL3 (Bl.RdH.two hr1 hr2 (by rw [hJ]; exact List.sublist_append_left _ _)) (List.sublist_append_right _ _)
      refine za (.slice _ _ _) hF ?_
      refine za (.slice _ _ _) hF ?_
      refine zN ?_
      refine W_exit ?_
      refine InB_other rf ?_
      refine Then_exit ?_
      refine Loop_exit ?_
      refine InB_same ?_
      refine InB_normal ?_
      refine zT fun ds => ?_
      refine zD hF (y_add rf rf ui) ?_
      refine zm (.int .i64 _) hF ?_
      refine WS_nil ?_
      exact Loop_next (i + 1, ps ++ [⟨(f : Int), (t : Int)⟩], bs ++ [⟨X2, z1, q1, z2, q2⟩], (aA3, kA3, HA3), (aL3, kL3, HL3), JJ ++ HX) ⟨by simp only; omega, by simp only [List.length_append, List.length_singleton]; omega, hS3⟩ s10 sbA (by simp only; omega)
     ·
      refine WH_as (fun X hX => ?_)
      have J2_3_6 : ∀ (aA3 : Option Addr) (kA3 : Nat) (HA3 : List Blk) (bv : Nat) (hA3 : NewRow 24 3 (B0 :: (bs ++ [(⟨X2, z1, q1, z2, q2⟩ : Bl)])).length (blRow c (B0 :: (bs ++ [(⟨X2, z1, q1, z2, q2⟩ : Bl)]))) (.slice aA3 (B0 :: (bs ++ [(⟨X2, z1, q1, z2, q2⟩ : Bl)])).length kA3) HA3) (e2 : Env) (H2 : List Blk), Slots e2 [(1, .slice ba bn bcap), (3, .pointer (some ⟨b1, 0, none⟩)), (10, .int .i64 (N : Int)), (23, .int .i64 (many : Int)), (24, .int .i64 (i : Int)), (13, .pointer (some ⟨bx, 0, none⟩)), (14, .pointer (some ⟨bd, 0, none⟩)), (67, .slice (some ⟨br, 0, none⟩) (B0 :: bs).length kA), (68, .agg (Bl.cells c (⟨X2, z1, q1, z2, q2⟩ : Bl)).toArray), (71, .slice aL ps.length kL), (72, .agg #[.int .i64 (f : Int), .int .i64 (t : Int)]), (70, .slice aA3 (B0 :: (bs ++ [(⟨X2, z1, q1, z2, q2⟩ : Bl)])).length kA3), (73, .slice (some ⟨bv, 0, none⟩) 1 1)] → HSub H2 ((bv, CB [.int .i64 (f : Int), .int .i64 (t : Int)] 47) :: (bd, CB (Bl.cells c (⟨X2, z1, q1, z2, q2⟩ : Bl)) 24) :: (bx, CB [.int .i64 (f : Int), .int .i64 (t : Int)] 47) :: (b1, CB [.slice a1 c.n p1, .slice a2 c.inn.length p2, .int .i64 c.st] 24) :: HA3 ++ (JJ ++ (HX ++ (HL)))) → X 1 #[true, true, true, true, true, true, true, false] e2 H2 := by
       intro aA3 kA3 HA3 bv hA3 e2 H2 hsl hsb
       rw [← hsl.sets, hX]
       refine WH_sub hsb (HSub.sub sbA) ?_
       refine WH_step1 7 dk0 (fun _ h => St.sub h sbA) rf ?_
       ·
        refine WS_pull (bv, _) zu ?_
        refine WS_pullE HL (by repeat (first | exact PulE.hd | exact PulE.snd | exact PulE.one | apply PulE.cons | apply PulE.app)) ?_
        refine WS_appendN hF (H1 := (_ :: _ :: _ :: _ :: (HA3 ++ (JJ ++ (HX))))) (Hn := HL) (news := Po.cells (⟨(f : Int), (t : Int)⟩ : Po)) rf rf rf Tryz.underlying35 infPo rf rf hS.rowL (rowOf_len po_len _ _) (.inr ⟨bv, 0, rfl, Mem.own (us := Po.cells (⟨(f : Int), (t : Int)⟩ : Po)) 0 rf rf⟩) rf rf om0 om0 om0 ?_
        intro aL3 kL3 HL3 hr3
        have hL3 : NewRow 47 2 (ps ++ [(⟨(f : Int), (t : Int)⟩ : Po)]).length (pRow (ps ++ [(⟨(f : Int), (t : Int)⟩ : Po)])) (.slice aL3 (ps ++ [(⟨(f : Int), (t : Int)⟩ : Po)]).length kL3) HL3 := by
         rw [pRow_snoc, List.length_append]; exact hr3
        rw [show ps.length + 1 = (ps ++ [(⟨(f : Int), (t : Int)⟩ : Po)]).length by simp]
        simp only [List.append_assoc, List.cons_append, List.append_eq]
        refine WS_nil ?_
        refine WH_done dk0 (fun _ h => St.sub h sbA) ?_
        refine ⟨_, _, _, _, _, _, hA3, hL3, s30, ?_⟩
        refine HSub.pullL HL3 (by repeat (first | exact PulL.base | exact PulL.base1 | apply PulL.cons | apply PulL.app)) ?_
        refine HSub.pullL HA3 (by repeat (first | exact PulL.base | exact PulL.base1 | apply PulL.cons | apply PulL.app)) ?_
        refine HSub.pullL HX (by repeat (first | exact PulL.base | exact PulL.base1 | apply PulL.cons | apply PulL.app)) ?_
        refine HSub.pullL JJ (by repeat (first | exact PulL.base | exact PulL.base1 | apply PulL.cons | apply PulL.app)) ?_
        refine HSub.pull1 (b1, CB [.slice a1 c.n p1, .slice a2 c.inn.length p2, .int .i64 c.st] 24) zu ?_
        exact HSub.sub sbA
      have J2_3 : ∀ (aA3 : Option Addr) (kA3 : Nat) (HA3 : List Blk) (hA3 : NewRow 24 3 (B0 :: (bs ++ [(⟨X2, z1, q1, z2, q2⟩ : Bl)])).length (blRow c (B0 :: (bs ++ [(⟨X2, z1, q1, z2, q2⟩ : Bl)]))) (.slice aA3 (B0 :: (bs ++ [(⟨X2, z1, q1, z2, q2⟩ : Bl)])).length kA3) HA3) (e2 : Env) (H2 : List Blk), Slots e2 [(1, .slice ba bn bcap), (3, .pointer (some ⟨b1, 0, none⟩)), (10, .int .i64 (N : Int)), (23, .int .i64 (many : Int)), (24, .int .i64 (i : Int)), (13, .pointer (some ⟨bx, 0, none⟩)), (14, .pointer (some ⟨bd, 0, none⟩)), (67, .slice (some ⟨br, 0, none⟩) (B0 :: bs).length kA), (68, .agg (Bl.cells c (⟨X2, z1, q1, z2, q2⟩ : Bl)).toArray), (71, .slice aL ps.length kL), (72, .agg #[.int .i64 (f : Int), .int .i64 (t : Int)]), (70, .slice aA3 (B0 :: (bs ++ [(⟨X2, z1, q1, z2, q2⟩ : Bl)])).length kA3)] → HSub H2 ((bd, CB (Bl.cells c (⟨X2, z1, q1, z2, q2⟩ : Bl)) 24) :: (bx, CB [.int .i64 (f : Int), .int .i64 (t : Int)] 47) :: (b1, CB [.slice a1 c.n p1, .slice a2 c.inn.length p2, .int .i64 c.st] 24) :: HA3 ++ (JJ ++ (HX ++ (HL)))) → X 2 #[true, true, true, true, true, true, false, false] e2 H2 := by
       intro aA3 kA3 HA3 hA3 e2 H2 hsl hsb
       rw [← hsl.sets, hX]
       refine WH_sub hsb (HSub.sub sbA) ?_
       refine WH_step1 6 dk0 (fun _ h => St.sub h sbA) rf ?_
       ·
        refine WS_newS hF rf (y_buildSliceL bs35_1_0 rf) (fun bv => ?_)
        refine WS_nil ?_
        refine WH_pullL HL (by repeat (first | exact PulL.base | exact PulL.base1 | apply PulL.cons | apply PulL.app)) ?_
        refine WH_pullL HX (by repeat (first | exact PulL.base | exact PulL.base1 | apply PulL.cons | apply PulL.app)) ?_
        refine WH_pullL JJ (by repeat (first | exact PulL.base | exact PulL.base1 | apply PulL.cons | apply PulL.app)) ?_
        refine WH_pullL HA3 (by repeat (first | exact PulL.base | exact PulL.base1 | apply PulL.cons | apply PulL.app)) ?_
        refine WH_pull (b1, CB [.slice a1 c.n p1, .slice a2 c.inn.length p2, .int .i64 c.st] 24) zu ?_
        refine WH_pull (bx, CB [.int .i64 (f : Int), .int .i64 (t : Int)] 47) zu ?_
        refine WH_pull (bd, CB (Bl.cells c (⟨X2, z1, q1, z2, q2⟩ : Bl)) 24) zu ?_
        refine WH_pull (bv, CB [.int .i64 (f : Int), .int .i64 (t : Int)] 47) zu ?_
        exact WH_of hX rf dk0 (J2_3_6 aA3 kA3 HA3 bv hA3 _ _ s10 (HSub.sub (by repeat (first | exact List.nil_sublist _ | exact List.Sublist.refl _ | exact List.sublist_append_left _ _ | apply List.Sublist.cons_cons | apply List.Sublist.append_left))))
      have J2_6 : ∀ (bu : Nat) (bv : Nat) (e2 : Env) (H2 : List Blk), Slots e2 [(1, .slice ba bn bcap), (3, .pointer (some ⟨b1, 0, none⟩)), (10, .int .i64 (N : Int)), (23, .int .i64 (many : Int)), (24, .int .i64 (i : Int)), (13, .pointer (some ⟨bx, 0, none⟩)), (14, .pointer (some ⟨bd, 0, none⟩)), (67, .slice (some ⟨br, 0, none⟩) (B0 :: bs).length kA), (68, .agg (Bl.cells c (⟨X2, z1, q1, z2, q2⟩ : Bl)).toArray), (71, .slice aL ps.length kL), (72, .agg #[.int .i64 (f : Int), .int .i64 (t : Int)]), (69, .slice (some ⟨bu, 0, none⟩) 1 1), (73, .slice (some ⟨bv, 0, none⟩) 1 1)] → HSub H2 ((bu, CB (Bl.cells c (⟨X2, z1, q1, z2, q2⟩ : Bl)) 24) :: (bv, CB [.int .i64 (f : Int), .int .i64 (t : Int)] 47) :: (bd, CB (Bl.cells c (⟨X2, z1, q1, z2, q2⟩ : Bl)) 24) :: (bx, CB [.int .i64 (f : Int), .int .i64 (t : Int)] 47) :: (b1, CB [.slice a1 c.n p1, .slice a2 c.inn.length p2, .int .i64 c.st] 24) :: JJ ++ (HX ++ (HA ++ (HL)))) → X 2 #[true, true, true, false, true, true, true, false] e2 H2 := by
       intro bu bv e2 H2 hsl hsb
       rw [← hsl.sets, hX]
       refine WH_sub hsb (HSub.sub sbA) ?_
       refine WH_step1 3 dk0 (fun _ h => St.sub h sbA) rf ?_
       ·
        refine WS_pull (bu, _) zu ?_
        refine WS_pullE HA (by repeat (first | exact PulE.hd | exact PulE.snd | exact PulE.one | apply PulE.cons | apply PulE.app)) ?_
        refine WS_appendN hF (H1 := (_ :: _ :: _ :: _ :: _ :: (JJ ++ (HX ++ (HL))))) (Hn := HA) (news := Bl.cells c (⟨X2, z1, q1, z2, q2⟩ : Bl)) rf rf rf Tryz.underlying34 infCans rf rf hS.rowA (blRow_len c _) (.inr ⟨bu, 0, rfl, Mem.own (us := Bl.cells c (⟨X2, z1, q1, z2, q2⟩ : Bl)) 0 rf rf⟩) rf rf om0 om0 om0 ?_
        intro aA3 kA3 HA3 hr3
        have hA3 : NewRow 24 3 (B0 :: (bs ++ [(⟨X2, z1, q1, z2, q2⟩ : Bl)])).length (blRow c (B0 :: (bs ++ [(⟨X2, z1, q1, z2, q2⟩ : Bl)]))) (.slice aA3 (B0 :: (bs ++ [(⟨X2, z1, q1, z2, q2⟩ : Bl)])).length kA3) HA3 := by
         rw [blRow_cons_snoc, show (B0 :: (bs ++ [(⟨X2, z1, q1, z2, q2⟩ : Bl)])).length = (B0 :: bs).length + 1 by simp]; exact hr3
        rw [show (B0 :: bs).length + 1 = (B0 :: (bs ++ [(⟨X2, z1, q1, z2, q2⟩ : Bl)])).length by simp]
        simp only [List.append_assoc, List.cons_append, List.append_eq]
        refine WS_nil ?_
        refine WH_pullL HL (by repeat (first | exact PulL.base | exact PulL.base1 | apply PulL.cons | apply PulL.app)) ?_
        refine WH_pullL HX (by repeat (first | exact PulL.base | exact PulL.base1 | apply PulL.cons | apply PulL.app)) ?_
        refine WH_pullL JJ (by repeat (first | exact PulL.base | exact PulL.base1 | apply PulL.cons | apply PulL.app)) ?_
        refine WH_pullL HA3 (by repeat (first | exact PulL.base | exact PulL.base1 | apply PulL.cons | apply PulL.app)) ?_
        refine WH_pull (b1, CB [.slice a1 c.n p1, .slice a2 c.inn.length p2, .int .i64 c.st] 24) zu ?_
        refine WH_pull (bx, CB [.int .i64 (f : Int), .int .i64 (t : Int)] 47) zu ?_
        refine WH_pull (bd, CB (Bl.cells c (⟨X2, z1, q1, z2, q2⟩ : Bl)) 24) zu ?_
        refine WH_pull (bv, CB [.int .i64 (f : Int), .int .i64 (t : Int)] 47) zu ?_
        exact WH_of hX rf dk0 (J2_3_6 aA3 kA3 HA3 bv hA3 _ _ s10 (HSub.sub (by repeat (first | exact List.nil_sublist _ | exact List.Sublist.refl _ | exact List.sublist_append_left _ _ | apply List.Sublist.cons_cons | apply List.Sublist.append_left))))
      have J2 : ∀ (bu : Nat) (e2 : Env) (H2 : List Blk), Slots e2 [(1, .slice ba bn bcap), (3, .pointer (some ⟨b1, 0, none⟩)), (10, .int .i64 (N : Int)), (23, .int .i64 (many : Int)), (24, .int .i64 (i : Int)), (13, .pointer (some ⟨bx, 0, none⟩)), (14, .pointer (some ⟨bd, 0, none⟩)), (67, .slice (some ⟨br, 0, none⟩) (B0 :: bs).length kA), (68, .agg (Bl.cells c (⟨X2, z1, q1, z2, q2⟩ : Bl)).toArray), (71, .slice aL ps.length kL), (72, .agg #[.int .i64 (f : Int), .int .i64 (t : Int)]), (69, .slice (some ⟨bu, 0, none⟩) 1 1)] → HSub H2 ((bu, CB (Bl.cells c (⟨X2, z1, q1, z2, q2⟩ : Bl)) 24) :: (bd, CB (Bl.cells c (⟨X2, z1, q1, z2, q2⟩ : Bl)) 24) :: (bx, CB [.int .i64 (f : Int), .int .i64 (t : Int)] 47) :: (b1, CB [.slice a1 c.n p1, .slice a2 c.inn.length p2, .int .i64 c.st] 24) :: JJ ++ (HX ++ (HA ++ (HL)))) → X 3 #[true, true, true, false, true, true, false, false] e2 H2 := by
       intro bu e2 H2 hsl hsb
       rw [← hsl.sets, hX]
       refine WH_sub hsb (HSub.sub sbA) ?_
       refine WH_step2 3 6 dk0 (fun _ h => St.sub h sbA) rf rf ?_ ?_
       ·
        refine WS_pull (bu, _) zu ?_
        refine WS_pullE HA (by repeat (first | exact PulE.hd | exact PulE.snd | exact PulE.one | apply PulE.cons | apply PulE.app)) ?_
        refine WS_appendN hF (H1 := (_ :: _ :: _ :: _ :: (JJ ++ (HX ++ (HL))))) (Hn := HA) (news := Bl.cells c (⟨X2, z1, q1, z2, q2⟩ : Bl)) rf rf rf Tryz.underlying34 infCans rf rf hS.rowA (blRow_len c _) (.inr ⟨bu, 0, rfl, Mem.own (us := Bl.cells c (⟨X2, z1, q1, z2, q2⟩ : Bl)) 0 rf rf⟩) rf rf om0 om0 om0 ?_
        intro aA3 kA3 HA3 hr3
        have hA3 : NewRow 24 3 (B0 :: (bs ++ [(⟨X2, z1, q1, z2, q2⟩ : Bl)])).length (blRow c (B0 :: (bs ++ [(⟨X2, z1, q1, z2, q2⟩ : Bl)]))) (.slice aA3 (B0 :: (bs ++ [(⟨X2, z1, q1, z2, q2⟩ : Bl)])).length kA3) HA3 := by
         rw [blRow_cons_snoc, show (B0 :: (bs ++ [(⟨X2, z1, q1, z2, q2⟩ : Bl)])).length = (B0 :: bs).length + 1 by simp]; exact hr3
        rw [show (B0 :: bs).length + 1 = (B0 :: (bs ++ [(⟨X2, z1, q1, z2, q2⟩ : Bl)])).length by simp]
        simp only [List.append_assoc, List.cons_append, List.append_eq]
        refine WS_nil ?_
        refine WH_pullL HL (by repeat (first | exact PulL.base | exact PulL.base1 | apply PulL.cons | apply PulL.app)) ?_
        refine WH_pullL HX (by repeat (first | exact PulL.base | exact PulL.base1 | apply PulL.cons | apply PulL.app)) ?_
        refine WH_pullL JJ (by repeat (first | exact PulL.base | exact PulL.base1 | apply PulL.cons | apply PulL.app)) ?_
        refine WH_pullL HA3 (by repeat (first | exact PulL.base | exact PulL.base1 | apply PulL.cons | apply PulL.app)) ?_
        refine WH_pull (b1, CB [.slice a1 c.n p1, .slice a2 c.inn.length p2, .int .i64 c.st] 24) zu ?_
        refine WH_pull (bx, CB [.int .i64 (f : Int), .int .i64 (t : Int)] 47) zu ?_
        refine WH_pull (bd, CB (Bl.cells c (⟨X2, z1, q1, z2, q2⟩ : Bl)) 24) zu ?_
        exact WH_of hX rf dk0 (J2_3 aA3 kA3 HA3 hA3 _ _ s10 (HSub.sub (by repeat (first | exact List.nil_sublist _ | exact List.Sublist.refl _ | exact List.sublist_append_left _ _ | apply List.Sublist.cons_cons | apply List.Sublist.append_left))))
       ·
        refine WS_newS hF rf (y_buildSliceL bs35_1_0 rf) (fun bv => ?_)
        refine WS_nil ?_
        refine WH_pullL HL (by repeat (first | exact PulL.base | exact PulL.base1 | apply PulL.cons | apply PulL.app)) ?_
        refine WH_pullL HA (by repeat (first | exact PulL.base | exact PulL.base1 | apply PulL.cons | apply PulL.app)) ?_
        refine WH_pullL HX (by repeat (first | exact PulL.base | exact PulL.base1 | apply PulL.cons | apply PulL.app)) ?_
        refine WH_pullL JJ (by repeat (first | exact PulL.base | exact PulL.base1 | apply PulL.cons | apply PulL.app)) ?_
        refine WH_pull (b1, CB [.slice a1 c.n p1, .slice a2 c.inn.length p2, .int .i64 c.st] 24) zu ?_
        refine WH_pull (bx, CB [.int .i64 (f : Int), .int .i64 (t : Int)] 47) zu ?_
        refine WH_pull (bd, CB (Bl.cells c (⟨X2, z1, q1, z2, q2⟩ : Bl)) 24) zu ?_
        refine WH_pull (bv, CB [.int .i64 (f : Int), .int .i64 (t : Int)] 47) zu ?_
        refine WH_pull (bu, CB (Bl.cells c (⟨X2, z1, q1, z2, q2⟩ : Bl)) 24) zu ?_
        exact WH_of hX rf dk0 (J2_6 bu bv _ _ s10 (HSub.sub (by repeat (first | exact List.nil_sublist _ | exact List.Sublist.refl _ | exact List.sublist_append_left _ _ | apply List.Sublist.cons_cons | apply List.Sublist.append_left))))
      have J6 : ∀ (bv : Nat) (e2 : Env) (H2 : List Blk), Slots e2 [(1, .slice ba bn bcap), (3, .pointer (some ⟨b1, 0, none⟩)), (10, .int .i64 (N : Int)), (23, .int .i64 (many : Int)), (24, .int .i64 (i : Int)), (13, .pointer (some ⟨bx, 0, none⟩)), (14, .pointer (some ⟨bd, 0, none⟩)), (67, .slice (some ⟨br, 0, none⟩) (B0 :: bs).length kA), (68, .agg (Bl.cells c (⟨X2, z1, q1, z2, q2⟩ : Bl)).toArray), (71, .slice aL ps.length kL), (72, .agg #[.int .i64 (f : Int), .int .i64 (t : Int)]), (73, .slice (some ⟨bv, 0, none⟩) 1 1)] → HSub H2 ((bv, CB [.int .i64 (f : Int), .int .i64 (t : Int)] 47) :: (bd, CB (Bl.cells c (⟨X2, z1, q1, z2, q2⟩ : Bl)) 24) :: (bx, CB [.int .i64 (f : Int), .int .i64 (t : Int)] 47) :: (b1, CB [.slice a1 c.n p1, .slice a2 c.inn.length p2, .int .i64 c.st] 24) :: JJ ++ (HX ++ (HA ++ (HL)))) → X 3 #[true, true, false, false, true, true, true, false] e2 H2 := by
       intro bv e2 H2 hsl hsb
       rw [← hsl.sets, hX]
       refine WH_sub hsb (HSub.sub sbA) ?_
       refine WH_step1 2 dk0 (fun _ h => St.sub h sbA) rf ?_
       ·
        refine WS_newS hF rf (y_buildSliceL bs34_1_0 rf) (fun bu => ?_)
        refine WS_nil ?_
        refine WH_pullL HL (by repeat (first | exact PulL.base | exact PulL.base1 | apply PulL.cons | apply PulL.app)) ?_
        refine WH_pullL HA (by repeat (first | exact PulL.base | exact PulL.base1 | apply PulL.cons | apply PulL.app)) ?_
        refine WH_pullL HX (by repeat (first | exact PulL.base | exact PulL.base1 | apply PulL.cons | apply PulL.app)) ?_
        refine WH_pullL JJ (by repeat (first | exact PulL.base | exact PulL.base1 | apply PulL.cons | apply PulL.app)) ?_
        refine WH_pull (b1, CB [.slice a1 c.n p1, .slice a2 c.inn.length p2, .int .i64 c.st] 24) zu ?_
        refine WH_pull (bx, CB [.int .i64 (f : Int), .int .i64 (t : Int)] 47) zu ?_
        refine WH_pull (bd, CB (Bl.cells c (⟨X2, z1, q1, z2, q2⟩ : Bl)) 24) zu ?_
        refine WH_pull (bv, CB [.int .i64 (f : Int), .int .i64 (t : Int)] 47) zu ?_
        refine WH_pull (bu, CB (Bl.cells c (⟨X2, z1, q1, z2, q2⟩ : Bl)) 24) zu ?_
        exact WH_of hX rf dk0 (J2_6 bu bv _ _ s10 (HSub.sub (by repeat (first | exact List.nil_sublist _ | exact List.Sublist.refl _ | exact List.sublist_append_left _ _ | apply List.Sublist.cons_cons | apply List.Sublist.append_left))))
      have J : ∀  (e2 : Env) (H2 : List Blk), Slots e2 [(1, .slice ba bn bcap), (3, .pointer (some ⟨b1, 0, none⟩)), (10, .int .i64 (N : Int)), (23, .int .i64 (many : Int)), (24, .int .i64 (i : Int)), (13, .pointer (some ⟨bx, 0, none⟩)), (14, .pointer (some ⟨bd, 0, none⟩)), (67, .slice (some ⟨br, 0, none⟩) (B0 :: bs).length kA), (68, .agg (Bl.cells c (⟨X2, z1, q1, z2, q2⟩ : Bl)).toArray), (71, .slice aL ps.length kL), (72, .agg #[.int .i64 (f : Int), .int .i64 (t : Int)])] → HSub H2 ((bd, CB (Bl.cells c (⟨X2, z1, q1, z2, q2⟩ : Bl)) 24) :: (bx, CB [.int .i64 (f : Int), .int .i64 (t : Int)] 47) :: (b1, CB [.slice a1 c.n p1, .slice a2 c.inn.length p2, .int .i64 c.st] 24) :: JJ ++ (HX ++ (HA ++ (HL)))) → X 4 #[true, true, false, false, true, true, false, false] e2 H2 := by
       intro  e2 H2 hsl hsb
       rw [← hsl.sets, hX]
       refine WH_sub hsb (HSub.sub sbA) ?_
       refine WH_step2 2 6 dk0 (fun _ h => St.sub h sbA) rf rf ?_ ?_
       ·
        refine WS_newS hF rf (y_buildSliceL bs34_1_0 rf) (fun bu => ?_)
        refine WS_nil ?_
        refine WH_pullL HL (by repeat (first | exact PulL.base | exact PulL.base1 | apply PulL.cons | apply PulL.app)) ?_
        refine WH_pullL HA (by repeat (first | exact PulL.base | exact PulL.base1 | apply PulL.cons | apply PulL.app)) ?_
        refine WH_pullL HX (by repeat (first | exact PulL.base | exact PulL.base1 | apply PulL.cons | apply PulL.app)) ?_
        refine WH_pullL JJ (by repeat (first | exact PulL.base | exact PulL.base1 | apply PulL.cons | apply PulL.app)) ?_
        refine WH_pull (b1, CB [.slice a1 c.n p1, .slice a2 c.inn.length p2, .int .i64 c.st] 24) zu ?_
        refine WH_pull (bx, CB [.int .i64 (f : Int), .int .i64 (t : Int)] 47) zu ?_
        refine WH_pull (bd, CB (Bl.cells c (⟨X2, z1, q1, z2, q2⟩ : Bl)) 24) zu ?_
        refine WH_pull (bu, CB (Bl.cells c (⟨X2, z1, q1, z2, q2⟩ : Bl)) 24) zu ?_
        exact WH_of hX rf dk0 (J2 bu _ _ s10 (HSub.sub (by repeat (first | exact List.nil_sublist _ | exact List.Sublist.refl _ | exact List.sublist_append_left _ _ | apply List.Sublist.cons_cons | apply List.Sublist.append_left))))
       ·
        refine WS_newS hF rf (y_buildSliceL bs35_1_0 rf) (fun bv => ?_)
        refine WS_nil ?_
        refine WH_pullL HL (by repeat (first | exact PulL.base | exact PulL.base1 | apply PulL.cons | apply PulL.app)) ?_
        refine WH_pullL HA (by repeat (first | exact PulL.base | exact PulL.base1 | apply PulL.cons | apply PulL.app)) ?_
        refine WH_pullL HX (by repeat (first | exact PulL.base | exact PulL.base1 | apply PulL.cons | apply PulL.app)) ?_
        refine WH_pullL JJ (by repeat (first | exact PulL.base | exact PulL.base1 | apply PulL.cons | apply PulL.app)) ?_
        refine WH_pull (b1, CB [.slice a1 c.n p1, .slice a2 c.inn.length p2, .int .i64 c.st] 24) zu ?_
        refine WH_pull (bx, CB [.int .i64 (f : Int), .int .i64 (t : Int)] 47) zu ?_
        refine WH_pull (bd, CB (Bl.cells c (⟨X2, z1, q1, z2, q2⟩ : Bl)) 24) zu ?_
        refine WH_pull (bv, CB [.int .i64 (f : Int), .int .i64 (t : Int)] 47) zu ?_
        exact WH_of hX rf dk0 (J6 bv _ _ s10 (HSub.sub (by repeat (first | exact List.nil_sublist _ | exact List.Sublist.refl _ | exact List.sublist_append_left _ _ | apply List.Sublist.cons_cons | apply List.Sublist.append_left))))
      rw [hX]
      refine WH_take 0 dk0 rf dk0 dk0 rf (ye_move (c := .slice _ _ _) rf) ?_
      refine WH_take 1 dk0 rf dk0 dk0 rf (ye_loadN rf Tryz.isAgg24 Tryz.sizeOf24 (Mem.own (us := Bl.cells c (⟨X2, z1, q1, z2, q2⟩ : Bl)) 0 rf rf) rf) ?_
      refine WH_take 4 dk0 rf dk0 dk0 rf (ye_move (c := .slice _ _ _) rf) ?_
      refine WH_take 5 dk0 rf dk0 dk0 rf (ye_loadN rf Tryz.isAgg47 Tryz.sizeOf47 (Mem.own (us := [.int .i64 _, .int .i64 _]) 1 rf rf) rf) ?_
      refine WH_pullL HL (by repeat (first | exact PulL.base | exact PulL.base1 | apply PulL.cons | apply PulL.app)) ?_
      refine WH_pullL HA (by repeat (first | exact PulL.base | exact PulL.base1 | apply PulL.cons | apply PulL.app)) ?_
      refine WH_pullL HX (by repeat (first | exact PulL.base | exact PulL.base1 | apply PulL.cons | apply PulL.app)) ?_
      refine WH_pullL JJ (by repeat (first | exact PulL.base | exact PulL.base1 | apply PulL.cons | apply PulL.app)) ?_
      refine WH_pull (b1, CB [.slice a1 c.n p1, .slice a2 c.inn.length p2, .int .i64 c.st] 24) zu ?_
      refine WH_pull (bx, CB [.int .i64 (f : Int), .int .i64 (t : Int)] 47) zu ?_
      refine WH_pull (bd, CB (Bl.cells c (⟨X2, z1, q1, z2, q2⟩ : Bl)) 24) zu ?_
      exact WH_of hX rf dk0 (J  _ _ s10 (HSub.sub (by repeat (first | exact List.nil_sublist _ | exact List.Sublist.refl _ | exact List.sublist_append_left _ _ | apply List.Sublist.cons_cons | apply List.Sublist.append_left))))
    ·
     try simp only [qz1, qz2, qz3, qz4, qz5, qz6, qz7, qz8] at c13
     refine W_skip ?_
     refine InB_normal ?_
     refine zT fun ds => ?_
     refine zD hF (y_add rf rf ui) ?_
     refine zm (.int .i64 _) hF ?_
     refine WS_nil ?_
     exact Loop_next (k + 1) om0 s10 sbA om0
  ·
   try simp only [qz1, qz2, qz3, qz4, qz5, qz6, qz7, qz8] at c7
   refine W_exit ?_
   refine Then_exit ?_
   refine Loop_exit ?_
   refine InB_same ?_
   refine InB_normal ?_
   refine zT fun ds => ?_
   refine zD hF (y_add rf rf ui) ?_
   refine zm (.int .i64 _) hF ?_
   refine WS_nil ?_
   exact Loop_next (i + 1, ps, bs, (aA, kA, HA), (aL, kL, HL), HX) ⟨by simp only; omega, by simp only; omega, hS⟩ s10 sbA (by simp only; omega)
 ·
  try simp only [qz1, qz2, qz3, qz4, qz5, qz6, qz7, qz8] at c4
  refine W_exit ?_
  refine Then_exit ?_
  refine Loop_exit ?_
  refine InB_same ?_
  refine zS fun ds => ?_
  refine zm (.slice _ _ _) hF ?_
  refine zm (.slice _ _ _) hF ?_
  refine za (.slice _ _ _) hF ?_
  refine za (.slice _ _ _) hF ?_
  refine zN ?_
  refine W_ret ?_
  refine Fin_ret [.slice _ _ _, .slice _ _ _] (HX ++ (HA ++ HL)) Tryz.results17 ⟨by rfl, by rfl, trivial⟩ (HSub.sub sbA) ?_
  exact ⟨ps, bs, aA, kA, HA, aL, kL, HL, HX, rfl, by omega, hS, rfl⟩
set_option maxHeartbeats 4000000
theorem a_ep59_0 {x_0 : Int} {x_1 : Int} : ∀ w, (part 3 #[.int .i64 x_0, .int .i64 x_1] 0).run Tryz.prog w = .ok (.int .i64 x_0) w := fun w => by kernel_rfl
theorem a_ep59_1 {x_0 : Int} {x_1 : Int} : ∀ w, (part 3 #[.int .i64 x_0, .int .i64 x_1] 1).run Tryz.prog w = .ok (.int .i64 x_1) w := fun w => by kernel_rfl
theorem a_ep90_0 {x_0 : Int} {x_1 : Int} {x_2 : Int} {x_3 : Int} : ∀ w, (part 3 #[.int .i64 x_0, .int .i64 x_1, .int .i64 x_2, .int .i64 x_3] 0).run Tryz.prog w = .ok (.int .i64 x_0) w := fun w => by kernel_rfl
theorem a_ep90_1 {x_0 : Int} {x_1 : Int} {x_2 : Int} {x_3 : Int} : ∀ w, (part 3 #[.int .i64 x_0, .int .i64 x_1, .int .i64 x_2, .int .i64 x_3] 1).run Tryz.prog w = .ok (.int .i64 x_1) w := fun w => by kernel_rfl
theorem a_ep90_2 {x_0 : Int} {x_1 : Int} {x_2 : Int} {x_3 : Int} : ∀ w, (part 59 #[.int .i64 x_0, .int .i64 x_1, .int .i64 x_2, .int .i64 x_3] 2).run Tryz.prog w = .ok (.agg #[.int .i64 x_2, .int .i64 x_3]) w := fun w => by kernel_rfl
theorem a_gneqA90 {x y : Operand} {x_0 : Int} {x_1 : Int} {x_2 : Int} {x_3 : Int} {y_0 : Int} {y_1 : Int} {y_2 : Int} {y_3 : Int} : ∀ w, (eqGuard .neq 90 x y (.agg #[.int .i64 x_0, .int .i64 x_1, .int .i64 x_2, .int .i64 x_3]) (.agg #[.int .i64 y_0, .int .i64 y_1, .int .i64 y_2, .int .i64 y_3])).run Tryz.prog w = .ok () w := fun w => by kernel_rfl
theorem a_st59 : Tryz.prog.stoodInHeld 59 = false := by kernel_rfl
theorem a_st90 : Tryz.prog.stoodInHeld 90 = false := by kernel_rfl
theorem eq59_9999 {x_0 : Int} {x_1 : Int} {y_0 : Int} {y_1 : Int} : ∀ w, (Op.equalIn 9999 59 (.agg #[.int .i64 x_0, .int .i64 x_1]) (.agg #[.int .i64 y_0, .int .i64 y_1])).run Tryz.prog w = .ok (ieq x_0 y_0 && ieq x_1 y_1) w := fun w => by
 unfold Op.equalIn
 rw [Sem.run_bind, Tryz.runUnderlying59]
 simp [a_st59, a_ep59_0, eq_int (d := 9997) Tryz.runUnderlying3, a_ep59_1, eq_int (d := 9997) Tryz.runUnderlying3]
 generalize ieq x_0 y_0 = b0
 generalize ieq x_1 y_1 = b1
 cases b0 <;> cases b1 <;> simp
theorem eq90 {x_0 : Int} {x_1 : Int} {x_2 : Int} {x_3 : Int} {y_0 : Int} {y_1 : Int} {y_2 : Int} {y_3 : Int} : ∀ w, (Op.equalIn Op.maxDepth 90 (.agg #[.int .i64 x_0, .int .i64 x_1, .int .i64 x_2, .int .i64 x_3]) (.agg #[.int .i64 y_0, .int .i64 y_1, .int .i64 y_2, .int .i64 y_3])).run Tryz.prog w = .ok (ieq x_0 y_0 && ieq x_1 y_1 && ieq x_2 y_2 && ieq x_3 y_3) w := fun w => by
 unfold Op.maxDepth Op.equalIn
 rw [Sem.run_bind, Tryz.runUnderlying90]
 simp [a_st90, a_ep90_0, eq_int (d := 9998) Tryz.runUnderlying3, a_ep90_1, eq_int (d := 9998) Tryz.runUnderlying3, a_ep90_2, eq59_9999]
 generalize ieq x_0 y_0 = b0
 generalize ieq x_1 y_1 = b1
 generalize ieq x_2 y_2 = b2
 generalize ieq x_3 y_3 = b3
 cases b0 <;> cases b1 <;> cases b2 <;> cases b3 <;> simp
theorem bs22_12_0_1_2_3_4_5_6_7_8_9_10_11 {x0 : Int} {x1 : Int} {x2 : Int} {x3 : Int} {x4 : Int} {x5 : Int} {x6 : Int} {x7 : Int} {x8 : Int} {x9 : Int} {x10 : Int} {x11 : Int} : ∀ w, (Instr.buildSlice 22 12 #[(0, .int .i64 x0), (1, .int .i64 x1), (2, .int .i64 x2), (3, .int .i64 x3), (4, .int .i64 x4), (5, .int .i64 x5), (6, .int .i64 x6), (7, .int .i64 x7), (8, .int .i64 x8), (9, .int .i64 x9), (10, .int .i64 x10), (11, .int .i64 x11)]).run Tryz.prog w = .ok (.slice (some ⟨w.heap.size, 0, none⟩) 12 12) (w.alloc (CB [.int .i64 x0, .int .i64 x1, .int .i64 x2, .int .i64 x3, .int .i64 x4, .int .i64 x5, .int .i64 x6, .int .i64 x7, .int .i64 x8, .int .i64 x9, .int .i64 x10, .int .i64 x11] 3)) := fun w => by kernel_rfl
theorem bs22_4_0_1_2_3 {x0 : Int} {x1 : Int} {x2 : Int} {x3 : Int} : ∀ w, (Instr.buildSlice 22 4 #[(0, .int .i64 x0), (1, .int .i64 x1), (2, .int .i64 x2), (3, .int .i64 x3)]).run Tryz.prog w = .ok (.slice (some ⟨w.heap.size, 0, none⟩) 4 4) (w.alloc (CB [.int .i64 x0, .int .i64 x1, .int .i64 x2, .int .i64 x3] 3)) := fun w => by kernel_rfl
theorem bs22_6_0_1_2_3_4_5 {x0 : Int} {x1 : Int} {x2 : Int} {x3 : Int} {x4 : Int} {x5 : Int} : ∀ w, (Instr.buildSlice 22 6 #[(0, .int .i64 x0), (1, .int .i64 x1), (2, .int .i64 x2), (3, .int .i64 x3), (4, .int .i64 x4), (5, .int .i64 x5)]).run Tryz.prog w = .ok (.slice (some ⟨w.heap.size, 0, none⟩) 6 6) (w.alloc (CB [.int .i64 x0, .int .i64 x1, .int .i64 x2, .int .i64 x3, .int .i64 x4, .int .i64 x5] 3)) := fun w => by kernel_rfl
theorem bs22_8_0_1_2_3_4_5_6_7 {x0 : Int} {x1 : Int} {x2 : Int} {x3 : Int} {x4 : Int} {x5 : Int} {x6 : Int} {x7 : Int} : ∀ w, (Instr.buildSlice 22 8 #[(0, .int .i64 x0), (1, .int .i64 x1), (2, .int .i64 x2), (3, .int .i64 x3), (4, .int .i64 x4), (5, .int .i64 x5), (6, .int .i64 x6), (7, .int .i64 x7)]).run Tryz.prog w = .ok (.slice (some ⟨w.heap.size, 0, none⟩) 8 8) (w.alloc (CB [.int .i64 x0, .int .i64 x1, .int .i64 x2, .int .i64 x3, .int .i64 x4, .int .i64 x5, .int .i64 x6, .int .i64 x7] 3)) := fun w => by kernel_rfl
theorem neqA90 {x y : Operand} {x_0 : Int} {x_1 : Int} {x_2 : Int} {x_3 : Int} {y_0 : Int} {y_1 : Int} {y_2 : Int} {y_3 : Int} : ∀ w, ((do eqGuard .neq 90 x y (.agg #[.int .i64 x_0, .int .i64 x_1, .int .i64 x_2, .int .i64 x_3]) (.agg #[.int .i64 y_0, .int .i64 y_1, .int .i64 y_2, .int .i64 y_3]); binOp .neq 90 (.agg #[.int .i64 x_0, .int .i64 x_1, .int .i64 x_2, .int .i64 x_3]) (.agg #[.int .i64 y_0, .int .i64 y_1, .int .i64 y_2, .int .i64 y_3])) : Sem Value).run Tryz.prog w = .ok (.bool (!(ieq x_0 y_0 && ieq x_1 y_1 && ieq x_2 y_2 && ieq x_3 y_3))) w := eq_topN a_gneqA90 eq90
theorem k_farv : Value.tuple #[.int .i64 (if b35.okB then (b35.farT b35.madeL.length).1 else 0), .int .i64 (if b35.okB then (b35.farT b35.madeL.length).2 else 0), .int .i64 b35.err] = .tuple #[.int .i64 4, .int .i64 6, .int .i64 0] := by
 rw [if_pos dc, if_pos dc, k_far]; rfl
theorem k_hlpv : Value.tuple #[.int .i64 (if b35.hpE 4 = 0 then (minH (b35.hpL 4 20)).s else 0), .int .i64 (if b35.hpE 4 = 0 then (minH (b35.hpL 4 20)).m else 0), .int .i64 (b35.hpE 4)] = .tuple #[.int .i64 1, .int .i64 2, .int .i64 0] := by
 rw [if_pos k_help.1, if_pos k_help.1, k_help.1, k_help.2]
theorem AskA.lit {e : Int} {o : Option Wy} {w : Wy} {v : Value} {Hn : List Blk} (h : AskA e o v Hn) (he : e = 0) (ho : o = some w) : ∃ a k, v = .tuple #[.slice a w.l.length k, .int .i64 w.back, .int .i64 0] ∧ ∀ (C : Ctx) (H : List Blk) (u : World), Hn.Sublist H → St C H u → Pos u a w.l.length k w.l := by
 subst he ho
 obtain ⟨v0, rfl, a, k, rfl, h⟩ := h
 exact ⟨a, k, rfl, h⟩
def bg0 : Cn := ⟨[3, 5], [0, 0], 10⟩
theorem k_begE : begE logL [3, 5] = 0 := by kernel_rfl
theorem k_begC : begC logL [3, 5] = bg0 := by kernel_rfl
def wp2 : List Po := [⟨0, 2⟩, ⟨2, 1⟩]
def wrtL : Lg := ⟨tunT, ⟨20, 40⟩, [⟨0, 1, ⟨10, 15⟩⟩, ⟨3, 3, ⟨18, 20⟩⟩, ⟨5, 2, ⟨10, 20⟩⟩, ⟨5, 3, ⟨12, 16⟩⟩, ⟨5, 2, ⟨5, 5⟩⟩]⟩
theorem k_wtE : wtE logL bg0 wp2 = 0 := by kernel_rfl
theorem k_wtL : wtL logL bg0 wp2 = wrtL := by kernel_rfl
theorem bef_three {bs : List Bl} (h : bs.map Bl.x = befL) : ∃ y0 y1 y2, bs = [y0, y1, y2] ∧ y2.x = ⟨18, 2, 0, 0⟩ := by
 have hl : bs.length = 3 := by have := congrArg List.length h; simpa [befL] using this
 obtain ⟨y0, y1, y2, rfl⟩ : ∃ y0 y1 y2, bs = [y0, y1, y2] := by
  match bs, hl with
  | [a, b, c], _ => exact ⟨a, b, c, rfl⟩
 unfold befL at h
 simp only [List.map_cons, List.map_nil, List.cons.injEq, and_true] at h
 exact ⟨y0, y1, y2, rfl, h.2.2⟩
theorem calive_any (w : World) (hG : Gv w) : Ct Tryz.prog 13 #[] w fun v _ => v = .bool true := by
 have hF := wide_wide
 refine Ct_start (args := []) Tryz.func13 rf Tryz.ntmps13 rf ?_
 refine zR fun ds => ?_
 refine za (.bool _) hF ?_
 refine zP fun ds => ?_
 refine WS_newS hF rf (y_buildSliceL bs22_2_0_1 rf) (fun sz => ?_)
 refine WS_gen hF rf (y_callL rf rf Tryz.call43 (fun w hw => l8bench_any 20 [3, 5] _ _ w dc)) ?_
 rintro _ Hz ⟨z, q, rfl, hz⟩
 refine WS_back ?_
 refine zD hF (y_callL rf rf Tryz.call16 (fun w hw => Ct_eq (many_any b35 _ _ _ _ w (hG.st w hw) dc dc (Ints.mem (rest := []) 0 rf rf dc w hw) (NewRow.ints hz rfl sbA w hw)) k_many)) ?_
 refine zm (.tuple _) hF ?_
 refine zD hF (y_extract (c := .int .i64 _) rf rf) ?_
 refine zD hF (y_extract (c := .int .i64 _) rf rf) ?_
 refine za (.int .i64 _) hF ?_
 refine za (.int .i64 _) hF ?_
 refine zO ?_
 refine W_sub HSub.nil ?_
 refine W_region_lit (fun ds => ?_)
 refine WS_newS hF rf (y_buildSliceL bs22_2_0_1 rf) (fun sz => ?_)
 refine WS_gen hF rf (y_callL rf rf Tryz.call43 (fun w hw => l8bench_any 20 [4, 6] _ _ w dc)) ?_
 rintro _ Hz ⟨z, q, rfl, hz⟩
 refine WS_back ?_
 refine WS_gen hF rf (y_callL rf rf Tryz.call15 (fun w hw => made_any b46 _ _ _ _ w (hG.st w hw) dc dc (Ints.mem (rest := []) 0 rf rf dc w hw) (NewRow.ints hz rfl sbA w hw))) ?_
 rintro _ Hm ⟨ma, mc, rfl, hm⟩
 rw [k_made] at hm ⊢
 rw [show b46.err = 0 from rfl]
 refine WS_back ?_
 refine zm (.tuple _) hF ?_
 refine zD hF (y_extract (c := .slice _ _ _) rf rf) ?_
 refine zD hF (y_extract (c := .int .i64 _) rf rf) ?_
 refine za (.slice _ _ _) hF ?_
 refine za (.int .i64 _) hF ?_
 refine zO ?_
 refine W_sub (HSub.sub (Hn := Hm) sbA) ?_
 refine W_region_lit (fun ds => ?_)
 refine WS_newS hF rf (y_buildSliceL bs22_2_0_1 rf) (fun sz => ?_)
 refine WS_gen hF rf (y_callL rf rf Tryz.call43 (fun w hw => l8bench_any 20 [4, 6] _ _ w dc)) ?_
 rintro _ Hz ⟨z, q, rfl, hz⟩
 refine WS_back ?_
 refine zD hF (y_callL rf rf Tryz.call21 (fun w hw => Ct_eq (measure_any b46 _ _ _ _ w (hG.st w hw) dc dc (Ints.mem (rest := []) 0 rf rf dc w hw) (NewRow.ints hz rfl sbA w hw)) k_meas)) ?_
 refine zm (.tuple _) hF ?_
 refine zD hF (y_extract (c := .int .i64 _) rf rf) ?_
 refine zD hF (y_extract (c := .int .i64 _) rf rf) ?_
 refine za (.int .i64 _) hF ?_
 refine za (.int .i64 _) hF ?_
 refine zO ?_
 refine W_sub (HSub.sub (Hn := Hm) sbA) ?_
 refine W_region_lit (fun ds => ?_)
 refine WS_newS hF rf (y_buildSliceL bs22_2_0_1 rf) (fun sz => ?_)
 refine WS_gen hF rf (y_callL rf rf Tryz.call43 (fun w hw => l8bench_any 20 [3, 5] _ _ w dc)) ?_
 rintro _ Hz ⟨z, q, rfl, hz⟩
 refine WS_back ?_
 refine WS_gen hF rf (y_callL rf rf Tryz.call19 (fun w hw => cleast_any b35 _ _ _ _ 4 w (hG.st w hw) dc dc (Ints.mem (rest := []) 0 rf rf dc w hw) (NewRow.ints hz rfl sbA w hw))) ?_
 rintro _ L4 hA
 obtain ⟨la, lk, rfl, hP4⟩ := hA.lit k_e4 k_l4
 refine WS_back ?_
 refine zm (.tuple _) hF ?_
 refine zD hF (y_extract (c := .slice _ _ _) rf rf) ?_
 refine zD hF (y_extract (c := .int .i64 _) rf rf) ?_
 refine zD hF (y_extract (c := .int .i64 _) rf rf) ?_
 refine za (.slice _ _ _) hF ?_
 refine za (.int .i64 _) hF ?_
 refine za (.int .i64 _) hF ?_
 refine zO ?_
 refine W_sub (HSub.sub (Hn := Hm ++ L4) sbA) ?_
 refine W_region_lit (fun ds => ?_)
 refine WS_newS hF rf (y_buildSliceL bs22_2_0_1 rf) (fun sz => ?_)
 refine WS_gen hF rf (y_callL rf rf Tryz.call43 (fun w hw => l8bench_any 20 [3, 5] _ _ w dc)) ?_
 rintro _ Hz ⟨z, q, rfl, hz⟩
 refine WS_back ?_
 refine WS_gen hF rf (y_callL rf rf Tryz.call19 (fun w hw => cleast_any b35 _ _ _ _ 1 w (hG.st w hw) dc dc (Ints.mem (rest := []) 0 rf rf dc w hw) (NewRow.ints hz rfl sbA w hw))) ?_
 rintro _ L1 hA
 obtain ⟨la1, lk1, rfl, hP1⟩ := hA.lit k_e1 k_l1
 refine WS_back ?_
 refine zm (.tuple _) hF ?_
 refine zD hF (y_extract (c := .slice _ _ _) rf rf) ?_
 refine zD hF (y_extract (c := .int .i64 _) rf rf) ?_
 refine zD hF (y_extract (c := .int .i64 _) rf rf) ?_
 refine za (.slice _ _ _) hF ?_
 refine za (.int .i64 _) hF ?_
 refine za (.int .i64 _) hF ?_
 refine zO ?_
 refine W_sub (HSub.sub (Hn := Hm ++ (L4 ++ L1)) sbA) ?_
 refine W_region_lit (fun ds => ?_)
 refine WS_newS hF rf (y_buildSliceL bs22_2_0_1 rf) (fun sz => ?_)
 refine WS_gen hF rf (y_callL rf rf Tryz.call43 (fun w hw => l8bench_any 20 [3, 5] _ _ w dc)) ?_
 rintro _ Hz ⟨z, q, rfl, hz⟩
 refine WS_back ?_
 refine WS_gen hF rf (y_callL rf rf Tryz.call40 (fun w hw => ctotal_any b35 _ _ _ _ 6 w (hG.st w hw) dc dc (Ints.mem (rest := []) 0 rf rf dc w hw) (NewRow.ints hz rfl sbA w hw))) ?_
 rintro _ L6 hA
 obtain ⟨la6, lk6, rfl, hP6⟩ := hA.lit k_e6 k_t6
 refine WS_back ?_
 refine zm (.tuple _) hF ?_
 refine zD hF (y_extract (c := .slice _ _ _) rf rf) ?_
 refine zD hF (y_extract (c := .int .i64 _) rf rf) ?_
 refine zD hF (y_extract (c := .int .i64 _) rf rf) ?_
 refine za (.slice _ _ _) hF ?_
 refine za (.int .i64 _) hF ?_
 refine za (.int .i64 _) hF ?_
 refine zO ?_
 refine W_sub (HSub.sub (Hn := Hm ++ (L4 ++ (L1 ++ L6))) sbA) ?_
 refine W_region_lit (fun ds => ?_)
 refine WS_newS hF rf (y_buildSliceL bs22_2_0_1 rf) (fun sz => ?_)
 refine WS_gen hF rf (y_callL rf rf Tryz.call43 (fun w hw => l8bench_any 20 [3, 5] _ _ w dc)) ?_
 rintro _ Hz ⟨z, q, rfl, hz⟩
 refine WS_back ?_
 refine zD hF (y_callL rf rf Tryz.call26 (fun w hw => Ct_eq (far_any b35 _ _ _ _ w (hG.st w hw) dc dc (Ints.mem (rest := []) 0 rf rf dc w hw) (NewRow.ints hz rfl sbA w hw)) k_farv)) ?_
 refine zm (.tuple _) hF ?_
 refine zD hF (y_extract (c := .int .i64 _) rf rf) ?_
 refine zD hF (y_extract (c := .int .i64 _) rf rf) ?_
 refine zD hF (y_extract (c := .int .i64 _) rf rf) ?_
 refine za (.int .i64 _) hF ?_
 refine za (.int .i64 _) hF ?_
 refine za (.int .i64 _) hF ?_
 refine zO ?_
 refine W_sub (HSub.sub (Hn := Hm ++ (L4 ++ (L1 ++ L6))) sbA) ?_
 refine W_region_lit (fun ds => ?_)
 refine WS_newS hF rf (y_buildSliceL bs22_2_0_1 rf) (fun sz => ?_)
 refine WS_gen hF rf (y_callL rf rf Tryz.call43 (fun w hw => l8bench_any 20 [3, 5] _ _ w dc)) ?_
 rintro _ Hz ⟨z, q, rfl, hz⟩
 refine WS_back ?_
 refine zD hF (y_callL rf rf Tryz.call36 (fun w hw => Ct_eq (help_any b35 _ _ _ _ 4 w (hG.st w hw) dc dc (Ints.mem (rest := []) 0 rf rf dc w hw) (NewRow.ints hz rfl sbA w hw)) k_hlpv)) ?_
 refine zm (.tuple _) hF ?_
 refine zD hF (y_extract (c := .int .i64 _) rf rf) ?_
 refine zD hF (y_extract (c := .int .i64 _) rf rf) ?_
 refine zD hF (y_extract (c := .int .i64 _) rf rf) ?_
 refine za (.int .i64 _) hF ?_
 refine za (.int .i64 _) hF ?_
 refine za (.int .i64 _) hF ?_
 refine zO ?_
 refine W_sub (HSub.sub (Hn := Hm ++ (L4 ++ (L1 ++ L6))) sbA) ?_
 refine W_region_lit (fun ds => ?_)
 refine WS_newS hF rf (y_buildSliceL bs22_2_0_1 rf) (fun sz => ?_)
 refine WS_gen hF rf (y_callL rf rf Tryz.call43 (fun w hw => l8bench_any 17 [3, 5] _ _ w dc)) ?_
 rintro _ _ ⟨z, q, rfl, hz⟩
 obtain ⟨pb, pj, rfl, rfl, pl, ple⟩ := NewRow.head hz dc
 refine WS_back ?_
 refine WS_new hF rf (y_alloc Tryz.zeroValue24 rf) (fun bc => ?_)
 refine WS_store hF (us := [.slice _ _ _, .slice _ _ _, .int .i64 _]) (i := 0) rf rf Tryz.sizeOf24 rf rf rf d20 ?_
 refine zO ?_
 refine W_pull (pb, CB (iv (List.replicate [3, 5].length 0) ++ pj) 3) zu ?_
 refine W_region_lit (fun ds => ?_)
 refine zD hF (y_fieldAddr rf fa24_1) ?_
 refine zD hF (y_load1 rf Tryz.isAgg22 (Mem.own1 1 rf rf)) ?_
 refine zD hF (y_index (k := 0) rf rf r10 d10 Tryz.runUnderlying22 Tryz.sizeOf3) ?_
 refine WS_store hF (us := [.int .i64 _]) (i := 0) rf rf Tryz.sizeOf3 rf rf rf (fit_iv dc) ?_
 refine zO ?_
 rw [show splice (iv (List.replicate [3, 5].length 0) ++ pj) 0 [.int .i64 3] = iv [3, 0] ++ pj from splice_iv _ _ _ 0 dc]
 refine W_region_lit (fun ds => ?_)
 refine zD hF (y_loadN rf Tryz.isAgg24 Tryz.sizeOf24 (Mem.own (us := [.slice _ _ _, .slice _ _ _, .int .i64 _]) 1 rf rf) rf) ?_
 refine zD hF (y_buildL bd47_1 rf) ?_
 refine WS_gen hF rf (y_callL rf rf Tryz.call22 (fun w hw => cbefore_any bef0 _ _ _ _ ⟨0, 1⟩ w (hG.st w hw) dc dc (Ints.mem (rest := []) 2 rf rf dc w hw) (Ints.mem (rest := pj) 0 rf rf (by exact ple) w hw))) ?_
 rintro _ _ ⟨e0, bs, ba, bk, Hr, HX, rfl, hbf, hrow, hrd, hsh, rfl⟩
 obtain ⟨rfl, hbx⟩ := Cn.Bef.uniq hbf k_bef
 obtain ⟨y0, y1, ⟨x2, s2, ks2, i2, ki2⟩, rfl, rfl⟩ := bef_three hbx
 have hrd2 := hrd ⟨⟨18, 2, 0, 0⟩, s2, ks2, i2, ki2⟩ (by simp)
 obtain ⟨bb, rfl⟩ := NewRow.adr hrow (by simp)
 obtain ⟨bi, rfl⟩ : ∃ bi, i2 = some ⟨bi, 0, none⟩ := by
  rcases hrd2.oi with h | ⟨b, vs, h, _⟩
  ·cases (show (2 : Nat) = 0 from h)
  ·exact ⟨b, h⟩
 have hl3 : [y0, y1, (⟨⟨18, 2, 0, 0⟩, s2, ks2, some ⟨bi, 0, none⟩, ki2⟩ : Bl)].length = 3 := rfl
 have hl2 : (bef0.of (⟨⟨18, 2, 0, 0⟩, s2, ks2, some ⟨bi, 0, none⟩, ki2⟩ : Bl).x).inn.length = 2 := rfl
 refine WS_back ?_
 refine zm (.tuple _) hF ?_
 refine zD hF (y_extract (c := .slice _ _ _) rf rf) ?_
 refine zD hF (y_extract (c := .int .i64 _) rf rf) ?_
 refine za (.slice _ _ _) hF ?_
 refine za (.int .i64 _) hF ?_
 refine zO ?_
 refine W_sub (HSub.sub (Hn := Hm ++ (L4 ++ (L1 ++ (L6 ++ (HX ++ Hr))))) sbA) ?_
 refine W_region_lit (fun ds => ?_)
 refine WS_gen hF rf (y_callL rf rf Tryz.call46 (fun w hw => l8log_any w)) ?_
 rintro _ _ ⟨a1, cap1, ae1, cape1, Hp, He, rfl, hrp, hre, rfl⟩
 refine WS_back ?_
 refine WS_newS hF rf (y_buildSliceL bs22_2_0_1 rf) (fun s12 => ?_)
 refine WS_gen hF rf (y_callL rf rf Tryz.call29 (fun w hw => begin_any logL _ _ _ _ _ 2 2 [3, 5] w (hG.st w hw) dc dc (NewRow.ints hrp rfl sbA w hw) (NewRow.rws en_len hre rfl sbA w hw) (Ints.mem (rest := []) 0 rf rf dc w hw))) ?_
 rintro _ _ ⟨_, rfl, hT⟩
 rw [k_begC] at hT
 rw [k_begE]
 obtain ⟨z1, q1, z2, q2, G1, G2, rfl, g1, g2, rfl⟩ := hT
 refine WS_back ?_
 refine zm (.tuple _) hF ?_
 refine zD hF (y_extract (c := .agg _) rf rf) ?_
 refine zD hF (y_extract (c := .int .i64 _) rf rf) ?_
 refine WS_new hF rf (y_alloc Tryz.zeroValue24 rf) (fun bg => ?_)
 refine WS_store hF (us := [.slice _ _ _, .slice _ _ _, .int .i64 _]) (i := 0) rf rf Tryz.sizeOf24 rf rf rf d20 ?_
 refine za (.int .i64 _) hF ?_
 refine zO ?_
 refine W_sub (HSub.sub (Hn := (bg, _) :: (Hm ++ (L4 ++ (L1 ++ (L6 ++ (HX ++ (Hr ++ (G1 ++ G2)))))))) sbA) ?_
 refine W_draw0 hF Tryzmixed [27] dk0 (fun ds => ?_)
 refine P_new rf rf (Over_nil (y_callL rf rf Tryz.call46 (fun w hw => l8log_any w))) ?_
 refine P_det rf (Over_out rf (Over_nil (y_loadN rf Tryz.isAgg24 Tryz.sizeOf24 (Mem.own (us := [.slice _ _ _, .slice _ _ _, .int .i64 _]) 0 rf rf) rf))) ?_
 refine P_new rf rf (Over_out rf (Over_nil (y_buildSliceL bs22_4_0_1_2_3 rf))) ?_
 refine P_new rf rf (Over_in rf (Over_out rf (Over_nil (by rintro _ _ ⟨b2, rfl, rfl⟩; exact (y_callL rf rf Tryz.call44 (fun w hw => l8pours_any wp2 _ _ w dc (Ints.mem (rest := []) 0 rf rf dc w hw))))))) ?_
 refine P_new rf rf (Over_in rf (Over_out rf (Over_in rf (Over_nil (by intro vb4 l100 hb4; obtain ⟨c1, d1, c2, d2, Hp, He, rfl, hrp, hre, rfl⟩ := hb4; intro vb5 l103 hb5; obtain ⟨pa, pk, rfl, hpp⟩ := hb5; obtain ⟨HP, rfl⟩ : ∃ HP, HP = l103 := ⟨_, rfl⟩; exact (y_callL rf rf Tryz.call32 (fun w hw => written_any logL _ _ _ _ bg0 _ _ _ _ wp2 _ _ w (hG.st w hw) dc dc dc (NewRow.ints hrp rfl sbA w hw) (NewRow.rws en_len hre rfl sbA w hw) dc dc (NewRow.ints g1 rfl sbA w hw) (NewRow.ints g2 rfl sbA w hw) (NewRow.rws po_len hpp rfl sbA w hw)))))))) ?_
 refine P_ali [104] (fun e => e 104) rf rf rf (fun _ _ h => h 104 (List.mem_singleton.2 rfl)) (Over_in rf (Over_out rf (Over_out rf (Over_out rf (Over_nil (by intro vb7 l104 hb7; obtain ⟨_, rfl, hTW⟩ := hb7; rw [k_wtL] at hTW; rw [k_wtE]; obtain ⟨e1, f1, e2, f2, U1, U2, rfl, hu1, hu2, rfl⟩ := hTW; obtain ⟨bu, rfl⟩ := NewRow.adr hu2 dc; exact (YD0_of (y_move (c := .tuple _) rf)))))))) ?_
 refine P_ali [99] (fun e => tupAt (e 99) 0) rf rf rf (fun _ _ h => congrArg (tupAt · 0) (h 99 (List.mem_singleton.2 rfl))) (Over_in rf (Over_in rf (Over_out rf (Over_out rf (Over_out rf (Over_nil (by intro vb9 l104 hb9; obtain ⟨_, rfl, hTW⟩ := hb9; rw [k_wtL] at hTW; rw [k_wtE]; obtain ⟨e1, f1, e2, f2, U1, U2, rfl, hu1, hu2, rfl⟩ := hTW; obtain ⟨bu, rfl⟩ := NewRow.adr hu2 dc; rintro vb10 _ ⟨hvb10, rfl⟩; replace hvb10 : vb10 = .tuple _ := hvb10; subst hvb10; exact (YD0_of (y_extract (c := .agg _) rf rf))))))))) ?_
 refine P_ali [99] (fun e => tupAt (e 99) 1) rf rf rf (fun _ _ h => congrArg (tupAt · 1) (h 99 (List.mem_singleton.2 rfl))) (Over_out rf (Over_in rf (Over_in rf (Over_out rf (Over_out rf (Over_out rf (Over_nil (by intro vb12 l104 hb12; obtain ⟨_, rfl, hTW⟩ := hb12; rw [k_wtL] at hTW; rw [k_wtE]; obtain ⟨e1, f1, e2, f2, U1, U2, rfl, hu1, hu2, rfl⟩ := hTW; obtain ⟨bu, rfl⟩ := NewRow.adr hu2 dc; rintro vb13 _ ⟨hvb13, rfl⟩; replace hvb13 : vb13 = .tuple _ := hvb13; subst hvb13; exact (YD0_of (y_extract (c := .int .i64 _) rf rf)))))))))) ?_
 refine P_newSD 105 rf rf rf (Over_out rf (Over_out rf (Over_out rf (Over_out rf (Over_out rf (Over_out rf (Over_out rf (Over_nil (y_alloc Tryz.zeroValue62 rf))))))))) ?_
 refine P_st 27 0 rf rf rf rf rf (Over_out rf (Over_in rf (Over_in rf (Over_in rf (Over_out rf (Over_out rf (Over_out rf (Over_nil (by intro vb15 l104 hb15; obtain ⟨_, rfl, hTW⟩ := hb15; rw [k_wtL] at hTW; rw [k_wtE]; obtain ⟨e1, f1, e2, f2, U1, U2, rfl, hu1, hu2, rfl⟩ := hTW; obtain ⟨bu, rfl⟩ := NewRow.adr hu2 dc; rintro vb16 _ ⟨hvb16, rfl⟩; replace hvb16 : vb16 = .tuple _ := hvb16; subst hvb16; rintro vb17 _ ⟨hvb17, rfl⟩; replace hvb17 : vb17 = .agg _ := hvb17; subst hvb17; exact (st_newD rf rf Tryz.sizeOf62 rf rf d20)))))))))) ?_
 refine P_ali [106] (fun e => e 106) rf rf rf (fun _ _ h => h 106 (List.mem_singleton.2 rfl)) (Over_out rf (Over_in rf (Over_out rf (Over_in rf (Over_in rf (Over_out rf (Over_out rf (Over_out rf (Over_nil (by intro vb18 l104 hb18; obtain ⟨_, rfl, hTW⟩ := hb18; rw [k_wtL] at hTW; rw [k_wtE]; obtain ⟨e1, f1, e2, f2, U1, U2, rfl, hu1, hu2, rfl⟩ := hTW; obtain ⟨bu, rfl⟩ := NewRow.adr hu2 dc; rintro vb19 _ ⟨hvb19, rfl⟩; replace hvb19 : vb19 = .tuple _ := hvb19; subst hvb19; rintro vb20 _ ⟨hvb20, rfl⟩; replace hvb20 : vb20 = .int .i64 _ := hvb20; subst hvb20; exact (YD0_of (y_assign (c := .int .i64 _) rf)))))))))))) ?_
 refine PW_end rf ?_
 refine OverAll_cons (fun w28 l28 => ?_)
 refine OverAll_cons (fun w27 l27 => ?_)
 refine OverAll_cons (fun w106 l106 => ?_)
 refine OverAll_cons (fun w105 l105 => ?_)
 refine OverAll_cons (fun w99 l99 => ?_)
 refine OverAll_cons (fun w104 l104 => ?_)
 refine OverAll_cons (fun w103 l103 => ?_)
 refine OverAll_cons (fun w102 l102 => ?_)
 refine OverAll_cons (fun w100 l100 => ?_)
 refine OverAll_nil ?_
 rintro ⟨⟨⟨⟨⟨⟨⟨⟨⟨-, h28⟩, h27⟩, h106⟩, h105⟩, h99⟩, h104⟩, h103⟩, h102⟩, h100⟩
 obtain ⟨c1, d1, c2, d2, Hp, He, rfl, hrp, hre, rfl⟩ := h100
 obtain ⟨bw, rfl, rfl⟩ := h102
 obtain ⟨pa, pk, rfl, hpp⟩ := h103
 obtain ⟨HP, rfl⟩ : ∃ HP, HP = l103 := ⟨_, rfl⟩
 obtain ⟨_, rfl, hTW⟩ := h104
 rw [k_wtL] at hTW
 rw [k_wtE]
 obtain ⟨e1, f1, e2, f2, U1, U2, rfl, hu1, hu2, rfl⟩ := hTW
 obtain ⟨bu, rfl⟩ := NewRow.adr hu2 dc
 obtain ⟨h99, rfl⟩ := h99
 replace h99 : w99 = .tuple _ := h99
 subst h99
 obtain ⟨h105, rfl⟩ := h105
 replace h105 : w105 = .agg _ := h105
 subst h105
 obtain ⟨h106, rfl⟩ := h106
 replace h106 : w106 = .int .i64 _ := h106
 subst h106
 obtain ⟨h28, rfl⟩ := h28
 replace h28 : w28 = .int .i64 _ := h28
 subst h28
 obtain ⟨bl, rfl, rfl⟩ := h27
 refine Then_normal ?_
 refine W_seq ?_
 refine W_seq ?_
 refine W_pull (bg, CB [.slice z1 bg0.n q1, .slice z2 bg0.inn.length q2, .int .i64 10] 24) zu ?_
 refine W_pull (bl, CB [.slice e1 wrtL.tk.n f1, .int .i64 2, .int .i64 8, .int .i64 20, .int .i64 40, .slice (some ⟨bu, 0, none⟩) wrtL.es.length f2] 62) zu ?_
 refine W_sub (HSub.sub (Hn := (bl, _) :: (bg, _) :: (U2 ++ (Hm ++ (L4 ++ (L1 ++ (L6 ++ (HX ++ Hr))))))) sbA) ?_
 refine W_draw0 hF Tryzmixed [] dk0 (fun ds => ?_)
 refine P_det rf (Over_nil (y_move (c := .int .i64 _) rf)) ?_
 refine P_det rf (Over_nil (y_neqF rf rf)) ?_
 refine P_det rf (Over_nil (y_move (c := .bool _) rf)) ?_
 refine P_det rf (Over_nil (y_fieldAddr rf fa62_2)) ?_
 refine P_det rf (Over_nil (y_load1 rf Tryz.isAgg60 (Mem.own1 0 rf rf))) ?_
 refine P_det rf (Over_nil (y_len rf Tryz.runUnderlying60)) ?_
 refine P_det rf (Over_nil (y_neqF rf rf)) ?_
 refine P_det rf (Over_nil (by first | exact y_pick_t (c := .bool _) rf rf | exact y_pick_f (c := .bool _) rf rf)) ?_
 refine P_det rf (Over_nil (y_move (c := .bool _) rf)) ?_
 refine P_det rf (Over_nil (y_fieldAddr rf fa62_2)) ?_
 refine P_det rf (Over_nil (y_load1 rf Tryz.isAgg60 (Mem.own1 0 rf rf))) ?_
 refine P_det rf (Over_nil (y_index (k := 4) rf rf r10 d10 Tryz.runUnderlying60 Tryz.sizeOf90)) ?_
 refine P_det rf (Over_nil (y_loadN rf Tryz.isAgg90 Tryz.sizeOf90 (fun w hw => (show At w bu (0 + 4 * 4) [.int .i64 5, .int .i64 2, .int .i64 5, .int .i64 5] from (NewRow.rws en_len hu2 rfl sbA w hw).at (k := 4) dc)) rf)) ?_
 refine P_det rf (Over_nil (y_callL rf rf Tryz.call35 (fun w hw => l8span_any _ _ w))) ?_
 refine P_det rf (Over_nil (y_buildL bd90_0_1_2 rf)) ?_
 refine P_det rf (Over_nil (y_neqlAF rf rf neqA90 (by simp only [ieq_self, Bool.and_self, Bool.not_true]))) ?_
 refine P_det rf (Over_nil (by first | exact y_pick_t (c := .bool _) rf rf | exact y_pick_f (c := .bool _) rf rf)) ?_
 refine PW_end rf ?_
 refine OverAll_nil ?_
 rintro -
 refine Then_normal ?_
 refine W_cond rf (fun c14 => ?_) (fun c14 => ?_)
 ·cases c14
 ·
  try simp only [qz1, qz2, qz3, qz4, qz5, qz6, qz7, qz8] at c14
  refine W_skip ?_
  refine zS fun ds => ?_
  refine zm (.int .i64 _) hF ?_
  refine zD hF (y_eqlT rf rf) ?_
  refine zm (.bool _) hF ?_
  refine zm (.int .i64 _) hF ?_
  refine zD hF (y_eqlT rf rf) ?_
  refine zD hF (zpk (.bool _)) ?_
  refine zm (.bool _) hF ?_
  refine zm (.int .i64 _) hF ?_
  refine zD hF (y_eqlT rf rf) ?_
  refine zD hF (zpk (.bool _)) ?_
  refine zm (.bool _) hF ?_
  refine zm (.slice _ _ _) hF ?_
  refine WS_newS hF rf (y_buildSliceL bs22_4_0_1_2_3 rf) (fun k1 => ?_)
  refine zD hF (y_callL rf rf Tryz.call23 (fun w hw => Ct_eq (c' := .bool true) (sameInts2_any _ _ _ _ _ _ [0, 2, 4, 6] [0, 2, 4, 6] w dc (NewRow.ints hm rfl sbA w hw) (Ints.mem (rest := []) 0 rf rf dc w hw)) (by simp))) ?_
  refine zD hF (zpk (.bool _)) ?_
  refine zm (.bool _) hF ?_
  refine zm (.int .i64 _) hF ?_
  refine zD hF (y_eqlT rf rf) ?_
  refine zD hF (zpk (.bool _)) ?_
  refine zm (.bool _) hF ?_
  refine zm (.int .i64 _) hF ?_
  refine zD hF (y_eqlT rf rf) ?_
  refine zD hF (zpk (.bool _)) ?_
  refine zm (.bool _) hF ?_
  refine zm (.int .i64 _) hF ?_
  refine zD hF (y_eqlT rf rf) ?_
  refine zD hF (zpk (.bool _)) ?_
  refine zm (.bool _) hF ?_
  refine zm (.int .i64 _) hF ?_
  refine zD hF (y_eqlT rf rf) ?_
  refine zD hF (zpk (.bool _)) ?_
  refine zm (.bool _) hF ?_
  refine zm (.slice _ _ _) hF ?_
  refine WS_newS hF rf (y_buildSliceL bs22_12_0_1_2_3_4_5_6_7_8_9_10_11 rf) (fun k2 => ?_)
  refine WS_gen hF rf (y_callL rf rf Tryz.call44 (fun w hw => l8pours_any w4.l _ _ w dc (Ints.mem (rest := []) 0 rf rf dc w hw))) ?_
  rintro _ HP ⟨p9, q9, rfl, hpp⟩
  refine WS_back ?_
  refine zD hF (y_callL rf rf Tryz.call45 (fun w hw => samePo_any w4.l _ _ _ _ w dc (hP4 _ _ w sbA hw) (NewRow.rws po_len hpp rfl sbA w hw))) ?_
  refine zD hF (zpk (.bool _)) ?_
  refine zm (.bool _) hF ?_
  refine zm (.int .i64 _) hF ?_
  refine zD hF (y_eqlT rf rf) ?_
  refine zD hF (zpk (.bool _)) ?_
  refine zm (.bool _) hF ?_
  refine zm (.int .i64 _) hF ?_
  refine zD hF (y_eqlT rf rf) ?_
  refine zD hF (zpk (.bool _)) ?_
  refine zm (.bool _) hF ?_
  refine zm (.slice _ _ _) hF ?_
  refine WS_newS hF rf (y_buildSliceL bs22_8_0_1_2_3_4_5_6_7 rf) (fun k3 => ?_)
  refine WS_gen hF rf (y_callL rf rf Tryz.call44 (fun w hw => l8pours_any w1.l _ _ w dc (Ints.mem (rest := []) 0 rf rf dc w hw))) ?_
  rintro _ HP ⟨p9, q9, rfl, hpp⟩
  refine WS_back ?_
  refine zD hF (y_callL rf rf Tryz.call45 (fun w hw => samePo_any w1.l _ _ _ _ w dc (hP1 _ _ w sbA hw) (NewRow.rws po_len hpp rfl sbA w hw))) ?_
  refine zD hF (zpk (.bool _)) ?_
  refine zm (.bool _) hF ?_
  refine zm (.int .i64 _) hF ?_
  refine zD hF (y_eqlT rf rf) ?_
  refine zD hF (zpk (.bool _)) ?_
  refine zm (.bool _) hF ?_
  refine zm (.slice _ _ _) hF ?_
  refine WS_newS hF rf (y_buildSliceL bs22_6_0_1_2_3_4_5 rf) (fun k4 => ?_)
  refine WS_gen hF rf (y_callL rf rf Tryz.call44 (fun w hw => l8pours_any w6.l _ _ w dc (Ints.mem (rest := []) 0 rf rf dc w hw))) ?_
  rintro _ HP ⟨p9, q9, rfl, hpp⟩
  refine WS_back ?_
  refine zD hF (y_callL rf rf Tryz.call45 (fun w hw => samePo_any w6.l _ _ _ _ w dc (hP6 _ _ w sbA hw) (NewRow.rws po_len hpp rfl sbA w hw))) ?_
  refine zD hF (zpk (.bool _)) ?_
  refine zm (.bool _) hF ?_
  refine zm (.int .i64 _) hF ?_
  refine zD hF (y_eqlT rf rf) ?_
  refine zD hF (zpk (.bool _)) ?_
  refine zm (.bool _) hF ?_
  refine zm (.int .i64 _) hF ?_
  refine zD hF (y_eqlT rf rf) ?_
  refine zD hF (zpk (.bool _)) ?_
  refine zm (.bool _) hF ?_
  refine zm (.int .i64 _) hF ?_
  refine zD hF (y_eqlT rf rf) ?_
  refine zD hF (zpk (.bool _)) ?_
  refine zm (.bool _) hF ?_
  refine zm (.int .i64 _) hF ?_
  refine zD hF (y_eqlT rf rf) ?_
  refine zD hF (zpk (.bool _)) ?_
  refine zm (.bool _) hF ?_
  refine zm (.int .i64 _) hF ?_
  refine zD hF (y_eqlT rf rf) ?_
  refine zD hF (zpk (.bool _)) ?_
  refine zm (.bool _) hF ?_
  refine zm (.int .i64 _) hF ?_
  refine zD hF (y_eqlT rf rf) ?_
  refine zD hF (zpk (.bool _)) ?_
  refine zm (.bool _) hF ?_
  refine zm (.int .i64 _) hF ?_
  refine zD hF (y_eqlT rf rf) ?_
  refine zD hF (zpk (.bool _)) ?_
  refine zm (.bool _) hF ?_
  refine zm (.slice _ _ _) hF ?_
  refine zD hF (y_len rf Tryz.runUnderlying34) ?_
  refine zD hF (y_eqlT rf rf) ?_
  refine zD hF (zpk (.bool _)) ?_
  refine zm (.bool _) hF ?_
  refine zm (.slice _ _ _) hF ?_
  refine zD hF (y_index (k := 2) rf rf r10 d10 Tryz.runUnderlying34 Tryz.sizeOf24) ?_
  refine zD hF (y_fieldAddr rf fa24_2) ?_
  refine zD hF (y_load1 rf Tryz.isAgg3 (fun w hw => ⟨((NewRow.rws (bl_len bef0) hrow rfl sbA w hw).at (k := 2) (by simp)).2.2.1, trivial⟩)) ?_
  refine zD hF (y_eqlT rf rf) ?_
  refine zD hF (zpk (.bool _)) ?_
  refine zm (.bool _) hF ?_
  refine zm (.slice _ _ _) hF ?_
  refine zD hF (y_index (k := 2) rf rf r10 d10 Tryz.runUnderlying34 Tryz.sizeOf24) ?_
  refine zD hF (y_fieldAddr rf fa24_1) ?_
  refine zD hF (y_load1 rf Tryz.isAgg22 (fun w hw => ⟨((NewRow.rws (bl_len bef0) hrow rfl sbA w hw).at (k := 2) (by simp)).2.1, trivial⟩)) ?_
  refine zD hF (y_index (k := 0) rf rf rf (show 0 < 2 by decide) Tryz.runUnderlying22 Tryz.sizeOf3) ?_
  refine zD hF (y_load1 rf Tryz.isAgg3 (fun w hw => (hrd2.i _ _ w sbA hw).at (k := 0) om0)) ?_
  refine zD hF (y_eqlT rf rf) ?_
  refine zD hF (zpk (.bool _)) ?_
  refine zm (.bool _) hF ?_
  refine zm (.int .i64 _) hF ?_
  refine zD hF (y_eqlT rf rf) ?_
  refine zD hF (zpk (.bool _)) ?_
  refine zm (.bool _) hF ?_
  refine zD hF (y_fieldAddr rf fa24_2) ?_
  refine zD hF (y_load1 rf Tryz.isAgg3 (Mem.own1 5 rf rf)) ?_
  refine zD hF (y_eqlT rf rf) ?_
  refine zD hF (zpk (.bool _)) ?_
  refine za (.bool _) hF ?_
  refine zN ?_
  refine W_ret ?_
  refine Fin_ret [.bool _] [] Tryz.results13 ⟨by rfl, trivial⟩ HSub.nil ?_
  rfl
set_option maxHeartbeats 1000000
section
variable {c : Cn} {B0 : Bl} {ps : List Po} {bs : List Bl} {aA : Option Addr} {kA : Nat} {HA : List Blk} {aL : Option Addr} {kL : Nat} {HL HX : List Blk}
theorem WkS.get (h : WkS c B0 ps bs aA kA HA aL kL HL HX) (h0 : B0.x = c.co) {k : Nat} (hk : k ≤ bs.length) : ∃ y : Bl, y = (B0 :: bs).getD k Bl.z ∧ y.x = c.runK ps k ∧ (y = B0 ∨ y.RdH c HX) := by
 refine ⟨_, rfl, h.at h0 hk, ?_⟩
 cases k with
 | zero => exact .inl rfl
 | succ k =>
  refine .inr (h.rd _ ?_)
  show bs.getD k Bl.z ∈ _
  rw [List.getD_eq_getElem?_getD, List.getElem?_eq_getElem om0]
  exact List.getElem_mem _
theorem WkS.cell {br : Nat} (h : WkS c B0 ps bs (some ⟨br, 0, none⟩) kA HA aL kL HL HX) {k : Nat} (hk : k ≤ bs.length) {y : Bl} (hy : y = (B0 :: bs).getD k Bl.z) {C : Ctx} {H : List Blk} (hs : HA.Sublist H) (w : World) (hw : St C H w) : At w br (0 + k * 3) [.slice y.s c.n y.ks, .slice y.i (c.of y.x).inn.length y.ki, .int .i64 y.x.a] := by
 rw [hy]; exact (NewRow.rws (bl_len c) h.rowA rfl hs w hw).at (k := k) (by simp; omega)
theorem WkS.pcell {bl : Nat} (h : WkS c B0 ps bs aA kA HA (some ⟨bl, 0, none⟩) kL HL HX) {k : Nat} (hk : k < ps.length) {C : Ctx} {H : List Blk} (hs : HL.Sublist H) (w : World) (hw : St C H w) : At w bl (0 + k * 2) (ps.getD k Po.z).cells :=
 (NewRow.rws po_len h.rowL rfl hs w hw).at (k := k) hk
theorem WkS.pos (h : WkS c B0 ps bs aA kA HA aL kL HL HX) {C : Ctx} {H : List Blk} (hs : HL.Sublist H) (w : World) (hw : St C H w) : Pos w aL ps.length kL ps := NewRow.rws po_len h.rowL rfl hs w hw
end
theorem NewRow.cap_le2 {T : TypeId} {sz m cap : Nat} {us : List Value} {a : Option Addr} {Hn : List Blk} (h : NewRow T sz m us (.slice a m cap) Hn) : m ≤ cap := by
 obtain ⟨a', cap', he, hle, _⟩ := h
 cases he; exact hle
theorem Cn.b0x (c : Cn) (a1 : Option Addr) (p1 : Nat) (a2 : Option Addr) (p2 : Nat) : (c.b0 a1 p1 a2 p2).x = c.co := rfl
theorem Cn.sum_sm {c : Cn} (hok : c.Ok) {x : Co} (hx : c.In x) : x.a + sumL (c.of x).inn = x.sm := by
 rw [Cn.sum_of hok hx]; unfold Co.sm; omega
theorem Cn.RunOk.sm {c : Cn} (hok : c.Ok) {l : List Po} {k : Nat} (h : c.RunOk l l.length) (hk : k ≤ l.length) : (c.runK l k).sm = c.co.sm := by
 have hw : c.Way ⟨l.take k, c.backK l k⟩ (c.runK l k) := Cn.RunOk.way (fun j hj => h j om0) hk
 exact (hw.in hok).2
theorem Cn.runK_take (c : Cn) (l : List Po) {k : Nat} (hk : k ≤ l.length) : ∀ j, j ≤ k → c.runK (l.take k) j = c.runK l j ∧ c.backK (l.take k) j = c.backK l j
 | 0, _ => ⟨rfl, rfl⟩
 | j + 1, h => by
  have ih := Cn.runK_take c l hk j om0
  have e : c.runK (l.take k) (j + 1) = c.runK l (j + 1) := by
   unfold Cn.runK
   rw [ih.1]
   congr 1
   simp [List.getD_eq_getElem?_getD, show j < k by omega]
  refine ⟨e, ?_⟩
  unfold Cn.backK
  rw [e, ih.1, ih.2]
theorem Cn.RunOk.take {c : Cn} {l : List Po} {k : Nat} (h : c.RunOk l l.length) (hk : k ≤ l.length) : c.RunOk (l.take k) (l.take k).length := fun j hj => by
 rw [List.length_take] at hj
 rw [(Cn.runK_take c l hk j om0).1, show (l.take k).getD j Po.z = l.getD j Po.z by simp [List.getD_eq_getElem?_getD, show j < k by omega]]
 exact h j om0
theorem Cn.runK_drop {c : Cn} (hok : c.Ok) {l : List Po} (h : c.RunOk l l.length) {k : Nat} (hk : k ≤ l.length) : ∀ j, k + j ≤ l.length → (c.of (c.runK l k)).runK (l.drop k) j = c.runK l (k + j) ∧ (c.of (c.runK l k)).backK (l.drop k) j + c.backK l k = c.backK l (k + j)
 | 0, _ => by
  have hin : c.In (c.runK l k) := hok.run_in fun j hj => h j om0
  refine ⟨hok.of_co hin, ?_⟩
  show (0 : Int) + _ = _
  rw [Int.zero_add]; rfl
 | j + 1, hj => by
  have ih := Cn.runK_drop hok h hk j om0
  have e : (c.of (c.runK l k)).runK (l.drop k) (j + 1) = c.runK l (k + (j + 1)) := by
   show (c.of (c.runK l k)).stp ((c.of (c.runK l k)).runK (l.drop k) j) ((l.drop k).getD j Po.z) = c.stp (c.runK l (k + j)) (l.getD (k + j) Po.z)
   rw [ih.1, show (l.drop k).getD j Po.z = l.getD (k + j) Po.z by simp [List.getD_eq_getElem?_getD]]
   rfl
  refine ⟨e, ?_⟩
  show (c.of (c.runK l k)).backK (l.drop k) j + bk ((c.of (c.runK l k)).runK (l.drop k) j) ((c.of (c.runK l k)).runK (l.drop k) (j + 1)) + c.backK l k = c.backK l (k + j) + bk (c.runK l (k + j)) (c.runK l (k + j + 1))
  rw [e, ih.1, ← ih.2, show k + (j + 1) = k + j + 1 from rfl]
  omega
theorem Cn.RunOk.drop {c : Cn} (hok : c.Ok) {l : List Po} {k : Nat} (h : c.RunOk l l.length) (hk : k ≤ l.length) : (c.of (c.runK l k)).RunOk (l.drop k) (l.drop k).length := fun j hj => by
 rw [List.length_drop] at hj
 rw [(Cn.runK_drop hok h hk j om0).1, show (l.drop k).getD j Po.z = l.getD (k + j) Po.z by simp [List.getD_eq_getElem?_getD]]
 exact h (k + j) om0
theorem PlayV.run {c : Cn} (hok : c.Ok) {l : List Po} (h : c.RunOk l l.length) {v : Value} {Hn : List Blk} (hv : PlayV c l v Hn) : ∃ v0, v = .tuple #[v0, .int .i64 (c.backK l l.length), .int .i64 0, .int .i64 0] ∧ TwinC (c.of (c.runK l l.length)) v0 Hn := by
 have hb : c.bad l = none := Cn.badK_none fun j _ hj => h j om0
 have hB := Cn.ok_iff.2 hok
 obtain ⟨v0, rfl, hT⟩ := hv
 unfold Cn.plC at hT
 unfold Cn.plB Cn.plA Cn.plE
 rw [if_pos hB, hb] at hT
 rw [if_pos hB, if_pos hB, if_pos hB, hb]
 exact ⟨v0, rfl, hT⟩
set_option maxRecDepth 100000
set_option maxHeartbeats 4000000
theorem PlayV.take {c : Cn} (hok : c.Ok) {l : List Po} (h : c.RunOk l l.length) {k : Nat} (hk : k ≤ l.length) {v : Value} {Hn : List Blk} (hv : PlayV c (l.take k) v Hn) : ∃ v0, v = .tuple #[v0, .int .i64 (c.backK l k), .int .i64 0, .int .i64 0] ∧ TwinC (c.of (c.runK l k)) v0 Hn := by
 obtain ⟨v0, rfl, hT⟩ := PlayV.run hok (h.take hk) hv
 have hl : (l.take k).length = k := by rw [List.length_take]; omega
 rw [hl] at hT ⊢
 rw [(Cn.runK_take c l hk k (Nat.le_refl _)).1] at hT
 rw [(Cn.runK_take c l hk k (Nat.le_refl _)).2]
 exact ⟨v0, rfl, hT⟩
theorem PlayV.drop {c : Cn} (hok : c.Ok) {l : List Po} (h : c.RunOk l l.length) {k : Nat} (hk : k ≤ l.length) {v : Value} {Hn : List Blk} (hv : PlayV (c.of (c.runK l k)) (l.drop k) v Hn) : ∃ v0 n, v = .tuple #[v0, .int .i64 n, .int .i64 0, .int .i64 0] ∧ n + c.backK l k = c.backK l l.length ∧ TwinC (c.of (c.runK l l.length)) v0 Hn := by
 have hin : c.In (c.runK l k) := hok.run_in fun j hj => h j om0
 obtain ⟨v0, rfl, hT⟩ := PlayV.run (hok.of hin) (h.drop hok hk) hv
 have hd := Cn.runK_drop hok h hk (l.drop k).length (by rw [List.length_drop]; omega)
 have hkl : k + (l.drop k).length = l.length := by rw [List.length_drop]; omega
 rw [hkl] at hd
 rw [hd.1] at hT
 exact ⟨v0, _, rfl, hd.2, hT⟩
set_option maxHeartbeats 1000000
def oddX : En := ⟨5, 3, ⟨20, 24⟩⟩
def oddL : Lg := logL.put oddX
set_option maxHeartbeats 4000000
set_option maxHeartbeats 1000000
def Sn.In (s : Sn) (v : Int) : Prop := s.lo ≤ v ∧ v ≤ s.hi
def Tk.Mv (t : Tk) (x : En) (u w : Int) : Prop :=
 (x.kind = 1 ∧ u + x.size.lo ≤ w ∧ w ≤ u + x.size.hi ∧ 0 ≤ w ∧ w ≤ t.full) ∨ (x.kind = 2 ∧ u - x.size.hi ≤ w ∧ w ≤ u - x.size.lo ∧ 0 ≤ w ∧ w ≤ t.full) ∨ (x.kind = 3 ∧ w = u ∧ (t.dip x.size).In w)
theorem Sn.met_in {a b : Sn} {v : Int} : (a.met b).In v ↔ a.In v ∧ b.In v := by
 unfold Sn.met Sn.In; simp only; omega
theorem Tk.forth_of {t : Tk} {x : En} {s : Sn} {u w : Int} (hu : s.In u) (hm : t.Mv x u w) : (t.forth x s).In w := by
 unfold Tk.forth
 rcases hm with ⟨hk, hm⟩ | ⟨hk, hm⟩ | ⟨hk, rfl, hm⟩
 ·rw [if_pos hk]; unfold Sn.In at hu ⊢; simp only [Sn.met, Sn.add, Tk.all]; omega
 ·rw [if_neg om0, if_pos hk]; unfold Sn.In at hu ⊢; simp only [Sn.met, Sn.sub, Tk.all]; omega
 ·rw [if_neg om0, if_neg om0, Sn.met_in]; exact ⟨hu, hm⟩
theorem Tk.forth_to {t : Tk} {x : En} {s : Sn} {w : Int} (hk : 1 ≤ x.kind ∧ x.kind ≤ 3) (hz : x.size.lo ≤ x.size.hi) (hs : s.lo ≤ s.hi) (h : (t.forth x s).In w) : ∃ u, s.In u ∧ t.Mv x u w := by
 unfold Tk.forth at h
 unfold Tk.Mv
 obtain h1 | h1 | h1 : x.kind = 1 ∨ x.kind = 2 ∨ x.kind = 3 := by omega
 ·rw [if_pos h1] at h
  unfold Sn.In at h ⊢
  simp only [Sn.met, Sn.add, Tk.all] at h
  exact ⟨max s.lo (w - x.size.hi), by omega, .inl om0⟩
 ·rw [if_neg om0, if_pos h1] at h
  unfold Sn.In at h ⊢
  simp only [Sn.met, Sn.sub, Tk.all] at h
  exact ⟨max s.lo (w + x.size.lo), by omega, .inr (.inl om0)⟩
 ·rw [if_neg om0, if_neg om0, Sn.met_in] at h
  exact ⟨w, h.1, .inr (.inr ⟨h1, rfl, h.2⟩)⟩
theorem Tk.back_of {t : Tk} {x : En} {s : Sn} {u w : Int} (hw : s.In w) (hm : t.Mv x u w) (h0 : 0 ≤ u) (h1 : u ≤ t.full) : (t.back x s).In u := by
 unfold Tk.back
 rcases hm with ⟨hk, hm⟩ | ⟨hk, hm⟩ | ⟨hk, rfl, hm⟩
 ·rw [if_pos hk]; unfold Sn.In at hw ⊢; simp only [Sn.met, Sn.sub, Tk.all]; omega
 ·rw [if_neg om0, if_pos hk]; unfold Sn.In at hw ⊢; simp only [Sn.met, Sn.add, Tk.all]; omega
 ·rw [if_neg om0, if_neg om0, Sn.met_in]; exact ⟨hw, hm⟩
theorem Lg.before_of {l : Lg} {i : Nat} {s : Sn} {v u : Int} (hv : s.In v) (h1 : max 0 (v - l.drip i) ≤ u) (h2 : u ≤ v) : (l.before i s).In u := by
 unfold Sn.In at hv ⊢; unfold Lg.before; simp only; omega
theorem Lg.before_to {l : Lg} {i : Nat} {s : Sn} {u : Int} (hd : 0 ≤ l.drip i) (hs : s.lo ≤ s.hi) (h : (l.before i s).In u) : ∃ v, s.In v ∧ max 0 (v - l.drip i) ≤ u ∧ u ≤ v := by
 unfold Sn.In at h ⊢; unfold Lg.before at h; simp only at h
 exact ⟨max s.lo u, by omega, by omega, by omega⟩
def Lg.Stp (l : Lg) (T U : Nat → Int) (i : Nat) : Prop := (max 0 (T i - l.drip i) ≤ U i ∧ U i ≤ T i) ∧ l.tk.Mv (l.e i) (U i) (T (i + 1))
structure Lg.Tru (l : Lg) (T U : Nat → Int) : Prop where
 st : l.start.In (T 0)
 sp : ∀ i, i < l.es.length → l.Stp T U i
theorem Lg.Stp.congr {l : Lg} {T U T' U' : Nat → Int} {i : Nat} (h : l.Stp T U i) (h1 : T' i = T i) (h2 : U' i = U i) (h3 : T' (i + 1) = T (i + 1)) : l.Stp T' U' i := by
 unfold Lg.Stp at h ⊢
 rw [h1, h2, h3]; exact h
theorem Tk.Mv.bd {t : Tk} {x : En} {u w : Int} (h : t.Mv x u w) (h0 : 0 ≤ u) (h1 : u ≤ t.full) : 0 ≤ w ∧ w ≤ t.full := by
 rcases h with ⟨_, h⟩ | ⟨_, h⟩ | ⟨_, rfl, h⟩ <;> omega
theorem Lg.Tru.bd {l : Lg} {T U : Nat → Int} (h : l.Tru T U) (hok : l.Ok) : ∀ i, i ≤ l.es.length → 0 ≤ T i ∧ T i ≤ l.tk.full
 | 0, _ => by
  have := Sn.inB_iff.1 hok.start
  have := h.st
  unfold Sn.In at this
  omega
 | i + 1, hi => by
  have ih := Lg.Tru.bd h hok i om0
  obtain ⟨h1, h2⟩ := h.sp i om0
  exact h2.bd om0 om0
theorem Lg.Tru.ubd {l : Lg} {T U : Nat → Int} (h : l.Tru T U) (hok : l.Ok) {i : Nat} (hi : i < l.es.length) : 0 ≤ U i ∧ U i ≤ l.tk.full := by
 have h1 := h.bd hok i om0
 have h2 := (h.sp i hi).1
 omega
theorem Lg.Tru.hold {l : Lg} {T U : Nat → Int} (h : l.Tru T U) : ∀ i, i ≤ l.es.length → (l.hold i).In (T i)
 | 0, _ => h.st
 | i + 1, hi => Tk.forth_of (Lg.before_of (Lg.Tru.hold h i om0) (h.sp i om0).1.1 (h.sp i om0).1.2) (h.sp i om0).2
theorem Lg.Tru.aftR {l : Lg} {T U : Nat → Int} (h : l.Tru T U) (hok : l.Ok) : ∀ m, m ≤ l.es.length → (l.aft (l.es.length - m)).In (T (l.es.length - m))
 | 0, _ => by
  rw [Nat.sub_zero, l.aft_n]
  exact h.bd hok _ (Nat.le_refl _)
 | m + 1, hm => by
  have ih := Lg.Tru.aftR h hok m om0
  have hi : l.es.length - (m + 1) < l.es.length := by omega
  have hn : l.es.length - m = l.es.length - (m + 1) + 1 := by omega
  rw [hn] at ih
  generalize l.es.length - (m + 1) = i at *
  have hs := h.sp i hi
  have hu := h.ubd hok hi
  have hT := h.bd hok i om0
  have ha : (l.ahd i).In (U i) := Tk.back_of ih hs.2 hu.1 hu.2
  rw [l.aft_lt hi]
  have h1 := hs.1
  unfold Sn.In at ha ⊢
  simp only
  omega
theorem Lg.Tru.aft {l : Lg} {T U : Nat → Int} (h : l.Tru T U) (hok : l.Ok) {i : Nat} (hi : i ≤ l.es.length) : (l.aft i).In (T i) := by
 have := h.aftR hok (l.es.length - i) om0
 rwa [show l.es.length - (l.es.length - i) = i by omega] at this
theorem Lg.Tru.ahd {l : Lg} {T U : Nat → Int} (h : l.Tru T U) (hok : l.Ok) {i : Nat} (hi : i < l.es.length) : (l.ahd i).In (U i) :=
 Tk.back_of (h.aft hok (i := i + 1) hi) (h.sp i hi).2 (h.ubd hok hi).1 (h.ubd hok hi).2
theorem Lg.Tru.at {l : Lg} {T U : Nat → Int} (h : l.Tru T U) (hok : l.Ok) {i : Nat} (hi : i ≤ l.es.length) : (l.at i).In (T i) := Sn.met_in.2 ⟨h.hold i hi, h.aft hok hi⟩
theorem Lg.pre {l : Lg} (hok : l.Ok) : ∀ k, k ≤ l.es.length → (∀ j, j < k → (l.hold j).lo ≤ (l.hold j).hi) → ∀ v, (l.hold k).In v → ∃ T U : Nat → Int, T k = v ∧ l.start.In (T 0) ∧ ∀ i, i < k → l.Stp T U i
 | 0, _, _, v, hv => ⟨fun _ => v, fun _ => v, rfl, hv, fun i hi => absurd hi om0⟩
 | k + 1, hk, hne, v, hv => by
  have hd := hok.drip_bd (i := k) om0
  have hn := hne k om0
  have hb : (l.before k (l.hold k)).lo ≤ (l.before k (l.hold k)).hi ∨ (l.before k (l.hold k)).hi < (l.before k (l.hold k)).lo := by omega
  have h0 := (hok.hold_bd k om0 fun j hj => by unfold Sn.empty; simp only [decide_eq_false_iff_not]; have := hne j om0; omega).1
  have hb2 : (l.before k (l.hold k)).lo ≤ (l.before k (l.hold k)).hi := by unfold Lg.before; simp only; omega
  obtain ⟨u, hu, hm⟩ := Tk.forth_to (hok.kind k om0) (Sn.inB_iff.1 (hok.size k om0)).2.1 hb2 hv
  obtain ⟨v', hv', h1, h2⟩ := Lg.before_to hd.1 hn hu
  obtain ⟨T, U, ht, hs, hp⟩ := Lg.pre hok k om0 (fun j hj => hne j om0) v' hv'
  refine ⟨fun j => if j = k + 1 then v else T j, fun j => if j = k then u else U j, if_pos rfl, by simpa using hs, fun i hi => ?_⟩
  by_cases hik : i = k
  ·subst hik
   unfold Lg.Stp
   simp only [if_true]
   rw [if_neg om0, ht]
   exact ⟨⟨h1, h2⟩, hm⟩
  ·exact (hp i om0).congr (by rw [if_neg om0]) (by rw [if_neg hik]) (by rw [if_neg om0])
theorem Lg.at_bd {l : Lg} (hok : l.Ok) (hh : l.holdsB = true) {i : Nat} (hi : i ≤ l.es.length) : 0 ≤ (l.at i).lo ∧ (l.at i).hi ≤ l.tk.full := by
 have h1 := hok.aft_bd hi
 unfold Lg.at Sn.met
 simp only
 omega
theorem Lg.put_e (l : Lg) (x : En) {k : Nat} (hk : k < l.es.length) : (l.put x).e k = l.e k := by
 unfold Lg.put Lg.e
 simp only [List.getD_eq_getElem?_getD]
 rw [List.getElem?_append_left hk]
theorem Lg.put_en (l : Lg) (x : En) : (l.put x).e l.es.length = x := by
 unfold Lg.put Lg.e
 simp
theorem Lg.put_drip (l : Lg) (x : En) {k : Nat} (hk : k < l.es.length) : (l.put x).drip k = l.drip k := by
 unfold Lg.drip
 rw [l.put_e x hk]
 by_cases h : k = 0
 ·rw [if_pos h, if_pos h]
 ·rw [if_neg h, if_neg h, l.put_e x om0]; rfl
theorem Lg.put_dripn (l : Lg) (x : En) : (l.put x).drip l.es.length = if l.es.length = 0 then 0 else l.tk.leak * (x.day - l.dayAt l.es.length) := by
 unfold Lg.drip Lg.dayAt
 rw [l.put_en]
 by_cases h : l.es.length = 0
 ·rw [if_pos h, if_pos h]
 ·rw [if_neg h, if_neg h, if_neg h, l.put_e x om0]; rfl
theorem Lg.put_hold (l : Lg) (x : En) : ∀ k, k ≤ l.es.length → (l.put x).hold k = l.hold k
 | 0, _ => rfl
 | k + 1, hk => by
  show (l.put x).after k ((l.put x).hold k) = l.after k (l.hold k)
  rw [Lg.put_hold l x k om0]
  unfold Lg.after Lg.before
  rw [l.put_e x om0, l.put_drip x om0]; rfl
theorem Lg.put_holdn (l : Lg) (x : En) : (l.put x).hold (l.es.length + 1) = l.tk.forth x ⟨max 0 ((l.hold l.es.length).lo - (l.put x).drip l.es.length), (l.hold l.es.length).hi⟩ := by
 show (l.put x).after l.es.length ((l.put x).hold l.es.length) = _
 rw [l.put_hold x _ (Nat.le_refl _)]
 unfold Lg.after Lg.before
 rw [l.put_en]; rfl
theorem Lg.err0_iff {l : Lg} : l.err = 0 ↔ l.tk.okB = true ∧ l.okB = true := by
 unfold Lg.err
 cases l.tk.okB <;> cases l.okB <;> simp
theorem Lg.put_ents (l : Lg) (x : En) : l.tk.entsB 0 (l.es ++ [x]) = (l.tk.entsB 0 l.es && l.tk.entB (l.dayAt l.es.length) x) := by
 have h := l.tk.entsB_succ (l.es ++ [x]) 0 l.es.length (by rw [List.length_append]; exact Nat.lt_succ_self _)
 rw [List.take_left, List.take_of_length_le (by rw [List.length_append]; exact Nat.le_refl _)] at h
 rw [h]
 congr 2
 ·unfold Lg.dayAt Lg.e
  by_cases h0 : l.es.length = 0
  ·rw [if_pos h0, if_pos h0]
  ·rw [if_neg h0, if_neg h0, List.getD_eq_getElem?_getD, List.getElem?_append_left om0, ← List.getD_eq_getElem?_getD]
 ·exact (l.put_en x)
theorem Lg.put_err {l : Lg} {x : En} (h : l.err = 0) (hn : l.es.length < 12) (hx : l.tk.entB (l.dayAt l.es.length) x = true) : (l.put x).err = 0 := by
 obtain ⟨h1, h2⟩ := Lg.err0_iff.1 h
 refine Lg.err0_iff.2 ⟨h1, ?_⟩
 unfold Lg.okB at h2 ⊢
 rw [Bool.and_eq_true, Bool.and_eq_true] at h2 ⊢
 refine ⟨⟨h2.1.1, ?_⟩, ?_⟩
 ·rw [decide_eq_true_eq, l.put_len]; omega
 ·show l.tk.entsB 0 (l.es ++ [x]) = true
  rw [l.put_ents, h2.2, hx]; rfl
theorem Lg.add_ok {l : Lg} {x : En} (h : l.err = 0) (hn : l.es.length < 12) (hx : l.tk.entB (l.dayAt l.es.length) x = true) : l.addE x = 0 := by
 unfold Lg.addE
 rw [if_pos h, if_neg om0, if_pos (Lg.put_err h hn hx)]
theorem Lg.put_dayAt (l : Lg) (x : En) : (l.put x).dayAt (l.put x).es.length = x.day := by
 unfold Lg.dayAt
 rw [l.put_len, if_neg om0, Nat.add_sub_cancel, l.put_en]
theorem Lg.Ok.dayAt_bd {l : Lg} (h : l.Ok) : 0 ≤ l.dayAt l.es.length ∧ l.dayAt l.es.length ≤ 3652 := by
 unfold Lg.dayAt
 split
 ·omega
 ·exact h.day _ om0
theorem Tk.entB_iff {t : Tk} {d : Int} {x : En} : t.entB d x = true ↔ (d ≤ x.day ∧ x.day ≤ 3652) ∧ (1 ≤ x.kind ∧ x.kind ≤ 3) ∧ 0 ≤ x.size.lo ∧ x.size.lo ≤ x.size.hi ∧ x.size.hi ≤ t.most x.kind := by
 unfold Tk.entB
 rw [Bool.and_eq_true, Bool.and_eq_true, inB1, inB1, Sn.inB_iff, and_assoc]
theorem AddV.ok {l : Lg} {x : En} {v : Value} {Hn : List Blk} (h : AddV l x v Hn) (h0 : l.addE x = 0) : ∃ a cap ae cape H1 H2, v = .tuple #[.agg #[.slice a (l.put x).tk.n cap, .int .i64 (l.put x).tk.leak, .int .i64 (l.put x).tk.foot, .int .i64 (l.put x).start.lo, .int .i64 (l.put x).start.hi, .slice ae (l.put x).es.length cape], .int .i64 0] ∧
  NewRow 3 1 (l.put x).tk.n (iv (l.put x).tk.pints) (.slice a (l.put x).tk.n cap) H1 ∧ NewRow 90 4 (l.put x).es.length (rowOf En.cells (l.put x).e (l.put x).es.length) (.slice ae (l.put x).es.length cape) H2 ∧ Hn = H1 ++ H2 := by
 obtain ⟨v0, rfl, _, h2⟩ := h
 obtain ⟨a, cap, ae, cape, H1, H2, rfl, h3, h4, rfl⟩ := h2 h0
 rw [h0]
 exact ⟨a, cap, ae, cape, H1, H2, rfl, h3, h4, rfl⟩
def Lg.great (l : Lg) : Bool := decide ((l.tk.n : Int) > 40) || decide ((l.es.length : Int) > 24)
def Lg.rdy (l : Lg) : Bool := !l.great && decide (l.err = 0)
theorem Lg.aerr_cases {l : Lg} (h : l.err = 0) : l.aerr = 0 ∧ l.holdsB = true ∨ l.aerr = 8 ∧ l.holdsB = false := by
 unfold Lg.aerr
 rw [if_pos h]
 cases hh : l.holdsB
 ·exact .inr ⟨rfl, rfl⟩
 ·exact .inl ⟨rfl, rfl⟩
def Lg.sta (l : Lg) (v : Int) : Lg := ⟨l.tk, ⟨v, v⟩, l.es⟩
set_option maxHeartbeats 8000000
theorem a_geqA59 {x y : Operand} {x_0 : Int} {x_1 : Int} {y_0 : Int} {y_1 : Int} : ∀ w, (eqGuard .eql 59 x y (.agg #[.int .i64 x_0, .int .i64 x_1]) (.agg #[.int .i64 y_0, .int .i64 y_1])).run Tryz.prog w = .ok () w := fun w => by kernel_rfl
theorem eq59 {x_0 : Int} {x_1 : Int} {y_0 : Int} {y_1 : Int} : ∀ w, (Op.equalIn Op.maxDepth 59 (.agg #[.int .i64 x_0, .int .i64 x_1]) (.agg #[.int .i64 y_0, .int .i64 y_1])).run Tryz.prog w = .ok (ieq x_0 y_0 && ieq x_1 y_1) w := fun w => by
 unfold Op.maxDepth Op.equalIn
 rw [Sem.run_bind, Tryz.runUnderlying59]
 simp [a_st59, a_ep59_0, eq_int (d := 9998) Tryz.runUnderlying3, a_ep59_1, eq_int (d := 9998) Tryz.runUnderlying3]
 generalize ieq x_0 y_0 = b0
 generalize ieq x_1 y_1 = b1
 cases b0 <;> cases b1 <;> simp
theorem eqA59 {x y : Operand} {x_0 : Int} {x_1 : Int} {y_0 : Int} {y_1 : Int} : ∀ w, ((do eqGuard .eql 59 x y (.agg #[.int .i64 x_0, .int .i64 x_1]) (.agg #[.int .i64 y_0, .int .i64 y_1]); binOp .eql 59 (.agg #[.int .i64 x_0, .int .i64 x_1]) (.agg #[.int .i64 y_0, .int .i64 y_1])) : Sem Value).run Tryz.prog w = .ok (.bool (ieq x_0 y_0 && ieq x_1 y_1)) w := eq_top a_geqA59 eq59
theorem dayK_at (l : Lg) (n : Nat) : dayK l n = l.dayAt n := by
 cases n with
 | zero => rfl
 | succ n => unfold dayK Lg.dayAt; rw [if_neg om0, Nat.add_sub_cancel]
theorem Lg.drip_same2 (l : Lg) (x : En) (h : x.day = l.dayAt l.es.length) : (l.put x).drip l.es.length = 0 := by
 rw [l.put_dripn, h, Int.sub_self, Int.mul_zero, ite_self]
theorem Lg.aerrz {l : Lg} (h : l.aerr = 0) : l.err = 0 ∧ l.holdsB = true := by
 unfold Lg.aerr at h
 by_cases h1 : l.err = 0
 ·rw [if_pos h1] at h
  cases hb : l.holdsB with
  | true => exact ⟨h1, rfl⟩
  | false => rw [hb] at h; cases h
 ·rw [if_neg h1] at h; exact absurd h h1
theorem Lg.aerr_of {l : Lg} (h : l.err = 0) (hb : l.holdsB = true) : l.aerr = 0 := by
 unfold Lg.aerr; rw [if_pos h, if_pos hb]
theorem Lg.last_hd {l : Lg} (h : l.err = 0) (hb : l.holdsB = true) : l.at l.es.length = l.hold l.es.length ∧ 0 ≤ (l.hold l.es.length).lo ∧ (l.hold l.es.length).lo ≤ (l.hold l.es.length).hi ∧ (l.hold l.es.length).hi ≤ l.tk.full := by
 have hh := l.holdsB_iff.1 hb
 have hok := l.ok_of h
 have h1 := hok.hold_bd l.es.length (Nat.le_refl _) fun j hj => hh j om0
 have h2 := hh l.es.length (Nat.le_refl _)
 unfold Sn.empty at h2
 rw [decide_eq_false_iff_not] at h2
 refine ⟨?_, h1.1, by omega, h1.2.1⟩
 unfold Lg.at
 rw [l.aft_n]
 have e : ∀ s : Sn, 0 ≤ s.lo → s.hi ≤ l.tk.full → s.met l.tk.all = s := fun ⟨lo, hi⟩ p q => by
  simp only at p q
  unfold Sn.met Tk.all
  simp only [Sn.mk.injEq]
  omega
 exact e _ h1.1 h1.2.1
def fillB (p : Po) : Bool := decide (p.f = 0) || decide (p.t = 0)
def fillN (ps : List Po) : Nat → Nat
 | 0 => 0
 | k + 1 => if fillB (ps.getD k Po.z) then fillN ps k + 1 else fillN ps k
theorem fillN_le (ps : List Po) : ∀ k, fillN ps k ≤ k
 | 0 => Nat.le_refl _
 | k + 1 => by have := fillN_le ps k; unfold fillN; split <;> omega
structure DrI (l : Lg) (c : Cn) (ps : List Po) (k : Nat) : Prop where
 err : (wrK l c ps k).err = 0
 hB : (wrK l c ps k).holdsB = true
 len : (wrK l c ps k).es.length = l.es.length + fillN ps k
 day : (wrK l c ps k).dayAt (wrK l c ps k).es.length = dayK l l.es.length
 hold : (wrK l c ps k).hold (wrK l c ps k).es.length = ⟨(l.hold l.es.length).lo - (c.co.sm - (c.runK ps k).a), (l.hold l.es.length).hi - (c.co.sm - (c.runK ps k).a)⟩
theorem DrI.step {l : Lg} {c : Cn} (hok : c.Ok) {ps : List Po} (hr : c.RunOk ps ps.length) (hsm : c.co.sm ≤ (l.hold l.es.length).lo) (hl : l.err = 0) (hlb : l.holdsB = true) {k : Nat} (hk : k < ps.length) (h : DrI l c ps k) :
  (wrE l c ps k = 0 ∧ DrI l c ps (k + 1)) ∨ (wrE l c ps k = 9 ∧ 12 < l.es.length + fillN ps (k + 1)) := by
 have hS := Lg.last_hd hl hlb
 have hin1 : c.In (c.runK ps k) := hok.run_in fun j hj => hr j om0
 have hin2 : c.In (c.runK ps (k + 1)) := hok.run_in fun j hj => hr j om0
 have hs1 := hr.sm hok (k := k) om0
 have hs2 := hr.sm hok (k := k + 1) om0
 have a0 : 0 ≤ (c.runK ps k).a := hin1.lo 0 dc
 have a1 : 0 ≤ (c.runK ps k).b := hin1.lo 1 dc
 have a2 : 0 ≤ (c.runK ps k).c := hin1.lo 2 dc
 have a3 : 0 ≤ (c.runK ps k).d := hin1.lo 3 dc
 have b0 : 0 ≤ (c.runK ps (k + 1)).a := hin2.lo 0 dc
 have b1 : 0 ≤ (c.runK ps (k + 1)).b := hin2.lo 1 dc
 have b2 : 0 ≤ (c.runK ps (k + 1)).c := hin2.lo 2 dc
 have b3 : 0 ≤ (c.runK ps (k + 1)).d := hin2.lo 3 dc
 have e1 : (c.runK ps k).a + (c.runK ps k).b + (c.runK ps k).c + (c.runK ps k).d = c.co.sm := hs1
 have e2 : (c.runK ps (k + 1)).a + (c.runK ps (k + 1)).b + (c.runK ps (k + 1)).c + (c.runK ps (k + 1)).d = c.co.sm := hs2
 have hd := dK_facts hok (hr k hk)
 have hdd : dK c ps k = (c.runK ps (k + 1)).a - (c.runK ps k).a := rfl
 have hf : fillN ps (k + 1) = if dK c ps k = 0 then fillN ps k else fillN ps k + 1 := by
  show (if fillB (ps.getD k Po.z) then fillN ps k + 1 else fillN ps k) = _
  have : fillB (ps.getD k Po.z) = true ↔ ¬ dK c ps k = 0 := by
   rw [hd]
   unfold fillB
   simp only [Bool.or_eq_true, decide_eq_true_eq]
   omega
  by_cases hz : dK c ps k = 0
  ·rw [if_pos hz, if_neg (by rw [this]; exact fun h => h hz)]
  ·rw [if_neg hz, if_pos (this.2 hz)]
 by_cases hz : dK c ps k = 0
 ·refine .inl ⟨if_pos hz, ?_⟩
  have hK : wrK l c ps (k + 1) = wrK l c ps k := if_pos hz
  rw [if_pos hz] at hf
  refine ⟨by rw [hK]; exact h.err, by rw [hK]; exact h.hB, by rw [hK, hf]; exact h.len, by rw [hK]; exact h.day, by rw [hK, h.hold, show (c.runK ps (k + 1)).a = (c.runK ps k).a by omega]⟩
 ·have hE : wrE l c ps k = (wrK l c ps k).addE (wrX (dayK l l.es.length) (dK c ps k)) := if_neg hz
  have hK : wrK l c ps (k + 1) = (wrK l c ps k).put (wrX (dayK l l.es.length) (dK c ps k)) := if_neg hz
  rw [if_neg hz] at hf
  have hLok := (wrK l c ps k).ok_of h.err
  have hn12 := hLok.n12
  by_cases h12 : (wrK l c ps k).es.length = 12
  ·refine .inr ⟨?_, by have := h.len; omega⟩
   rw [hE]
   unfold Lg.addE
   rw [if_pos h.err, if_pos h12]
  ·obtain ⟨X, hX⟩ : ∃ X, X = wrX (dayK l l.es.length) (dK c ps k) := ⟨_, rfl⟩
   rw [← hX] at hE hK
   have hXd : X.day = (wrK l c ps k).dayAt (wrK l c ps k).es.length := by rw [h.day, hX]; unfold wrX; split <;> rfl
   have hdb := hLok.dayAt_bd
   have htk := wrK_tk l c ps k
   have hbe := Lg.last_hd h.err h.hB
   rw [h.hold] at hbe
   simp only at hbe
   have hEB : (wrK l c ps k).tk.entB ((wrK l c ps k).dayAt (wrK l c ps k).es.length) X = true := by
    rw [Tk.entB_iff, htk]
    refine ⟨⟨by omega, by omega⟩, ?_⟩
    rw [hX]
    unfold wrX Tk.most
    split
    ·simp only; refine ⟨by omega, by omega, by omega, ?_⟩
     show _ ≤ l.tk.full; omega
    ·simp only; refine ⟨by omega, by omega, by omega, ?_⟩
     show _ ≤ l.tk.full; omega
   have hlt : (wrK l c ps k).es.length < 12 := by omega
   have hPE := Lg.put_err h.err hlt hEB
   have hhold : ((wrK l c ps k).put X).hold ((wrK l c ps k).es.length + 1) = ⟨(l.hold l.es.length).lo - (c.co.sm - (c.runK ps (k + 1)).a), (l.hold l.es.length).hi - (c.co.sm - (c.runK ps (k + 1)).a)⟩ := by
    rw [Lg.put_holdn, Lg.drip_same2 _ _ hXd, h.hold, htk, hX]
    unfold wrX Tk.forth
    split
    ·simp only [Sn.sub, Sn.met, Tk.all, if_true]
     rw [if_neg dc]
     simp only [Sn.mk.injEq]
     omega
    ·simp only [Sn.add, Sn.met, Tk.all, if_true]
     simp only [Sn.mk.injEq]
     omega
   have hpl := (wrK l c ps k).put_len X
   refine .inl ⟨by rw [hE]; exact Lg.add_ok h.err hlt hEB, ⟨by rw [hK]; exact hPE, ?_, by rw [hK, hpl, h.len, hf]; omega, by rw [hK, Lg.put_dayAt, hXd, h.day], by rw [hK, hpl]; exact hhold⟩⟩
   rw [hK, Lg.holdsB_iff]
   intro j hj
   rw [hpl] at hj
   by_cases hjl : j ≤ (wrK l c ps k).es.length
   ·rw [Lg.put_hold _ _ _ hjl]
    exact (Lg.holdsB_iff _).1 h.hB j hjl
   ·rw [show j = (wrK l c ps k).es.length + 1 by omega, hhold]
    unfold Sn.empty
    rw [decide_eq_false]
    simp only
    omega
theorem DrI.zero {l : Lg} {c : Cn} {ps : List Po} (hl : l.err = 0) (hlb : l.holdsB = true) (hc : c.co.sm = c.co.a) : DrI l c ps 0 := by
 refine ⟨hl, hlb, rfl, (dayK_at l _).symm, ?_⟩
 show l.hold l.es.length = ⟨_ - (c.co.sm - c.co.a), _ - (c.co.sm - c.co.a)⟩
 rw [hc, Int.sub_self, Int.sub_zero, Int.sub_zero]
theorem dr_all {l : Lg} {c : Cn} (hok : c.Ok) {ps : List Po} (hr : c.RunOk ps ps.length) (hsm : c.co.sm ≤ (l.hold l.es.length).lo) (hl : l.err = 0) (hlb : l.holdsB = true) (hc : c.co.sm = c.co.a) : ∀ k, k ≤ ps.length →
  ((∀ j, j < k → wrE l c ps j = 0) ∧ DrI l c ps k) ∨ ((∃ i, i < k ∧ wrE l c ps i = 9 ∧ ∀ j, j < i → wrE l c ps j = 0) ∧ 12 < l.es.length + fillN ps k)
 | 0, _ => .inl ⟨fun j hj => absurd hj (Nat.not_lt_zero _), DrI.zero hl hlb hc⟩
 | k + 1, hk => by
  rcases dr_all hok hr hsm hl hlb hc k om0 with ⟨h1, h2⟩ | ⟨⟨i, h1, h2, h3⟩, h4⟩
  ·rcases h2.step hok hr hsm hl hlb om0 with ⟨h5, h6⟩ | ⟨h5, h6⟩
   ·refine .inl ⟨fun j hj => ?_, h6⟩
    by_cases hjk : j = k
    ·subst hjk; exact h5
    ·exact h1 j om0
   ·exact .inr ⟨⟨k, by omega, h5, h1⟩, h6⟩
  ·refine .inr ⟨⟨i, by omega, h2, h3⟩, ?_⟩
   have : fillN ps k ≤ fillN ps (k + 1) := by
    show _ ≤ (if fillB (ps.getD k Po.z) then fillN ps k + 1 else fillN ps k)
    split <;> omega
   omega
theorem plE_run {c : Cn} (hok : c.Ok) {l : List Po} (h : c.RunOk l l.length) : c.plE l = 0 := by
 unfold Cn.plE
 rw [if_pos (Cn.ok_iff.2 hok), show c.bad l = none from Cn.badK_none fun j _ hj => h j om0]
theorem dr_spec {l : Lg} {c : Cn} (hok : c.Ok) {ps : List Po} (hr : c.RunOk ps ps.length) (hsm : c.co.sm ≤ (l.hold l.es.length).lo) (hl : l.err = 0) (hlb : l.holdsB = true) (hc : c.co.sm = c.co.a) :
  (12 < l.es.length + fillN ps ps.length → wtE l c ps = 9) ∧ (¬ 12 < l.es.length + fillN ps ps.length → wtE l c ps = 0 ∧ wtL l c ps = wrK l c ps ps.length ∧ DrI l c ps ps.length) := by
 have hp := plE_run hok hr
 rcases dr_all hok hr hsm hl hlb hc ps.length (Nat.le_refl _) with ⟨h1, h2⟩ | ⟨⟨i, h1, h2, h3⟩, h4⟩
 ·have hb : wrBad l c ps 0 ps.length = none := wrBad_none fun j _ hj => h1 j om0
  refine ⟨fun h => ?_, fun _ => ⟨?_, ?_, h2⟩⟩
  ·have h5 := ((wrK l c ps ps.length).ok_of h2.err).n12
   have h6 := h2.len
   omega
  ·unfold wtE; rw [if_pos hl, if_pos hp, hb]
  ·unfold wtL; rw [if_pos hl, if_pos hp, hb]
 ·have hb : wrBad l c ps 0 ps.length = some i := wrBad_some (by rw [h2]; decide) (Nat.zero_le _) om0 fun j _ hj => h3 j hj
  refine ⟨fun _ => ?_, fun h => absurd h4 h⟩
  unfold wtE; rw [if_pos hl, if_pos hp, hb]; exact h2
structure BgI (l : Lg) (D : List Int) (c : Cn) : Prop where
 ok : c.Ok
 sz : c.sz = D
 i0 : ∀ k, k < D.length → c.inn.getD k 0 = 0
 st : c.st = l.rdS.lo
 sm : c.co.sm = c.co.a
 le : c.co.sm ≤ (l.hold l.es.length).lo
theorem Lg.rdS_lo {l : Lg} (h : l.aerr = 0) : l.rdS.lo = max 0 ((l.hold l.es.length).lo - l.tk.up l.tk.foot) := by
 have h0 := Lg.aerrz h
 have h1 := Lg.last_hd h0.1 h0.2
 unfold Lg.rdS Lg.last
 rw [if_pos h, h1.1]
 rfl
theorem foot_bd {l : Lg} (h : l.err = 0) : 0 ≤ l.tk.up l.tk.foot ∧ l.tk.up l.tk.foot ≤ 100000 := by
 have hok := l.ok_of h
 have hup := hok.tk.eight_bd hok.tk.foot0 hok.tk.foot1
 have hf := hok.tk.full_bd
 unfold Tk.up; omega
theorem bgI {l : Lg} {D : List Int} (h : l.aerr = 0) (hD : D.length = 2) (hb : ∀ k, k < 2 → 1 ≤ D.getD k 0 ∧ D.getD k 0 ≤ 20) : begC l D = begC0 l D ∧ begE l D = 0 ∧ BgI l D (begC0 l D) := by
 have h0 := Lg.aerrz h
 have h1 := Lg.last_hd h0.1 h0.2
 have hfoot : 0 ≤ l.tk.up l.tk.foot ∧ l.tk.up l.tk.foot ≤ 100000 := foot_bd h0.1
 have hfu := (l.ok_of h0.1).tk.full_bd
 have hlo := Lg.rdS_lo h
 have hin : ∀ k, k < D.length → (begC0 l D).inn.getD k 0 = 0 := fun k hk => by
  show (List.replicate D.length (0 : Int)).getD k 0 = 0
  simp [List.getD_eq_getElem?_getD, hk]
 have hok : (begC0 l D).Ok := by
  refine ⟨by show 1 ≤ D.length; omega, by show D.length ≤ 3; omega, List.length_replicate, ?_, ?_, fun k hk => hb k (by rw [← hD]; exact hk), fun k hk => ?_⟩
  ·show 0 ≤ l.rdS.lo; omega
  ·show l.rdS.lo ≤ 600; omega
  ·have h2 := hin k hk
   have h3 := hb k (by rw [← hD]; exact hk)
   show 0 ≤ (begC0 l D).inn.getD k 0 ∧ (begC0 l D).inn.getD k 0 ≤ D.getD k 0
   omega
 have hoB := Cn.ok_iff.2 hok
 have hsm : (begC0 l D).co.sm = (begC0 l D).co.a := by
  have e0 : (begC0 l D).i 0 = 0 := hin 0 om0
  have e1 : (begC0 l D).i 1 = 0 := hin 1 om0
  have e2 : (begC0 l D).i 2 = 0 := by
   show (List.replicate D.length (0 : Int)).getD 2 0 = 0
   simp [List.getD_eq_getElem?_getD, hD]
  show (begC0 l D).st + (begC0 l D).i 0 + (begC0 l D).i 1 + (begC0 l D).i 2 = (begC0 l D).st
  omega
 refine ⟨?_, ?_, hok, rfl, hin, rfl, hsm, ?_⟩
 ·unfold begC; rw [if_pos h, if_pos hoB]
 ·unfold begE Cn.err; rw [if_pos h, if_pos hoB]
 ·rw [hsm]
  show l.rdS.lo ≤ _
  omega
theorem drawn_spec {l : Lg} {c : Cn} {ps : List Po} (hI : DrI l c ps ps.length) (hok : c.Ok) (hr : c.RunOk ps ps.length) (h : l.aerr = 0) (hsm : c.co.sm = l.rdS.lo) {y : Co} (hy : y = c.runK ps ps.length) {less : Int} (hl : less = sumL (c.of y).inn) :
  l.holdsV (l.es.length : Int) = .tuple #[.agg (l.hold l.es.length).cells.toArray, .int .i64 0] ∧ (wrK l c ps ps.length).holdsV ((wrK l c ps ps.length).es.length : Int) = .tuple #[.agg #[.int .i64 ((l.hold l.es.length).lo - less), .int .i64 ((l.hold l.es.length).hi - less)], .int .i64 0] ∧ (∃ hi, (wrK l c ps ps.length).readyV = .tuple #[.agg #[.int .i64 (l.rdS.lo - less), .int .i64 hi], .int .i64 0]) ∧ 0 ≤ l.rdS.lo - less ∧ 0 ≤ less ∧ 0 ≤ (l.hold l.es.length).lo ∧ (l.hold l.es.length).hi ≤ 700000 ∧ (l.hold l.es.length).lo ≤ (l.hold l.es.length).hi ∧ l.rdS.lo ≤ 700000 := by
 have h0 := Lg.aerrz h
 have h1 := Lg.last_hd h0.1 h0.2
 have hfoot : 0 ≤ l.tk.up l.tk.foot ∧ l.tk.up l.tk.foot ≤ 100000 := foot_bd h0.1
 have hfu := (l.ok_of h0.1).tk.full_bd
 have hlo := Lg.rdS_lo h
 have g0 := Lg.aerr_of hI.err hI.hB
 have g1 := Lg.last_hd hI.err hI.hB
 have hin : c.In y := by rw [hy]; exact hok.run_in fun j hj => hr j hj
 have hss := Cn.sum_sm hok hin
 have hsy : y.sm = c.co.sm := by rw [hy]; exact hr.sm hok (Nat.le_refl _)
 have ya : 0 ≤ y.a := hin.lo 0 dc
 have yb : 0 ≤ y.b := hin.lo 1 dc
 have yc : 0 ≤ y.c := hin.lo 2 dc
 have yd : 0 ≤ y.d := hin.lo 3 dc
 have ysum : y.a + y.b + y.c + y.d = y.sm := rfl
 have hH := hI.hold
 rw [← hy] at hH
 have hle : c.co.sm - y.a = less := by omega
 rw [hle] at hH
 refine ⟨?_, ?_, ?_, by omega, by omega, h1.2.1, by omega, h1.2.2.1, by omega⟩
 ·unfold Lg.holdsV
  rw [if_pos h, if_pos (by rw [inB1]; omega), Int.toNat_natCast, h1.1]
 ·unfold Lg.holdsV
  rw [if_pos g0, if_pos (by rw [inB1]; omega), Int.toNat_natCast, g1.1, hH]
  rfl
 ·refine ⟨max 0 ((l.hold l.es.length).hi - less - l.tk.up l.tk.foot), ?_⟩
  unfold Lg.readyV Lg.last
  rw [if_pos g0, g1.1, hH, wrK_tk]
  unfold Sn.fl Sn.cells
  have e : max 0 ((l.hold l.es.length).lo - less - l.tk.up l.tk.foot) = l.rdS.lo - less := by omega
  simp only [e]
theorem fillN_succ (ps : List Po) (i : Nat) {p : Po} (h : p = ps.getD i Po.z) : fillN ps (i + 1) = if fillB p then fillN ps i + 1 else fillN ps i := by
 subst h; rfl
theorem canDrawn_any (l : Lg) (a : Option Addr) (cap : Nat) (ae : Option Addr) (cape : Nat) (n m : Int) (ba : Option Addr) (bn bcap : Nat) (by_ : List Int) (w : World) (hG : Gv w) (hx : Ints w a l.tk.n cap l.tk.pints) (he : Ens w ae l.es.length cape l.es) (hn0 : 0 ≤ n) (hn1 : n ≤ 255) (hm0 : 0 ≤ m) (hm1 : m ≤ 255) (hby : U4s w ba bn bcap by_) : Ct Tryz.prog 7 #[.agg #[.slice a l.tk.n cap, .int .i64 l.tk.leak, .int .i64 l.tk.foot, .int .i64 l.start.lo, .int .i64 l.start.hi, .slice ae l.es.length cape], .int .u8 n, .int .u8 m, .slice ba bn bcap] w fun v _ => v = .bool true := by
 have hF := wide_wide
 refine Ct_start (args := [_, _, _, _]) Tryz.func7 rf Tryz.ntmps7 rf ?_
 refine zR fun ds => ?_
 refine WS_new hF rf (y_box rf) (fun b1 => ?_)
 refine za (.bool _) hF ?_
 refine zP fun ds => ?_
 refine zD hF (y_callL rf rf Tryz.call13 (fun w hw => calive_any w (hG.st w hw))) ?_
 refine za (.bool _) hF ?_
 refine zO ?_
 refine zR fun ds => ?_
 refine zD hF (y_loadN rf Tryz.isAgg62 Tryz.sizeOf62 (Mem.own (us := [.slice _ _ _, .int .i64 _, .int .i64 _, .int .i64 _, .int .i64 _, .slice _ _ _]) 0 rf rf) rf) ?_
 refine zD hF (y_callL rf rf Tryz.call27 (fun w hw => great_any l a cap ae cape w)) ?_
 refine zm (.bool _) hF ?_
 refine WS_split 33 rf (fun g2_2 => ?_) (fun g2_2 => ?_)
 ·
  try simp only [qz1, qz2, qz3, qz4, qz5, qz6, qz7, qz8] at g2_2
  refine zno hF ?_
  refine zno hF ?_
  refine zno hF ?_
  refine zD hF (zpk (.bool _)) ?_
  refine zm (.bool _) hF ?_
  refine zno hF ?_
  refine zno hF ?_
  refine zD hF (zpk (.bool _)) ?_
  refine zN ?_
  refine W_cond rf (fun c2 => ?_) (fun c2 => ?_)
  ·
   try simp only [qz1, qz2, qz3, qz4, qz5, qz6, qz7, qz8] at c2
   refine zR fun ds => ?_
   refine zm (.bool _) hF ?_
   refine za (.bool _) hF ?_
   refine zN ?_
   refine W_ret ?_
   refine Then_ret ?_
   refine Fin_ret [.bool _] [] Tryz.results7 ⟨by rfl, trivial⟩ HSub.nil ?_
   rfl
  ·cases c2
 ·
  try simp only [qz1, qz2, qz3, qz4, qz5, qz6, qz7, qz8] at g2_2
  have hgr : ¬ (l.tk.n : Int) > 40 ∧ ¬ (l.es.length : Int) > 24 := by simpa using g2_2
  have hgn : l.tk.n ≤ 1000000 := by omega
  have hge : l.es.length ≤ 1000000 := by omega
  refine zD hF (y_loadN rf Tryz.isAgg62 Tryz.sizeOf62 (Mem.own (us := [.slice _ _ _, .int .i64 _, .int .i64 _, .int .i64 _, .int .i64 _, .slice _ _ _]) 0 rf rf) rf) ?_
  refine zD hF (y_callL rf rf Tryz.call28 (fun w hw => rlog_any l a cap ae cape w hgn (hx.st w hw) (he.st w hw))) ?_
  refine zD hF (y_not rf) ?_
  refine zD hF (zpk (.bool _)) ?_
  refine zm (.bool _) hF ?_
  refine WS_split 38 rf (fun g2_7 => ?_) (fun g2_7 => ?_)
  ·
   try simp only [qz1, qz2, qz3, qz4, qz5, qz6, qz7, qz8] at g2_7
   refine zno hF ?_
   refine zno hF ?_
   refine zD hF (zpk (.bool _)) ?_
   refine zN ?_
   refine W_cond rf (fun c2 => ?_) (fun c2 => ?_)
   ·
    try simp only [qz1, qz2, qz3, qz4, qz5, qz6, qz7, qz8] at c2
    refine zR fun ds => ?_
    refine zm (.bool _) hF ?_
    refine za (.bool _) hF ?_
    refine zN ?_
    refine W_ret ?_
    refine Then_ret ?_
    refine Fin_ret [.bool _] [] Tryz.results7 ⟨by rfl, trivial⟩ HSub.nil ?_
    rfl
   ·cases c2
  ·
   try simp only [qz1, qz2, qz3, qz4, qz5, qz6, qz7, qz8] at g2_7
   have hlg : l.tk.okB = true ∧ l.okB = true := by simpa using g2_7
   have hl0 : l.err = 0 := Lg.err0_iff.2 hlg
   refine zm (.bool _) hF ?_
   refine zD hF (y_not rf) ?_
   refine zD hF (zpk (.bool _)) ?_
   refine zN ?_
   refine W_cond rf (fun c2 => ?_) (fun c2 => ?_)
   ·cases c2
   ·
    try simp only [qz1, qz2, qz3, qz4, qz5, qz6, qz7, qz8] at c2
    refine W_skip ?_
    refine zS fun ds => ?_
    refine zm (.int .u8 _) hF ?_
    refine zD hF (y_conv_iu rf Tryz.runUnderlying5 Tryz.runUnderlying3 (by first | exact IntWalk.i64_in _ om0 | exact IntWalk.u64_in _ om0)) ?_
    refine zD hF (y_rem rf rf om0 om0) ?_
    refine zD hF (y_add rf rf ui) ?_
    refine zm (.int .u8 _) hF ?_
    refine zD hF (y_conv_iu rf Tryz.runUnderlying5 Tryz.runUnderlying3 (by first | exact IntWalk.i64_in _ om0 | exact IntWalk.u64_in _ om0)) ?_
    refine zD hF (y_rem rf rf om0 om0) ?_
    refine zD hF (y_add rf rf ui) ?_
    refine WS_newS hF rf (y_buildSliceL bs22_2_0_1 rf) (fun bz => ?_)
    refine za (.slice _ _ _) hF ?_
    refine zP fun ds => ?_
    refine zD hF (y_loadN rf Tryz.isAgg62 Tryz.sizeOf62 (Mem.own (us := [.slice _ _ _, .int .i64 _, .int .i64 _, .int .i64 _, .int .i64 _, .slice _ _ _]) 1 rf rf) rf) ?_
    refine zm (.slice _ _ _) hF ?_
    refine WS_gen hF rf (y_callL rf rf Tryz.call29 (fun w hw => begin_any l a cap ae cape _ 2 2 [1 + n % 20, 1 + m % 20] w (hG.st w hw) dc hgn (hx.st w hw) (he.st w hw) (Ints.mem (rest := []) 0 rf rf dc w hw))) ?_
    rintro _ _ ⟨_, rfl, z1, q1, z2, q2, G1, G2, rfl, hg1, hg2, rfl⟩
    obtain ⟨c, hc⟩ : ∃ c, c = begC l [1 + n % 20, 1 + m % 20] := ⟨_, rfl⟩
    have hD : ∀ k, k < 2 → 1 ≤ [1 + n % 20, 1 + m % 20].getD k 0 ∧ [1 + n % 20, 1 + m % 20].getD k 0 ≤ 20 := fun k hk => by
     obtain rfl | rfl : k = 0 ∨ k = 1 := by omega
     ·simp only [List.getD_cons_zero]; omega
     ·simp only [List.getD_cons_succ, List.getD_cons_zero]; omega
    have hbe : begE l [1 + n % 20, 1 + m % 20] = l.aerr := by
     by_cases h : l.aerr = 0
     ·rw [(bgI h rfl hD).2.1, h]
     ·unfold begE; rw [if_neg h]
    rw [← hc] at hg1 hg2 ⊢
    rw [hbe]
    refine WS_back ?_
    refine zm (.tuple _) hF ?_
    refine zD hF (y_extract (c := .agg _) rf rf) ?_
    refine zD hF (y_extract (c := .int .i64 _) rf rf) ?_
    refine WS_new hF rf (y_alloc Tryz.zeroValue24 rf) (fun bc => ?_)
    refine WS_store hF (us := [.slice _ _ _, .slice _ _ _, .int .i64 _]) (i := 0) rf rf Tryz.sizeOf24 rf rf rf d20 ?_
    refine za (.int .i64 _) hF ?_
    refine zP fun ds => ?_
    refine zD hF (y_loadN rf Tryz.isAgg62 Tryz.sizeOf62 (Mem.own (us := [.slice _ _ _, .int .i64 _, .int .i64 _, .int .i64 _, .int .i64 _, .slice _ _ _]) 2 rf rf) rf) ?_
    refine zD hF (y_callL rf rf Tryz.call30 (fun w hw => Ct_eq (ready_any l a cap ae cape w hgn (hx.st w hw) (he.st w hw)) l.readyV_eq)) ?_
    refine zm (.tuple _) hF ?_
    refine zD hF (y_extract (c := .agg _) rf rf) ?_
    refine zD hF (y_extract (c := .int .i64 _) rf rf) ?_
    refine WS_new hF rf (y_alloc Tryz.zeroValue59 rf) (fun br => ?_)
    refine WS_store hF (us := [.int .i64 _, .int .i64 _]) (i := 0) rf rf Tryz.sizeOf59 rf rf rf d20 ?_
    refine za (.int .i64 _) hF ?_
    refine zO ?_
    refine zR fun ds => ?_
    refine zm (.int .i64 _) hF ?_
    refine zm (.int .i64 _) hF ?_
    refine zD hF (YD_no (y_neq rf rf) dect) ?_
    refine zm (.bool _) hF ?_
    refine zm (.int .i64 _) hF ?_
    refine zD hF (y_neq rf rf) ?_
    refine zD hF (zpk (.bool _)) ?_
    refine zN ?_
    refine W_cond rf (fun c7 => ?_) (fun c7 => ?_)
    ·
     try simp only [qz1, qz2, qz3, qz4, qz5, qz6, qz7, qz8] at c7
     have h8 : l.aerr = 8 := by
      rcases Lg.aerr_cases hl0 with h | h
      ·exact absurd h.1 om0
      ·exact h.1
     refine zR fun ds => ?_
     refine zm (.bool _) hF ?_
     refine zm (.bool _) hF ?_
     refine zm (.int .i64 _) hF ?_
     refine zm (.int .i64 _) hF ?_
     refine zD hF (YD_yes (y_eql rf rf) dect) ?_
     refine zD hF (zpk (.bool _)) ?_
     refine zm (.bool _) hF ?_
     refine zm (.int .i64 _) hF ?_
     refine zD hF (YD_yes (y_eql rf rf) dect) ?_
     refine zD hF (zpk (.bool _)) ?_
     refine za (.bool _) hF ?_
     refine zN ?_
     refine W_ret ?_
     refine Then_ret ?_
     refine Fin_ret [.bool _] [] Tryz.results7 ⟨by rfl, trivial⟩ HSub.nil ?_
     rfl
    ·
     try simp only [qz1, qz2, qz3, qz4, qz5, qz6, qz7, qz8] at c7
     have ha0 : l.aerr = 0 := by omega
     obtain ⟨hbc, _, hI⟩ := bgI ha0 rfl hD
     rw [← hc] at hbc
     rw [← hbc] at hI
     have hok := hI.ok
     have hok1 := hok.n1
     have hok3 := hok.n3
     have hlen := hok.len
     have hcn : c.n = 2 := by unfold Cn.n; rw [hI.sz]; rfl
     have hn : c.n ≤ 1000000 := by omega
     have hm : c.inn.length ≤ 1000000 := by omega
     obtain ⟨bi, rfl⟩ := NewRow.adr hg2 om0
     have hi0 := hI.i0 0 (show 0 < 2 by decide)
     have hi1 := hI.i0 1 (show 1 < 2 by decide)
     have hst := hI.st
     refine zU ?_
     refine W_seq ?_
     refine zR fun ds => ?_
     refine zD hF (y_loadN rf Tryz.isAgg24 Tryz.sizeOf24 (Mem.own (us := [.slice _ _ _, .slice _ _ _, .int .i64 _]) 1 rf rf) rf) ?_
     refine zD hF (y_callL rf rf Tryz.call31 (fun w hw => Ct_eq (rcans_any c z1 q1 _ q2 w hn hm (NewRow.ints hg1 rfl sbA w hw) (NewRow.ints hg2 rfl sbA w hw)) (show Value.bool c.okB = .bool true by rw [Cn.ok_iff.2 hok]))) ?_
     refine zD hF (y_not rf) ?_
     refine zm (.bool _) hF ?_
     refine zD hF (y_fieldAddr rf fa24_0) ?_
     refine zD hF (y_load1 rf Tryz.isAgg22 (Mem.own1 1 rf rf)) ?_
     refine zm (.slice _ _ _) hF ?_
     refine zD hF (y_callL rf rf Tryz.call23 (fun w hw => Ct_eq (sameInts2_any _ _ _ _ _ _ c.sz [1 + n % 20, 1 + m % 20] w hn (NewRow.ints hg1 rfl sbA w hw) (Ints.mem (rest := []) 2 rf rf dc w hw)) (show Value.bool (decide (c.sz = [1 + n % 20, 1 + m % 20])) = .bool true by rw [hI.sz]; simp))) ?_
     refine zD hF (y_not rf) ?_
     refine zD hF (zpk (.bool _)) ?_
     refine zm (.bool _) hF ?_
     refine zD hF (y_fieldAddr rf fa24_1) ?_
     refine zD hF (y_load1 rf Tryz.isAgg22 (Mem.own1 1 rf rf)) ?_
     refine zD hF (y_index (k := 0) rf rf r10 d10 Tryz.runUnderlying22 Tryz.sizeOf3) ?_
     refine zD hF (y_load1 rf Tryz.isAgg3 (fun w hw => (show At w bi (0 + 0) [.int .i64 0] by have h := (NewRow.ints hg2 rfl sbA w hw).at (k := 0) om0; rw [hi0] at h; exact h))) ?_
     refine zD hF (YD_no (y_neq rf rf) dect) ?_
     refine zD hF (zpk (.bool _)) ?_
     refine zm (.bool _) hF ?_
     refine zD hF (y_fieldAddr rf fa24_1) ?_
     refine zD hF (y_load1 rf Tryz.isAgg22 (Mem.own1 1 rf rf)) ?_
     refine zD hF (y_index (k := 1) rf rf r10 d10 Tryz.runUnderlying22 Tryz.sizeOf3) ?_
     refine zD hF (y_load1 rf Tryz.isAgg3 (fun w hw => (show At w bi (0 + 1) [.int .i64 0] by have h := (NewRow.ints hg2 rfl sbA w hw).at (k := 1) om0; rw [hi1] at h; exact h))) ?_
     refine zD hF (YD_no (y_neq rf rf) dect) ?_
     refine zD hF (zpk (.bool _)) ?_
     refine zm (.bool _) hF ?_
     refine zD hF (y_fieldAddr rf fa24_2) ?_
     refine zD hF (y_load1 rf Tryz.isAgg3 (Mem.own1 1 rf rf)) ?_
     refine zD hF (y_fieldAddr rf fa59_0) ?_
     refine zD hF (y_load1 rf Tryz.isAgg3 (Mem.own1 0 rf rf)) ?_
     refine zD hF (YD_no (y_neq rf rf) dect) ?_
     refine zD hF (zpk (.bool _)) ?_
     refine zN ?_
     refine W_cond rf (fun c9 => ?_) (fun c9 => ?_)
     ·cases c9
     ·
      try simp only [qz1, qz2, qz3, qz4, qz5, qz6, qz7, qz8] at c9
      refine W_skip ?_
      refine zS fun ds => ?_
      refine zD hF (y_loadN rf Tryz.isAgg24 Tryz.sizeOf24 (Mem.own (us := [.slice _ _ _, .slice _ _ _, .int .i64 _]) 1 rf rf) rf) ?_
      refine zm (.slice _ _ _) hF ?_
      refine WS_gen hF rf (y_callL rf rf Tryz.call17 (fun w hw => lwalk_any c z1 q1 _ q2 ba bn bcap by_ 8 w hok hn hm (NewRow.ints hg1 rfl sbA w hw) (NewRow.ints hg2 rfl sbA w hw) om0 (hby.st w hw))) ?_
      rintro _ _ ⟨ps, bs, aA, kA, HA, aL, kL, HL, HX, rfl, hpl, hS, rfl⟩
      obtain ⟨ba0, rfl⟩ := NewRow.adr hS.rowA (by simp)
      have hBl := hS.len
      have hcl : (c.b0 z1 q1 (some ⟨bi, 0, none⟩) q2 :: bs).length = bs.length + 1 := rfl
      have hkl := NewRow.cap_le2 hS.rowL
      have hsp := dr_spec hok hS.run hI.le hl0 (Lg.aerrz ha0).2 hI.sm
      refine WS_back ?_
      try simp only [List.append_eq]
      refine zm (.tuple _) hF ?_
      refine zD hF (y_extract (c := .slice _ _ _) rf rf) ?_
      refine zD hF (y_extract (c := .slice _ _ _) rf rf) ?_
      refine za (.slice _ _ _) hF ?_
      refine za (.slice _ _ _) hF ?_
      refine zO ?_
      refine W_sub (HSub.sub (Hn := (br, _) :: (bc, _) :: (b1, _) :: (G1 ++ (G2 ++ (HX ++ (HA ++ HL))))) sbA) ?_
      refine W_region_lit (fun ds => ?_)
      refine za (.int .i64 _) hF ?_
      refine zO ?_
      refine zR fun ds => ?_
      refine zm (.slice _ _ _) hF ?_
      refine zD hF (y_len rf Tryz.runUnderlying35) ?_
      refine zm (.int .i64 _) hF ?_
      refine zN ?_
      refine W_block ?_
      refine W_loop (γ := Nat) (fun i => i ≤ ps.length) (fun i => [(4, .pointer (some ⟨b1, 0, none⟩)), (9, .bool true), (11, .pointer (some ⟨bc, 0, none⟩)), (13, .pointer (some ⟨br, 0, none⟩)), (15, .slice (some ⟨ba0, 0, none⟩) (c.b0 z1 q1 (some ⟨bi, 0, none⟩) q2 :: bs).length kA), (16, .slice aL ps.length kL), (17, .int .i64 (fillN ps i : Int)), (117, .slice aL ps.length kL), (118, .int .i64 (ps.length : Int)), (119, .int .i64 (i : Int))]) (fun i => (br, CB l.rdS.cells 59) :: (bc, CB [.slice z1 c.n q1, .slice (some ⟨bi, 0, none⟩) c.inn.length q2, .int .i64 c.st] 24) :: (b1, CB [.slice a l.tk.n cap, .int .i64 l.tk.leak, .int .i64 l.tk.foot, .int .i64 l.start.lo, .int .i64 l.start.hi, .slice ae l.es.length cape] 62) :: (G1 ++ (G2 ++ (HX ++ (HA ++ HL))))) (fun i => ps.length - i) (0) (Nat.zero_le _) s10 (sbA) ?_
      rintro i e hi
      refine zR fun ds => ?_
      refine zD hF (y_lss rf rf) ?_
      refine zO ?_
      refine W_cond rf (fun c14 => ?_) (fun c14 => ?_)
      ·
       try simp only [qz1, qz2, qz3, qz4, qz5, qz6, qz7, qz8] at c14
       have hil : i < ps.length := by omega
       obtain ⟨bl, rfl⟩ := NewRow.adr hS.rowL om0
       obtain ⟨⟨pf, pt⟩, hp⟩ : ∃ p, p = ps.getD i Po.z := ⟨_, rfl⟩
       have hfs := fillN_succ ps i hp
       have hfl := fillN_le ps i
       refine zU ?_
       refine W_seq ?_
       refine W_block ?_
       refine zR fun ds => ?_
       refine zD hF (y_index (k := i) rf rf r10 d10 Tryz.runUnderlying35 Tryz.sizeOf47) ?_
       refine zD hF (y_loadN rf Tryz.isAgg47 Tryz.sizeOf47 (fun w hw => (show At w bl (0 + i * 2) [.int .i64 pf, .int .i64 pt] by have h := hS.pcell hil sbA w hw; rw [← hp] at h; exact h)) rf) ?_
       refine WS_new hF rf (y_alloc Tryz.zeroValue47 rf) (fun bq => ?_)
       refine WS_store hF (us := [.int .i64 _, .int .i64 _]) (i := 0) rf rf Tryz.sizeOf47 rf rf rf d20 ?_
       refine zP fun ds => ?_
       refine zD hF (y_fieldAddr rf fa47_0) ?_
       refine zD hF (y_load1 rf Tryz.isAgg3 (Mem.own1 0 rf rf)) ?_
       refine zD hF (y_eql rf rf) ?_
       refine zm (.bool _) hF ?_
       refine WS_split 126 rf (fun g16_3 => ?_) (fun g16_3 => ?_)
       ·
        try simp only [qz1, qz2, qz3, qz4, qz5, qz6, qz7, qz8] at g16_3
        refine zno hF ?_
        refine zno hF ?_
        refine zno hF ?_
        refine zD hF (zpk (.bool _)) ?_
        refine zN ?_
        refine W_cond rf (fun c16 => ?_) (fun c16 => ?_)
        ·
         try simp only [qz1, qz2, qz3, qz4, qz5, qz6, qz7, qz8] at c16
         refine W_region_lit (fun ds => ?_)
         refine zm (.int .i64 _) hF ?_
         refine zD hF (y_add rf rf ui) ?_
         refine za (.int .i64 _) hF ?_
         refine WS_nil ?_
         refine InB_normal ?_
         refine zT fun ds => ?_
         refine zD hF (y_add rf rf ui) ?_
         refine zm (.int .i64 _) hF ?_
         refine WS_nil ?_
         exact Loop_next (i + 1) om0 (by (first | rw [hfs, if_pos (by simp only [fillB, Bool.or_eq_true, decide_eq_true_eq]; omega)] | rw [hfs, if_neg (by simp only [fillB, Bool.or_eq_true, decide_eq_true_eq]; omega)]); repeat (first | exact trivial | refine ⟨by rfl, ?_⟩)) sbA om0
        ·cases c16
       ·
        try simp only [qz1, qz2, qz3, qz4, qz5, qz6, qz7, qz8] at g16_3
        refine zD hF (y_fieldAddr rf fa47_1) ?_
        refine zD hF (y_load1 rf Tryz.isAgg3 (Mem.own1 0 rf rf)) ?_
        refine zD hF (y_eql rf rf) ?_
        refine zD hF (zpk (.bool _)) ?_
        refine zN ?_
        refine W_cond rf (fun c16 => ?_) (fun c16 => ?_)
        ·
         try simp only [qz1, qz2, qz3, qz4, qz5, qz6, qz7, qz8] at c16
         refine W_region_lit (fun ds => ?_)
         refine zm (.int .i64 _) hF ?_
         refine zD hF (y_add rf rf ui) ?_
         refine za (.int .i64 _) hF ?_
         refine WS_nil ?_
         refine InB_normal ?_
         refine zT fun ds => ?_
         refine zD hF (y_add rf rf ui) ?_
         refine zm (.int .i64 _) hF ?_
         refine WS_nil ?_
         exact Loop_next (i + 1) om0 (by (first | rw [hfs, if_pos (by simp only [fillB, Bool.or_eq_true, decide_eq_true_eq]; omega)] | rw [hfs, if_neg (by simp only [fillB, Bool.or_eq_true, decide_eq_true_eq]; omega)]); repeat (first | exact trivial | refine ⟨by rfl, ?_⟩)) sbA om0
        ·
         try simp only [qz1, qz2, qz3, qz4, qz5, qz6, qz7, qz8] at c16
         refine W_skip ?_
         refine InB_normal ?_
         refine zT fun ds => ?_
         refine zD hF (y_add rf rf ui) ?_
         refine zm (.int .i64 _) hF ?_
         refine WS_nil ?_
         exact Loop_next (i + 1) om0 (by (first | rw [hfs, if_pos (by simp only [fillB, Bool.or_eq_true, decide_eq_true_eq]; omega)] | rw [hfs, if_neg (by simp only [fillB, Bool.or_eq_true, decide_eq_true_eq]; omega)]); repeat (first | exact trivial | refine ⟨by rfl, ?_⟩)) sbA om0
      ·
       try simp only [qz1, qz2, qz3, qz4, qz5, qz6, qz7, qz8] at c14
       obtain rfl : i = ps.length := by omega
       have hfl := fillN_le ps ps.length
       refine W_exit ?_
       refine Then_exit ?_
       refine Loop_exit ?_
       refine InB_same ?_
       refine zS fun ds => ?_
       refine zD hF (y_loadN rf Tryz.isAgg62 Tryz.sizeOf62 (Mem.own (us := [.slice _ _ _, .int .i64 _, .int .i64 _, .int .i64 _, .int .i64 _, .slice _ _ _]) 2 rf rf) rf) ?_
       refine zD hF (y_loadN rf Tryz.isAgg24 Tryz.sizeOf24 (Mem.own (us := [.slice _ _ _, .slice _ _ _, .int .i64 _]) 1 rf rf) rf) ?_
       refine zm (.slice _ _ _) hF ?_
       refine WS_gen hF rf (y_callL rf rf Tryz.call32 (fun w hw => written_any l a cap ae cape c z1 q1 _ q2 ps aL kL w (hG.st w hw) om0 hgn hge (hx.st w hw) (he.st w hw) hn hm (NewRow.ints hg1 rfl sbA w hw) (NewRow.ints hg2 rfl sbA w hw) (hS.pos sbA w hw))) ?_
       rintro _ _ ⟨_, rfl, hTW⟩
       obtain ⟨L', hL'⟩ : ∃ L', L' = wtL l c ps := ⟨_, rfl⟩
       obtain ⟨E', hE'⟩ : ∃ E', E' = wtE l c ps := ⟨_, rfl⟩
       rw [← hL'] at hTW
       rw [← hE']
       rw [← hL', ← hE'] at hsp
       obtain ⟨e1, f1, e2, f2, U1, U2, rfl, hu1, hu2, rfl⟩ := hTW
       refine WS_back ?_
       try simp only [List.append_eq]
       refine zm (.tuple _) hF ?_
       refine zD hF (y_extract (c := .agg _) rf rf) ?_
       refine zD hF (y_extract (c := .int .i64 _) rf rf) ?_
       refine WS_new hF rf (y_alloc Tryz.zeroValue62 rf) (fun bw => ?_)
       refine WS_store hF (us := [.slice _ _ _, .int .i64 _, .int .i64 _, .int .i64 _, .int .i64 _, .slice _ _ _]) (i := 0) rf rf Tryz.sizeOf62 rf rf rf d20 ?_
       refine za (.int .i64 _) hF ?_
       refine zO ?_
       refine zR fun ds => ?_
       refine zD hF (y_fieldAddr rf fa62_2) ?_
       refine zD hF (y_load1 rf Tryz.isAgg60 (Mem.own1 3 rf rf)) ?_
       refine zD hF (y_len rf Tryz.runUnderlying60) ?_
       refine zm (.int .i64 _) hF ?_
       refine zD hF (y_add rf rf ui) ?_
       refine zD hF (y_gtr rf rf) ?_
       refine zN ?_
       refine W_cond rf (fun c20 => ?_) (fun c20 => ?_)
       ·
        try simp only [qz1, qz2, qz3, qz4, qz5, qz6, qz7, qz8] at c20
        have h9 : E' = 9 := hsp.1 om0
        refine zR fun ds => ?_
        refine zm (.bool _) hF ?_
        refine zm (.bool _) hF ?_
        refine zm (.int .i64 _) hF ?_
        refine zD hF (YD_yes (y_eql rf rf) dect) ?_
        refine zD hF (zpk (.bool _)) ?_
        refine za (.bool _) hF ?_
        refine zN ?_
        refine W_ret ?_
        refine Then_ret ?_
        refine Fin_ret [.bool _] [] Tryz.results7 ⟨by rfl, trivial⟩ HSub.nil ?_
        rfl
       ·
        try simp only [qz1, qz2, qz3, qz4, qz5, qz6, qz7, qz8] at c20
        obtain ⟨h0', hLw, hDr⟩ := hsp.2 om0
        have htk : L'.tk = l.tk := by rw [hLw]; exact wrK_tk l c ps ps.length
        have hlen' : L'.es.length = l.es.length + fillN ps ps.length := by rw [hLw]; exact hDr.len
        have hlg' : L'.tk.okB = true ∧ L'.okB = true := Lg.err0_iff.1 (by rw [hLw]; exact hDr.err)
        have hgn' : L'.tk.n ≤ 1000000 := by rw [htk]; exact hgn
        refine zU ?_
        refine W_seq ?_
        refine zR fun ds => ?_
        refine zm (.int .i64 _) hF ?_
        refine zD hF (YD_no (y_neq rf rf) dect) ?_
        refine zm (.bool _) hF ?_
        refine zD hF (y_loadN rf Tryz.isAgg62 Tryz.sizeOf62 (Mem.own (us := [.slice _ _ _, .int .i64 _, .int .i64 _, .int .i64 _, .int .i64 _, .slice _ _ _]) 0 rf rf) rf) ?_
        refine zD hF (y_callL rf rf Tryz.call28 (fun w hw => Ct_eq (rlog_any L' e1 f1 e2 f2 w hgn' (NewRow.ints hu1 rfl sbA w hw) (NewRow.rws en_len hu2 rfl sbA w hw)) (show Value.bool (L'.tk.okB && L'.okB) = .bool true by rw [hlg'.1, hlg'.2]; rfl))) ?_
        refine zD hF (y_not rf) ?_
        refine zD hF (zpk (.bool _)) ?_
        refine zm (.bool _) hF ?_
        refine zD hF (y_fieldAddr rf fa62_2) ?_
        refine zD hF (y_load1 rf Tryz.isAgg60 (Mem.own1 0 rf rf)) ?_
        refine zD hF (y_len rf Tryz.runUnderlying60) ?_
        refine zD hF (y_fieldAddr rf fa62_2) ?_
        refine zD hF (y_load1 rf Tryz.isAgg60 (Mem.own1 3 rf rf)) ?_
        refine zD hF (y_len rf Tryz.runUnderlying60) ?_
        refine zm (.int .i64 _) hF ?_
        refine zD hF (y_add rf rf ui) ?_
        refine zD hF (YD_no (y_neq rf rf) dect) ?_
        refine zD hF (zpk (.bool _)) ?_
        refine zN ?_
        refine W_cond rf (fun c22 => ?_) (fun c22 => ?_)
        ·cases c22
        ·
         try simp only [qz1, qz2, qz3, qz4, qz5, qz6, qz7, qz8] at c22
         refine zU ?_
         refine W_seq ?_
         obtain ⟨y, hy, hyx, hyr⟩ := hS.get (c.b0x z1 q1 (some ⟨bi, 0, none⟩) q2) (k := bs.length) (Nat.le_refl _)
         rw [hBl] at hyx
         have hin : c.In y.x := by rw [hyx]; exact hok.run_in fun j hj => hS.run j om0
         have hoky := hok.of hin
         have hyl := c.of_len y.x hok3
         have hyc := hok.of_co hin
         have hsy := Cn.sum_sm hok hin
         obtain ⟨less, hless⟩ : ∃ s, s = sumL (c.of y.x).inn := ⟨_, rfl⟩
         have hds := drawn_spec hDr hok hS.run ha0 (hI.sm.trans hst) hyx hless
         rw [← hLw] at hds
         obtain ⟨hd1, hd2, ⟨rhi, hd3⟩, hd4, hd5, hd6, hd7, hd8, hd9⟩ := hds
         have hyR : y.RdH c (G1 ++ (G2 ++ HX)) := by
          rcases hyr with rfl | h
          ·exact Bl.RdH.two (x := c.co) hg1 (by rw [hok.co_of]; exact hg2) sbA
          ·exact h.mono sbA
         refine W_region_lit (fun ds => ?_)
         refine zm (.slice _ _ _) hF ?_
         refine zm (.slice _ _ _) hF ?_
         refine zD hF (y_len rf Tryz.runUnderlying34) ?_
         refine zD hF (y_sub rf rf ui) ?_
         refine zD hF (y_index (k := bs.length) rf rf r10 d10 Tryz.runUnderlying34 Tryz.sizeOf24) ?_
         refine zD hF (y_loadN rf Tryz.isAgg24 Tryz.sizeOf24 (hS.cell (Nat.le_refl _) hy sbA) rf) ?_
         refine WS_new hF rf (y_alloc Tryz.zeroValue24 rf) (fun be => ?_)
         refine WS_store hF (us := [.slice _ _ _, .slice _ _ _, .int .i64 _]) (i := 0) rf rf Tryz.sizeOf24 rf rf rf d20 ?_
         refine zO ?_
         refine W_draw0 hF Tryzmixed [] dk0 (fun ds => ?_)
         refine P_det rf (Over_nil (y_loadN rf Tryz.isAgg24 Tryz.sizeOf24 (Mem.own (us := [.slice _ _ _, .slice _ _ _, .int .i64 _]) 0 rf rf) rf)) ?_
         refine P_det rf (Over_nil (y_callL rf rf Tryz.call33 (fun w hw => Ct_eq (rcsum_any (c.of y.x) y.s y.ks y.i y.ki w hoky.inn_bd.1 ⟨hoky.st0, hoky.st1⟩ hoky.inn_bd.2 (hyR.i _ _ w sbA hw)) (show _ = Value.int .i64 (y.x.a + less) by rw [hless]; rfl)))) ?_
         refine P_det rf (Over_nil (y_fieldAddr rf fa24_2)) ?_
         refine P_det rf (Over_nil (y_load1 rf Tryz.isAgg3 (Mem.own1 0 rf rf))) ?_
         refine P_det rf (Over_nil (y_sub rf rf ui)) ?_
         refine P_det rf (Over_nil (y_assign (c := .int .i64 _) rf)) ?_
         refine PW_end rf ?_
         refine OverAll_nil ?_
         rintro -
         refine zS fun ds => ?_
         refine zD hF (y_loadN rf Tryz.isAgg62 Tryz.sizeOf62 (Mem.own (us := [.slice _ _ _, .int .i64 _, .int .i64 _, .int .i64 _, .int .i64 _, .slice _ _ _]) 4 rf rf) rf) ?_
         refine zD hF (y_fieldAddr rf fa62_2) ?_
         refine zD hF (y_load1 rf Tryz.isAgg60 (Mem.own1 4 rf rf)) ?_
         refine zD hF (y_len rf Tryz.runUnderlying60) ?_
         refine zD hF (y_callL rf rf Tryz.call34 (fun w hw => Ct_eq (holds_any l a cap ae cape (l.es.length : Int) w hgn (hx.st w hw) (he.st w hw)) hd1)) ?_
         refine zm (.tuple _) hF ?_
         refine zD hF (y_extract (c := .agg _) rf rf) ?_
         refine zD hF (y_extract (c := .int .i64 _) rf rf) ?_
         refine WS_new hF rf (y_alloc Tryz.zeroValue59 rf) (fun bh => ?_)
         refine WS_store hF (us := [.int .i64 _, .int .i64 _]) (i := 0) rf rf Tryz.sizeOf59 rf rf rf d20 ?_
         refine za (.int .i64 _) hF ?_
         refine zP fun ds => ?_
         refine zD hF (y_loadN rf Tryz.isAgg62 Tryz.sizeOf62 (Mem.own (us := [.slice _ _ _, .int .i64 _, .int .i64 _, .int .i64 _, .int .i64 _, .slice _ _ _]) 2 rf rf) rf) ?_
         refine zD hF (y_fieldAddr rf fa62_2) ?_
         refine zD hF (y_load1 rf Tryz.isAgg60 (Mem.own1 2 rf rf)) ?_
         refine zD hF (y_len rf Tryz.runUnderlying60) ?_
         refine zD hF (y_callL rf rf Tryz.call34 (fun w hw => Ct_eq (holds_any L' e1 f1 e2 f2 (L'.es.length : Int) w hgn' (NewRow.ints hu1 rfl sbA w hw) (NewRow.rws en_len hu2 rfl sbA w hw)) hd2)) ?_
         refine zm (.tuple _) hF ?_
         refine zD hF (y_extract (c := .agg _) rf rf) ?_
         refine zD hF (y_extract (c := .int .i64 _) rf rf) ?_
         refine WS_new hF rf (y_alloc Tryz.zeroValue59 rf) (fun bh2 => ?_)
         refine WS_store hF (us := [.int .i64 _, .int .i64 _]) (i := 0) rf rf Tryz.sizeOf59 rf rf rf d20 ?_
         refine za (.int .i64 _) hF ?_
         refine zP fun ds => ?_
         refine zD hF (y_loadN rf Tryz.isAgg62 Tryz.sizeOf62 (Mem.own (us := [.slice _ _ _, .int .i64 _, .int .i64 _, .int .i64 _, .int .i64 _, .slice _ _ _]) 3 rf rf) rf) ?_
         refine zD hF (y_callL rf rf Tryz.call30 (fun w hw => Ct_eq (ready_any L' e1 f1 e2 f2 w hgn' (NewRow.ints hu1 rfl sbA w hw) (NewRow.rws en_len hu2 rfl sbA w hw)) hd3)) ?_
         refine zm (.tuple _) hF ?_
         refine zD hF (y_extract (c := .agg _) rf rf) ?_
         refine zD hF (y_extract (c := .int .i64 _) rf rf) ?_
         refine WS_new hF rf (y_alloc Tryz.zeroValue59 rf) (fun br2 => ?_)
         refine WS_store hF (us := [.int .i64 _, .int .i64 _]) (i := 0) rf rf Tryz.sizeOf59 rf rf rf d20 ?_
         refine za (.int .i64 _) hF ?_
         refine zO ?_
         refine W_draw0 hF Tryzmixed [] dk0 (fun ds => ?_)
         refine P_det rf (Over_nil (y_move (c := .bool _) rf)) ?_
         refine P_det rf (Over_nil (y_move (c := .bool _) rf)) ?_
         refine P_det rf (Over_nil (y_move (c := .int .i64 _) rf)) ?_
         refine P_det rf (Over_nil (YD_yes (y_eql rf rf) dect)) ?_
         refine P_det rf (Over_nil (by first | exact y_pick_t (c := .bool _) rf rf | exact y_pick_f (c := .bool _) rf rf)) ?_
         refine P_det rf (Over_nil (y_move (c := .bool _) rf)) ?_
         refine P_det rf (Over_nil (y_move (c := .int .i64 _) rf)) ?_
         refine P_det rf (Over_nil (YD_yes (y_eql rf rf) dect)) ?_
         refine P_det rf (Over_nil (by first | exact y_pick_t (c := .bool _) rf rf | exact y_pick_f (c := .bool _) rf rf)) ?_
         refine P_det rf (Over_nil (y_move (c := .bool _) rf)) ?_
         refine P_det rf (Over_nil (y_loadN rf Tryz.isAgg59 Tryz.sizeOf59 (Mem.own (us := [.int .i64 _, .int .i64 _]) 1 rf rf) rf)) ?_
         refine P_det rf (Over_nil (y_fieldAddr rf fa59_0)) ?_
         refine P_det rf (Over_nil (y_load1 rf Tryz.isAgg3 (Mem.own1 2 rf rf))) ?_
         refine P_det rf (Over_nil (y_move (c := .int .i64 _) rf)) ?_
         refine P_det rf (Over_nil (y_sub rf rf ui)) ?_
         refine P_det rf (Over_nil (y_fieldAddr rf fa59_1)) ?_
         refine P_det rf (Over_nil (y_load1 rf Tryz.isAgg3 (Mem.own1 2 rf rf))) ?_
         refine P_det rf (Over_nil (y_move (c := .int .i64 _) rf)) ?_
         refine P_det rf (Over_nil (y_sub rf rf ui)) ?_
         refine P_det rf (Over_nil (y_callL rf rf Tryz.call35 (fun w hw => l8span_any _ _ w))) ?_
         refine P_det rf (Over_nil (YD_yes (y_eqlA rf rf eqA59) dect)) ?_
         refine P_det rf (Over_nil (by first | exact y_pick_t (c := .bool _) rf rf | exact y_pick_f (c := .bool _) rf rf)) ?_
         refine P_det rf (Over_nil (y_move (c := .bool _) rf)) ?_
         refine P_det rf (Over_nil (y_move (c := .int .i64 _) rf)) ?_
         refine P_det rf (Over_nil (YD_yes (y_eql rf rf) dect)) ?_
         refine P_det rf (Over_nil (by first | exact y_pick_t (c := .bool _) rf rf | exact y_pick_f (c := .bool _) rf rf)) ?_
         refine P_det rf (Over_nil (y_move (c := .bool _) rf)) ?_
         refine P_det rf (Over_nil (y_fieldAddr rf fa59_0)) ?_
         refine P_det rf (Over_nil (y_load1 rf Tryz.isAgg3 (Mem.own1 0 rf rf))) ?_
         refine P_det rf (Over_nil (y_fieldAddr rf fa59_0)) ?_
         refine P_det rf (Over_nil (y_load1 rf Tryz.isAgg3 (Mem.own1 5 rf rf))) ?_
         refine P_det rf (Over_nil (y_move (c := .int .i64 _) rf)) ?_
         refine P_det rf (Over_nil (y_sub rf rf ui)) ?_
         refine P_det rf (Over_nil (YD_yes (y_eql rf rf) dect)) ?_
         refine P_det rf (Over_nil (by first | exact y_pick_t (c := .bool _) rf rf | exact y_pick_f (c := .bool _) rf rf)) ?_
         refine P_det rf (Over_nil (y_move (c := .bool _) rf)) ?_
         refine P_det rf (Over_nil (y_fieldAddr rf fa59_0)) ?_
         refine P_det rf (Over_nil (y_load1 rf Tryz.isAgg3 (Mem.own1 0 rf rf))) ?_
         refine P_det rf (Over_nil (YD_yes (y_geq rf rf) dect)) ?_
         refine P_det rf (Over_nil (by first | exact y_pick_t (c := .bool _) rf rf | exact y_pick_f (c := .bool _) rf rf)) ?_
         refine P_det rf (Over_nil (y_assign (c := .bool _) rf)) ?_
         refine PW_end rf ?_
         refine OverAll_nil ?_
         rintro -
         refine Then_normal ?_
         refine W_ret ?_
         refine Fin_ret [.bool _] [] Tryz.results7 ⟨by rfl, trivial⟩ HSub.nil ?_
         rfl
end Go.Proofs.YtjekjehgmljbgaaGreatDoor.T
namespace Go.Proofs.YtjekjehgmljbgaaGreatDoor.T
open Go.RowKit Go.Proofs Go.Eng Go.ChangeShapes Go.WideShapes Go.ChangeAt Go.Joins Go.Deep
set_option maxRecDepth 100000
set_option maxHeartbeats 1000000
section
variable {H : Type} {enc : TypeId × Value → H} {w : World} {base : Nat} {spare : Nat → Bool} {held : Bool}
theorem open_intsT {fuel : Nat} {v : Value} {y : DataW H × List MemPlace} (h : DataW.trod enc Tryz.prog w base spare held fuel 22 [v] = some y) (hs : ∀ b, spare b = true) : ∃ a n cap xs, v = .slice a n cap ∧ Ints w a n cap xs := by
 rcases open_ints Tryz.underlying22 Tryz.underlying3 (by kernel_rfl) h with ⟨hcs, _⟩ | ⟨x, l, c, zs, hcs, _, hl, hm, hz, _, hcell, hwz⟩
 ·simp only [List.cons.injEq, and_true] at hcs
  subst hcs
  exact ⟨_, _, _, [], rfl, Ints.nil _ _ _⟩
 ·simp only [List.cons.injEq, and_true] at hcs
  subst hcs
  rw [hs, if_pos rfl] at hz
  refine ⟨_, _, _, zs.take l, rfl, by simp; omega, hl, fun k hk => ?_⟩
  have hc := hcell k om0
  obtain ⟨b, off, spot⟩ := x
  have hspot : spot = none := by
   have := World.cell?_spot (hcell 0 om0)
   simpa [Addr.add] using this
  subst hspot
  have ha : (⟨b, off, none⟩ : Addr).add k = ⟨b, off + k * 1, none⟩ := by unfold Addr.add; split <;> simp_all
  rw [ha] at hc
  refine ⟨b, off, rfl, ?_, trivial⟩
  rw [hc]
  simp [List.getD_eq_getElem?_getD, hk]
theorem cells3 : Tryz.prog.cellsOf 3 = 1 := by kernel_rfl
theorem cells22 : Tryz.prog.cellsOf 22 = 1 := by kernel_rfl
theorem open_u8 {P : Program} {r : Reach} {b0 : Nat} {t : TypeId} {v : Value} {d : DataW H} {ps : List MemPlace} (ht : P.underlying t = some (.int .u8)) (hval : Value.okWide P w r b0 t v) (hd : DataW.Trod enc P w base spare held t v d ps) :
  ∃ n : Int, v = .int .u8 n ∧ 0 ≤ n ∧ n ≤ 255 := by
 obtain ⟨n, rfl, _, _, hw⟩ := open_int ht hval hd
 have hw' : (decide ((0 : Int) ≤ n) && decide (n ≤ 255)) = true := hw
 simp only [Bool.and_eq_true, decide_eq_true_eq] at hw'
 exact ⟨n, rfl, hw'⟩
end
theorem own : ownKnob Tryz.prog.godebug = none := by kernel_rfl
theorem laidOut : laidOutB Tryz.prog = true := by kernel_rfl
set_option maxRecDepth 100000
set_option maxHeartbeats 1000000
section
variable {H : Type} {enc : TypeId × Value → H} {w : World} {base : Nat} {spare : Nat → Bool} {held : Bool}
end
def laidC : List (String × DataW Unit) := [("oilcake/can.checks", Rows.laid_oilcake_can_checks)]
theorem gChecks : Tryz.prog.globalNamed "oilcake/can.checks" = some 0 := by kernel_rfl
theorem tChecks : (Tryz.prog.globals[0]?).map (·.type) = some 159 := by kernel_rfl
theorem door_met (os : Os) (args : Array Value) : laidMetH Tryz.prog laidC ((World.doorLaid Tryz.prog 400 os).forCall (fun _ _ => 0) ⟨#[], args, []⟩).memory :=
 laidMetH_of_parts3 (fuel := 8) (laidMet_of_run' 8 (by kernel_rfl) (by kernel_rfl)) (by kernel_rfl) (by kernel_rfl)
theorem cellsChk : Tryz.prog.cellsOf 158 = 1 := by kernel_rfl
theorem cellsChk3 : Tryz.prog.cellsOf 159 = 3 := by kernel_rfl
theorem cellsFn : Tryz.prog.cellsOf 27 = 1 := by kernel_rfl
theorem chk_fn {W : World} {sp : Nat → Bool} {fuel : Nat} {v : Value} {x : DataW (List UInt8) × List MemPlace} {b : UInt8} {r : List UInt8} {f0 : FuncId}
  (hone : ((List.range Tryz.prog.funcs.size).filter fun f => (Tryz.prog.funcs[f]?).any (·.name.toUTF8.data.toList == b :: r)) = [f0])
  (h : DataW.trod (funcToken Tryz.prog) Tryz.prog W 0 sp true fuel 158 [v] = some x) (hx : x.1 = .agg [.held (b :: r)]) : v = .func (.func f0) #[] #[] := by
 obtain ⟨y0, n, rfl, _, h0⟩ := trod_struct1 Tryz.underlying158 h
 obtain ⟨y, q⟩ := y0
 simp only [DataW.agg.injEq, List.cons.injEq, and_true] at hx
 subst hx
 simp only [cellsFn, List.drop_zero, List.take_succ_cons, List.take_zero] at h0
 exact func_of_trod Tryz.underlying27 hone h0
theorem of_laid {W : World} (h : laidMetH Tryz.prog laidC W) : Gv W := by
 obtain ⟨g, t, cs, fuel, p, hg, ht, hv, hd⟩ := h.funcs (List.mem_singleton.2 rfl)
 obtain rfl := Option.some.inj (gChecks.symm.trans hg)
 obtain rfl := Option.some.inj (tChecks.symm.trans ht)
 have hd' : DataW.trod (funcToken Tryz.prog) Tryz.prog W 0 (fun _ => true) true fuel 159 cs.toList = some (.agg [.agg [.held [111, 105, 108, 99, 97, 107, 101, 47, 99, 97, 110, 46, 99, 104, 101, 99, 107, 115, 36, 49]], .agg [.held [111, 105, 108, 99, 97, 107, 101, 47, 99, 97, 110, 46, 99, 104, 101, 99, 107, 115, 36, 50]], .agg [.held [111, 105, 108, 99, 97, 107, 101, 47, 99, 97, 110, 46, 99, 104, 101, 99, 107, 115, 36, 51]]], p) := hd
 obtain ⟨xs, m1, rfl, hx1, hlen, hn3, hel⟩ := DataW.trod_array Tryz.underlying159 hd'
 simp only [Prod.mk.injEq, DataW.agg.injEq] at hx1
 rw [cellsChk3] at hlen
 have hc := fun i => World.var?_cell hg hv i
 obtain ⟨cl⟩ := cs
 match xs, hn3, hx1, cl, hlen, hel, hc with
 | [x0, x1, x2], _, hx1, [c0, c1, c2], _, hel, hc =>
  simp only [List.map_cons, List.map_nil, List.cons.injEq, and_true] at hx1
  have e0 := hel 0 dc
  have e1 := hel 1 dc
  have e2 := hel 2 dc
  simp only [cellsChk, Nat.zero_mul, Nat.one_mul, Nat.mul_one, List.drop_zero, List.drop_succ_cons, List.take_succ_cons, List.take_zero, List.getElem?_cons_zero, List.getElem?_cons_succ] at e0 e1 e2
  obtain rfl := chk_fn (f0 := 190) (by kernel_rfl) e0 hx1.1.1.symm
  obtain rfl := chk_fn (f0 := 191) (by kernel_rfl) e1 hx1.1.2.1.symm
  obtain rfl := chk_fn (f0 := 192) (by kernel_rfl) e2 hx1.1.2.2.symm
  exact ⟨hc 0, hc 1, hc 2, trivial⟩
set_option maxRecDepth 100000
set_option maxHeartbeats 1000000
section
variable {H : Type} {enc : TypeId × Value → H} {w : World} {base : Nat} {spare : Nat → Bool} {held : Bool}
theorem open_u32s {r : Reach} {b0 : Nat} {v : Value} {d : DataW H} {p : List MemPlace} (hv : Value.okWide Tryz.prog w r b0 25 v) (hd : DataW.Trod enc Tryz.prog w base spare held 25 v d p) (hs : ∀ b, spare b = true) : ∃ (a : Option Addr) (n cap : Nat) (xs : List Int), v = .slice a n cap ∧ U4s w a n cap xs := by
 obtain ⟨a, n, cap, rfl⟩ := okWide_slice Tryz.underlying25 hv
 obtain ⟨fuel, h⟩ := hd
 rcases open_ints Tryz.underlying25 Tryz.underlying169 (by kernel_rfl) h with ⟨hcs, _⟩ | ⟨x, l, c, zs, hcs, _, hl, hm, hz, _, hcell, hwz⟩
 ·simp only [Value.cells, List.cons.injEq, and_true] at hcs
  cases hcs
  exact ⟨_, _, _, [], rfl, ⟨Rws.nil _ _ _, fun k hk => absurd hk (Nat.not_lt_zero _), Nat.zero_le _⟩⟩
 ·simp only [Value.cells, List.cons.injEq, and_true] at hcs
  cases hcs
  rw [hs, if_pos rfl] at hz
  have hget : ∀ k, k < n → (zs.take n).getD k 0 = zs.getD k 0 := fun k hk => by simp [List.getD_eq_getElem?_getD, hk]
  refine ⟨_, _, _, zs.take n, rfl, ⟨⟨by simp; omega, hl, fun k hk => ?_⟩, fun k hk => ?_, ?_⟩⟩
  ·have hc := hcell k om0
   obtain ⟨b, off, spot⟩ := x
   have hspot : spot = none := by
    have := World.cell?_spot (hcell 0 om0)
    simpa [Addr.add] using this
   subst hspot
   have ha : (⟨b, off, none⟩ : Addr).add k = ⟨b, off + k * 1, none⟩ := by unfold Addr.add; split <;> simp_all
   rw [ha] at hc
   refine ⟨b, off, rfl, ?_, trivial⟩
   rw [hc, hget k hk]
  ·rw [hget k hk]
   have hw := hwz (zs.getD k 0) (by rw [List.getD_eq_getElem?_getD, List.getElem?_eq_getElem om0]; exact List.getElem_mem _)
   have hw' : (decide ((0 : Int) ≤ zs.getD k 0) && decide (zs.getD k 0 ≤ 4294967295)) = true := hw
   simpa only [Bool.and_eq_true, decide_eq_true_eq] using hw'
  ·have : cap ≤ 9223372036854775807 := hm
   omega
end
end Go.Proofs.YtjekjehgmljbgaaGreatDoor.T
namespace Go.Proofs.YtjekjehgmljbgaaGreatDoor.T
open Go.RowKit Go.Proofs Go.Eng Go.ChangeShapes Go.WideShapes Go.ChangeAt Go.Joins
set_option maxRecDepth 100000
set_option maxHeartbeats 1000000
section
variable {H : Type} {enc : TypeId × Value → H} {w : World} {base : Nat} {spare : Nat → Bool} {held : Bool}
end
end Go.Proofs.YtjekjehgmljbgaaGreatDoor.T
namespace Go.Proofs.YtjekjehgmljbgaaGreatDoor.T
open Go.RowKit Go.Proofs Go.Eng Go.ChangeShapes Go.WideShapes Go.ChangeAt Go.Joins Go.Deep
set_option maxRecDepth 100000
set_option maxHeartbeats 1000000
theorem cells_At {w : World} {base : Nat} {b o : Nat} {cs : List Value} (h : w.cells? base ⟨b, o, none⟩ 4 = some cs) : At w b o cs := by
 unfold World.cells? at h
 split at h
 ·have ha : ∀ i, (⟨b, o, none⟩ : Addr).add i = ⟨b, o + i, none⟩ := fun i => by unfold Addr.add; split <;> simp_all
  rw [show List.range 4 = [0, 1, 2, 3] from rfl] at h
  simp only [List.mapM_cons, List.mapM_nil, ha, Option.bind_eq_bind, Option.bind_eq_some_iff, Option.pure_def, Option.some.injEq] at h
  obtain ⟨c0, h0, _, ⟨c1, h1, _, ⟨c2, h2, _, ⟨c3, h3, _, rfl, rfl⟩, rfl⟩, rfl⟩, rfl⟩ := h
  exact ⟨h0, h1, h2, h3, trivial⟩
 ·cases h
section
variable {H : Type} {enc : TypeId × Value → H} {w : World} {base : Nat} {spare : Nat → Bool} {held : Bool}
theorem cells26 : Tryz.prog.cellsOf 59 = 2 := by kernel_rfl
theorem cells48 : Tryz.prog.cellsOf 90 = 4 := by kernel_rfl
theorem cells24 : Tryz.prog.cellsOf 57 = 3 := by kernel_rfl
theorem cells44 : Tryz.prog.cellsOf 60 = 1 := by kernel_rfl
theorem cells46 : Tryz.prog.cellsOf 62 = 6 := by kernel_rfl
theorem open_spanT {fuel : Nat} {c0 c1 : Value} {y : DataW H × List MemPlace} (h : DataW.trod enc Tryz.prog w base spare held fuel 59 [c0, c1] = some y) : ∃ s : Sn, [c0, c1] = s.cells := by
 obtain ⟨y0, y1, n, _, _, h0, h1⟩ := trod_struct2 Tryz.underlying59 h
 simp only [cells3, List.drop_zero, List.take_succ_cons, List.take_zero, List.drop_succ_cons] at h0 h1
 obtain ⟨l, hl, _, _⟩ := DataW.trod_int Tryz.underlying3 h0
 obtain ⟨f, hf, _, _⟩ := DataW.trod_int Tryz.underlying3 h1
 simp only [List.cons.injEq, and_true] at hl hf
 subst hl hf
 exact ⟨⟨l, f⟩, rfl⟩
theorem open_en {fuel : Nat} {cs : List Value} {y : DataW H × List MemPlace} (h : DataW.trod enc Tryz.prog w base spare held fuel 90 cs = some y) : ∃ x : En, cs = x.cells := by
 obtain ⟨y0, y1, y2, n, _, hl, h0, h1, h2⟩ := trod_struct3 Tryz.underlying90 h
 rw [cells48] at hl
 match cs, hl with
 | [c0, c1, c2, c3], _ =>
  simp only [cells3, cells26, List.drop_zero, List.take_succ_cons, List.take_zero, List.drop_succ_cons] at h0 h1 h2
  obtain ⟨d, hd, _, _⟩ := DataW.trod_int Tryz.underlying3 h0
  obtain ⟨k, hk, _, _⟩ := DataW.trod_int Tryz.underlying3 h1
  obtain ⟨s, hs⟩ := open_spanT h2
  simp only [List.cons.injEq, and_true] at hd hk
  subst hd hk
  exact ⟨⟨d, k, s⟩, congrArg (fun l => _ :: _ :: l) hs⟩
theorem open_entsT {fuel : Nat} {v : Value} {y : DataW H × List MemPlace} (h : DataW.trod enc Tryz.prog w base spare held fuel 60 [v] = some y) : ∃ ae n cape es, v = .slice ae n cape ∧ Ens w ae n cape es := by
 rcases DataW.trod_slice Tryz.underlying60 h with ⟨hcs, _⟩ | ⟨a, len, cap, elems, rest, n, _, hcs, _, hb, hl, hm, hlen, hel, _, _⟩
 ·simp only [List.cons.injEq, and_true] at hcs
  subst hcs
  exact ⟨_, _, _, [], rfl, Rws.nil _ _ _⟩
 ·simp only [List.cons.injEq, and_true] at hcs
  subst hcs
  have hsp : 0 < len → a.spot = none := fun h0 => by
   have h1 := hel 0 h0
   rw [List.getElem?_eq_getElem om0, Option.bind_eq_some_iff] at h1
   obtain ⟨cs, hcs, hy⟩ := h1
   rw [cells48] at hcs
   unfold World.cells? at hcs
   split at hcs
   ·rw [show List.range 4 = [0, 1, 2, 3] from rfl] at hcs
    simp only [List.mapM_cons, Option.bind_eq_bind, Option.bind_eq_some_iff] at hcs
    obtain ⟨c0, h0, _⟩ := hcs
    have := World.cell?_spot h0
    simpa [Addr.add] using this
   ·cases hcs
  have key : ∀ i, i < len → ∃ x : En, a.spot = none ∧ At w a.block (a.off + i * 4) x.cells := fun i hi => by
   have h1 := hel i hi
   rw [List.getElem?_eq_getElem om0, Option.bind_eq_some_iff] at h1
   obtain ⟨cs, hcs, hy⟩ := h1
   obtain ⟨x, rfl⟩ := open_en hy
   refine ⟨x, hsp om0, ?_⟩
   rw [cells48] at hcs
   have hsp := hsp om0
   obtain ⟨b, off, spot⟩ := a
   simp only at hsp
   subst hsp
   have ha : (⟨b, off, none⟩ : Addr).add (i * 4) = ⟨b, off + i * 4, none⟩ := by unfold Addr.add; split <;> simp_all
   rw [ha] at hcs
   exact cells_At hcs
  refine ⟨_, _, _, (List.range len).map (fun i => if h : i < len then Classical.choose (key i h) else En.z), rfl, by simp, hl, fun k hk => ?_⟩
  have hsp := Classical.choose_spec (key k hk)
  refine ⟨a.block, a.off, ?_, ?_⟩
  ·obtain ⟨b, off, spot⟩ := a
   have := hsp.1
   simp only at this
   subst this; rfl
  ·rw [show ((List.range len).map (fun i => if h : i < len then Classical.choose (key i h) else En.z)).getD k En.z = Classical.choose (key k hk) by simp [List.getD_eq_getElem?_getD, hk]]
   exact hsp.2
theorem open_log {r : Reach} {b0 : Nat} {v : Value} {d : DataW H} {p : List MemPlace} (hv : Value.okWide Tryz.prog w r b0 62 v) (h : DataW.Trod enc Tryz.prog w base spare held 62 v d p) (hs : ∀ b, spare b = true) :
  ∃ (l : Lg) (a : Option Addr) (cap : Nat) (ae : Option Addr) (cape : Nat), v = .agg #[.slice a l.tk.n cap, .int .i64 l.tk.leak, .int .i64 l.tk.foot, .int .i64 l.start.lo, .int .i64 l.start.hi, .slice ae l.es.length cape] ∧ Ints w a l.tk.n cap l.tk.pints ∧ Ens w ae l.es.length cape l.es := by
 obtain ⟨cs, rfl, hsz⟩ := okWide_struct Tryz.underlying62 hv
 rw [cells46] at hsz
 obtain ⟨cl⟩ := cs
 match cl, hsz with
 | [c0, c1, c2, c3, c4, c5], _ =>
  obtain ⟨fuel, hf⟩ := h
  obtain ⟨y0, y1, y2, n, _, _, h0, h1, h2⟩ := trod_struct3 Tryz.underlying62 hf
  simp only [Value.cells, cells24, cells26, cells44, List.drop_zero, List.take_succ_cons, List.take_zero, List.drop_succ_cons] at h0 h1 h2
  obtain ⟨z0, z1, z2, m, _, _, g0, g1, g2⟩ := trod_struct3 Tryz.underlying57 h0
  simp only [cells3, cells22, List.drop_zero, List.take_succ_cons, List.take_zero, List.drop_succ_cons] at g0 g1 g2
  obtain ⟨a, q, cap, xs, rfl, hx⟩ := open_intsT g0 hs
  obtain ⟨lk, hlk, _, _⟩ := DataW.trod_int Tryz.underlying3 g1
  obtain ⟨ft, hft, _, _⟩ := DataW.trod_int Tryz.underlying3 g2
  simp only [List.cons.injEq, and_true] at hlk hft
  subst hlk hft
  obtain ⟨s, hs1⟩ := open_spanT h1
  unfold Sn.cells at hs1
  simp only [List.cons.injEq, and_true] at hs1
  obtain ⟨rfl, rfl⟩ := hs1
  obtain ⟨ae, ne, cape, es, rfl, he⟩ := open_entsT h2
  have := hx.len
  subst this
  have := he.len
  subst this
  exact ⟨⟨⟨xs, lk, ft⟩, s, es⟩, a, cap, ae, cape, rfl, hx, he⟩
end
end Go.Proofs.YtjekjehgmljbgaaGreatDoor.T
namespace Go.Proofs.YtjekjehgmljbgaaGreatDoor
open Go.RowKit Go.Proofs Go.Eng Go.ChangeShapes Go.WideShapes Go.ChangeAt Go.Joins T
set_option maxRecDepth 100000
set_option maxHeartbeats 1000000
theorem walkCanDrawn (v0 v1 v2 v3 : Value) (W : World) (hG : Gv W) (h0 : ∃ (l0 : Lg) (a0 : Option Addr) (cap0 : Nat) (ae0 : Option Addr) (cape0 : Nat), v0 = .agg #[.slice a0 l0.tk.n cap0, .int .i64 l0.tk.leak, .int .i64 l0.tk.foot, .int .i64 l0.start.lo, .int .i64 l0.start.hi, .slice ae0 l0.es.length cape0] ∧ Ints W a0 l0.tk.n cap0 l0.tk.pints ∧ Ens W ae0 l0.es.length cape0 l0.es) (h1 : ∃ n1 : Int, v1 = .int .u8 n1 ∧ 0 ≤ n1 ∧ n1 ≤ 255) (h2 : ∃ n2 : Int, v2 = .int .u8 n2 ∧ 0 ≤ n2 ∧ n2 ≤ 255) (h3 : ∃ (ta3 : Option Addr) (tn3 tcap3 : Nat) (D3 : List Int), v3 = .slice ta3 tn3 tcap3 ∧ U4s W ta3 tn3 tcap3 D3) :
  Calls Tryz.prog 7 #[v0, v1, v2, v3] W fun e W' => e = .returned (.bool true) ∧ Below W.heap.size W W' := by
 obtain ⟨l0, a0, cap0, ae0, cape0, rfl, hx0, he0⟩ := h0
 obtain ⟨n1, rfl, hn1, hm1⟩ := h1
 obtain ⟨n2, rfl, hn2, hm2⟩ := h2
 obtain ⟨ta3, tn3, tcap3, D3, rfl, hD3⟩ := h3
 refine Calls.mono (canDrawn_any l0 a0 cap0 ae0 cape0 n1 n2 ta3 tn3 tcap3 D3 W hG hx0 he0 hn1 hm1 hn2 hm2 hD3) ?_
 rintro e W' ⟨v, rfl, Hn, hb, _, rfl⟩
 exact ⟨rfl, hb⟩
theorem liftCanDrawn (os : Os) (started : os.Started) (H : Type) (enc : TypeId × Value → H) :
  ReturnsInHanded {} Tryz.checked os 7 .any (fun w args => (Rows.canDrawnSpec.pre enc Tryz.prog Tryz.f7 [] false w args ∧ laidMetH Tryz.prog laidC w) ∧ sizedMet enc Tryz.prog Tryz.f7 (OpenSpec.ofChange Rows.canDrawnSpec) false w args) (Rows.canDrawnSpec.post enc Tryz.prog Tryz.f7 false true false false) := by
 refine returnsInHanded_of_change_and (C := Tryz.checked) (X := fun w _ => laidMetH Tryz.prog laidC w) (fun _ _ _ hh h => h.of_heap hh) own started (by kernel_rfl) Tryz.func7
  (ChangeSpec.witness_shaped (enc := enc) (C := Tryz.checked) (os := os) (X := fun w _ => laidMetH Tryz.prog laidC w) false (World.doorLaid Tryz.prog 400 os) #[.agg #[.slice none 0 0, .int .i64 0, .int .i64 0, .int .i64 0, .int .i64 0, .slice none 0 0], .int .u8 0, .int .u8 0, .slice none 0 0] 8 rfl (World.shaped_of_RefB (by kernel_rfl) (by kernel_rfl)) (by kernel_rfl) (by kernel_rfl) (by kernel_rfl) (door_met os _)) ?_
 intro W base args ds gs before hval0 hW _ _ hL _
 have hval : ∀ (j : Nat) t v, Tryz.f7.params[j]? = some t → args[j]? = some v → Value.okWide Tryz.prog W .any base t v := hval0
 have hW' := hW
 obtain ⟨p, q, hA0, hV, rfl, hfz, hnd⟩ := hW
 have hA : DataW.TrodAll enc Tryz.prog W 0 (fun _ => true) true Tryz.f7.params.toList args.toList ds p := hA0
 rw [Tryz.params7] at hA hval
 obtain ⟨v0, vs0, d0, ds0, p0, q0, hargs, rfl, rfl, h0, r0⟩ := trodAll_cons hA
 obtain ⟨v1, vs1, d1, ds1, p1, q1, rfl, rfl, rfl, h1, r1⟩ := trodAll_cons r0
 obtain ⟨v2, vs2, d2, ds2, p2, q2, rfl, rfl, rfl, h2, r2⟩ := trodAll_cons r1
 obtain ⟨v3, vs3, d3, ds3, p3, q3, rfl, rfl, rfl, h3, r3⟩ := trodAll_cons r2
 obtain ⟨rfl, rfl, rfl⟩ := trodAll_nil r3
 obtain rfl : args = #[v0, v1, v2, v3] := by cases args; simp_all
 obtain ⟨rfl, rfl⟩ := trodVars_none hV
 have lt0 : ∀ x ∈ p0, x.block < W.heap.size := by obtain ⟨m, hm⟩ := h0; exact DataW.trod_lt m _ _ _ hm
 have lt1 : ∀ x ∈ p1, x.block < W.heap.size := by obtain ⟨m, hm⟩ := h1; exact DataW.trod_lt m _ _ _ hm
 have lt2 : ∀ x ∈ p2, x.block < W.heap.size := by obtain ⟨m, hm⟩ := h2; exact DataW.trod_lt m _ _ _ hm
 have lt3 : ∀ x ∈ p3, x.block < W.heap.size := by obtain ⟨m, hm⟩ := h3; exact DataW.trod_lt m _ _ _ hm
 have o0 : ∃ (l0 : Lg) (a0 : Option Addr) (cap0 : Nat) (ae0 : Option Addr) (cape0 : Nat), v0 = .agg #[.slice a0 l0.tk.n cap0, .int .i64 l0.tk.leak, .int .i64 l0.tk.foot, .int .i64 l0.start.lo, .int .i64 l0.start.hi, .slice ae0 l0.es.length cape0] ∧ Ints W a0 l0.tk.n cap0 l0.tk.pints ∧ Ens W ae0 l0.es.length cape0 l0.es := open_log (hval 0 _ v0 rfl rfl) h0 (fun _ => rfl)
 have o1 : ∃ n1 : Int, v1 = .int .u8 n1 ∧ 0 ≤ n1 ∧ n1 ≤ 255 := open_u8 Tryz.underlying5 (hval 1 _ v1 rfl rfl) h1
 have o2 : ∃ n2 : Int, v2 = .int .u8 n2 ∧ 0 ≤ n2 ∧ n2 ≤ 255 := open_u8 Tryz.underlying5 (hval 2 _ v2 rfl rfl) h2
 have o3 : ∃ (ta3 : Option Addr) (tn3 tcap3 : Nat) (D3 : List Int), v3 = .slice ta3 tn3 tcap3 ∧ U4s W ta3 tn3 tcap3 D3 := open_u32s (hval 3 _ v3 rfl rfl) h3 (fun _ => rfl)
 clear hA0 hval0
 refine (walkCanDrawn v0 v1 v2 v3 W (of_laid hL) o0 o1 o2 o3).mono fun e W' ⟨he, bel⟩ => ?_
 subst he
 exact ⟨_, rfl, _, _, _, [], _, [], hW', trodAll_mk1 (shut_bool Tryz.underlying4 _),
  (trodAll_cons_mk (Below.trod laidOut (by kernel_rfl) (of_decide_eq_true (by kernel_rfl)) h0 bel lt0) (trodAll_cons_mk (Below.trod laidOut (by kernel_rfl) (of_decide_eq_true (by kernel_rfl)) h1 bel lt1) (trodAll_cons_mk (Below.trod laidOut (by kernel_rfl) (of_decide_eq_true (by kernel_rfl)) h2 bel lt2) (trodAll_cons_mk (Below.trod laidOut (by kernel_rfl) (of_decide_eq_true (by kernel_rfl)) h3 bel lt3) trodAll_mk0)))), rfl, bel.frame _, fun h => by cases h⟩
theorem canDrawnH : Rows.CanDrawnSaid :=
 OpenClaim.holds_of_wide 7 Tryz.f7 rfl rfl rfl rfl rfl rfl rfl ⟨rfl, rfl, rfl, rfl, rfl⟩ rfl rfl rfl rfl rfl (by kernel_rfl) Tryz.func7 (by kernel_rfl)
  (of_decide_eq_true (by kernel_rfl)) (by unfold Func.isWrapper; first | (rw [if_pos dk0]; kernel_rfl) | (rw [if_neg dk0]; exact ⟨rfl, rfl⟩))
  (fun os started H enc _ => liftCanDrawn os started H enc)
theorem canDrawn : Rows.CanDrawnCardSaid :=
 Claim7.holds_tied_plain_at .later [] [.funcs] true (true, "114ba46d525c684db3e97d3e5daf22351e8b02d0b87f957e3b74fac149e509e6") false
  canDrawnH (fun _ h => by cases h) (by kernel_rfl) (fun _ h => by cases h) canDrawn_row_tie rfl ⟨rfl, rfl⟩ (by kernel_rfl) rfl
  (fun f fn hf hfn => by
   obtain rfl : f = 7 := Option.some.inj ((show Tryz.prog.funcNamed "oilcake/oilcakelaw08.CanDrawn" = some 7 by kernel_rfl).symm.trans hf) |>.symm
   obtain rfl : fn = Tryz.f7 := (Option.some.inj (Tryz.func7.symm.trans hfn)).symm
   exact ⟨by kernel_rfl, fun j t ht => by
    rw [Tryz.params7] at ht
    have hm : t ∈ [62, 5, 5, 25] := by simpa using Array.mem_of_getElem? ht
    have hall : ([62, 5, 5, 25].all fun u => !Tryz.prog.wantsStandIn u) = true := by kernel_rfl
    exact (show Tryz.prog.wantsStandIn t = false by simpa using List.all_eq_true.1 hall t hm)⟩)
  (by kernel_rfl)
end Go.Proofs.YtjekjehgmljbgaaGreatDoor
