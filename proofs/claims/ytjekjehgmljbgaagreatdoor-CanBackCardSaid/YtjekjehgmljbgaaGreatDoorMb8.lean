/- Proved: for every input, with no condition, the law CanBack returns true and the input reads as it did (Rows.CanBackSaid). -/
import Derived.Test.YtjekjehgmljbgaaGreatDoorMb7
import Derived.Test.YtjekjehgmljbgaaGreatDoorMb5
import Derived.Test.YtjekjehgmljbgaaGreatDoorMb6
import Derived.Test.YtjekjehgmljbgaaGreatDoorRows
import Derived.WalkKit
import Derived.ProofKit
import Derived.OpenShut
import Derived.Lib.SmallJoins
import Derived.ChangeOld
import Derived.Below
import Derived.Test.YtjekjehgmljbgaaGreatDoorMb2
import Derived.Test.YtjekjehgmljbgaaGreatDoorMb4
import Derived.Test.YtjekjehgmljbgaaGreatDoorTie
import Derived.Test.YtjekjehgmljbgaaGreatDoorCards
import Derived.LaidMore
import Derived.Stop.Joined
import Derived.SevenTiedAt
set_option linter.unusedVariables false
set_option linter.unusedSimpArgs false
namespace Go.Proofs.YtjekjehgmljbgaaGreatDoor.T
open Go.RowKit Go.Proofs Go.Eng
set_option maxRecDepth 100000
set_option maxHeartbeats 4000000
theorem a_ep59_0 {x_0 : Int} {x_1 : Int} : ∀ w, (part 3 #[.int .i64 x_0, .int .i64 x_1] 0).run Tryz.prog w = .ok (.int .i64 x_0) w := fun w => by kernel_rfl
theorem a_ep59_1 {x_0 : Int} {x_1 : Int} : ∀ w, (part 3 #[.int .i64 x_0, .int .i64 x_1] 1).run Tryz.prog w = .ok (.int .i64 x_1) w := fun w => by kernel_rfl
theorem a_ep90_0 {x_0 : Int} {x_1 : Int} {x_2 : Int} {x_3 : Int} : ∀ w, (part 3 #[.int .i64 x_0, .int .i64 x_1, .int .i64 x_2, .int .i64 x_3] 0).run Tryz.prog w = .ok (.int .i64 x_0) w := fun w => by kernel_rfl
theorem a_ep90_1 {x_0 : Int} {x_1 : Int} {x_2 : Int} {x_3 : Int} : ∀ w, (part 3 #[.int .i64 x_0, .int .i64 x_1, .int .i64 x_2, .int .i64 x_3] 1).run Tryz.prog w = .ok (.int .i64 x_1) w := fun w => by kernel_rfl
theorem a_ep90_2 {x_0 : Int} {x_1 : Int} {x_2 : Int} {x_3 : Int} : ∀ w, (part 59 #[.int .i64 x_0, .int .i64 x_1, .int .i64 x_2, .int .i64 x_3] 2).run Tryz.prog w = .ok (.agg #[.int .i64 x_2, .int .i64 x_3]) w := fun w => by kernel_rfl
theorem a_gneqA90 {x y : Operand} {x_0 : Int} {x_1 : Int} {x_2 : Int} {x_3 : Int} {y_0 : Int} {y_1 : Int} {y_2 : Int} {y_3 : Int} : ∀ w, (eqGuard .neq 90 x y (.agg #[.int .i64 x_0, .int .i64 x_1, .int .i64 x_2, .int .i64 x_3]) (.agg #[.int .i64 y_0, .int .i64 y_1, .int .i64 y_2, .int .i64 y_3])).run Tryz.prog w = .ok () w := fun w => by kernel_rfl
theorem a_st59 : Tryz.prog.stoodInHeld 59 = false := by kernel_rfl
theorem a_st90 : Tryz.prog.stoodInHeld 90 = false := by kernel_rfl
theorem eq59_9999 {x_0 : Int} {x_1 : Int} {y_0 : Int} {y_1 : Int} : ∀ w, (Op.equalIn 9999 59 (.agg #[.int .i64 x_0, .int .i64 x_1]) (.agg #[.int .i64 y_0, .int .i64 y_1])).run Tryz.prog w = .ok (ieq x_0 y_0 && ieq x_1 y_1) w := fun w => by
 unfold Op.equalIn
 rw [Sem.run_bind, Tryz.runUnderlying59]
 simp [a_st59, a_ep59_0, eq_int (d := 9997) Tryz.runUnderlying3, a_ep59_1, eq_int (d := 9997) Tryz.runUnderlying3]
 generalize ieq x_0 y_0 = b0
 generalize ieq x_1 y_1 = b1
 cases b0 <;> cases b1 <;> simp
theorem eq90 {x_0 : Int} {x_1 : Int} {x_2 : Int} {x_3 : Int} {y_0 : Int} {y_1 : Int} {y_2 : Int} {y_3 : Int} : ∀ w, (Op.equalIn Op.maxDepth 90 (.agg #[.int .i64 x_0, .int .i64 x_1, .int .i64 x_2, .int .i64 x_3]) (.agg #[.int .i64 y_0, .int .i64 y_1, .int .i64 y_2, .int .i64 y_3])).run Tryz.prog w = .ok (ieq x_0 y_0 && ieq x_1 y_1 && ieq x_2 y_2 && ieq x_3 y_3) w := fun w => by
 unfold Op.maxDepth Op.equalIn
 rw [Sem.run_bind, Tryz.runUnderlying90]
 simp [a_st90, a_ep90_0, eq_int (d := 9998) Tryz.runUnderlying3, a_ep90_1, eq_int (d := 9998) Tryz.runUnderlying3, a_ep90_2, eq59_9999]
 generalize ieq x_0 y_0 = b0
 generalize ieq x_1 y_1 = b1
 generalize ieq x_2 y_2 = b2
 generalize ieq x_3 y_3 = b3
 cases b0 <;> cases b1 <;> cases b2 <;> cases b3 <;> simp
theorem bs22_12_0_1_2_3_4_5_6_7_8_9_10_11 {x0 : Int} {x1 : Int} {x2 : Int} {x3 : Int} {x4 : Int} {x5 : Int} {x6 : Int} {x7 : Int} {x8 : Int} {x9 : Int} {x10 : Int} {x11 : Int} : ∀ w, (Instr.buildSlice 22 12 #[(0, .int .i64 x0), (1, .int .i64 x1), (2, .int .i64 x2), (3, .int .i64 x3), (4, .int .i64 x4), (5, .int .i64 x5), (6, .int .i64 x6), (7, .int .i64 x7), (8, .int .i64 x8), (9, .int .i64 x9), (10, .int .i64 x10), (11, .int .i64 x11)]).run Tryz.prog w = .ok (.slice (some ⟨w.heap.size, 0, none⟩) 12 12) (w.alloc (CB [.int .i64 x0, .int .i64 x1, .int .i64 x2, .int .i64 x3, .int .i64 x4, .int .i64 x5, .int .i64 x6, .int .i64 x7, .int .i64 x8, .int .i64 x9, .int .i64 x10, .int .i64 x11] 3)) := fun w => by kernel_rfl
theorem bs22_4_0_1_2_3 {x0 : Int} {x1 : Int} {x2 : Int} {x3 : Int} : ∀ w, (Instr.buildSlice 22 4 #[(0, .int .i64 x0), (1, .int .i64 x1), (2, .int .i64 x2), (3, .int .i64 x3)]).run Tryz.prog w = .ok (.slice (some ⟨w.heap.size, 0, none⟩) 4 4) (w.alloc (CB [.int .i64 x0, .int .i64 x1, .int .i64 x2, .int .i64 x3] 3)) := fun w => by kernel_rfl
theorem bs22_6_0_1_2_3_4_5 {x0 : Int} {x1 : Int} {x2 : Int} {x3 : Int} {x4 : Int} {x5 : Int} : ∀ w, (Instr.buildSlice 22 6 #[(0, .int .i64 x0), (1, .int .i64 x1), (2, .int .i64 x2), (3, .int .i64 x3), (4, .int .i64 x4), (5, .int .i64 x5)]).run Tryz.prog w = .ok (.slice (some ⟨w.heap.size, 0, none⟩) 6 6) (w.alloc (CB [.int .i64 x0, .int .i64 x1, .int .i64 x2, .int .i64 x3, .int .i64 x4, .int .i64 x5] 3)) := fun w => by kernel_rfl
theorem bs22_8_0_1_2_3_4_5_6_7 {x0 : Int} {x1 : Int} {x2 : Int} {x3 : Int} {x4 : Int} {x5 : Int} {x6 : Int} {x7 : Int} : ∀ w, (Instr.buildSlice 22 8 #[(0, .int .i64 x0), (1, .int .i64 x1), (2, .int .i64 x2), (3, .int .i64 x3), (4, .int .i64 x4), (5, .int .i64 x5), (6, .int .i64 x6), (7, .int .i64 x7)]).run Tryz.prog w = .ok (.slice (some ⟨w.heap.size, 0, none⟩) 8 8) (w.alloc (CB [.int .i64 x0, .int .i64 x1, .int .i64 x2, .int .i64 x3, .int .i64 x4, .int .i64 x5, .int .i64 x6, .int .i64 x7] 3)) := fun w => by kernel_rfl
theorem neqA90 {x y : Operand} {x_0 : Int} {x_1 : Int} {x_2 : Int} {x_3 : Int} {y_0 : Int} {y_1 : Int} {y_2 : Int} {y_3 : Int} : ∀ w, ((do eqGuard .neq 90 x y (.agg #[.int .i64 x_0, .int .i64 x_1, .int .i64 x_2, .int .i64 x_3]) (.agg #[.int .i64 y_0, .int .i64 y_1, .int .i64 y_2, .int .i64 y_3]); binOp .neq 90 (.agg #[.int .i64 x_0, .int .i64 x_1, .int .i64 x_2, .int .i64 x_3]) (.agg #[.int .i64 y_0, .int .i64 y_1, .int .i64 y_2, .int .i64 y_3])) : Sem Value).run Tryz.prog w = .ok (.bool (!(ieq x_0 y_0 && ieq x_1 y_1 && ieq x_2 y_2 && ieq x_3 y_3))) w := eq_topN a_gneqA90 eq90
theorem k_farv : Value.tuple #[.int .i64 (if b35.okB then (b35.farT b35.madeL.length).1 else 0), .int .i64 (if b35.okB then (b35.farT b35.madeL.length).2 else 0), .int .i64 b35.err] = .tuple #[.int .i64 4, .int .i64 6, .int .i64 0] := by
 rw [if_pos dc, if_pos dc, k_far]; rfl
theorem k_hlpv : Value.tuple #[.int .i64 (if b35.hpE 4 = 0 then (minH (b35.hpL 4 20)).s else 0), .int .i64 (if b35.hpE 4 = 0 then (minH (b35.hpL 4 20)).m else 0), .int .i64 (b35.hpE 4)] = .tuple #[.int .i64 1, .int .i64 2, .int .i64 0] := by
 rw [if_pos k_help.1, if_pos k_help.1, k_help.1, k_help.2]
theorem AskA.lit {e : Int} {o : Option Wy} {w : Wy} {v : Value} {Hn : List Blk} (h : AskA e o v Hn) (he : e = 0) (ho : o = some w) : ∃ a k, v = .tuple #[.slice a w.l.length k, .int .i64 w.back, .int .i64 0] ∧ ∀ (C : Ctx) (H : List Blk) (u : World), Hn.Sublist H → St C H u → Pos u a w.l.length k w.l := by
 subst he ho
 obtain ⟨v0, rfl, a, k, rfl, h⟩ := h
 exact ⟨a, k, rfl, h⟩
def bg0 : Cn := ⟨[3, 5], [0, 0], 10⟩
theorem k_begE : begE logL [3, 5] = 0 := by kernel_rfl
theorem k_begC : begC logL [3, 5] = bg0 := by kernel_rfl
def wp2 : List Po := [⟨0, 2⟩, ⟨2, 1⟩]
def wrtL : Lg := ⟨tunT, ⟨20, 40⟩, [⟨0, 1, ⟨10, 15⟩⟩, ⟨3, 3, ⟨18, 20⟩⟩, ⟨5, 2, ⟨10, 20⟩⟩, ⟨5, 3, ⟨12, 16⟩⟩, ⟨5, 2, ⟨5, 5⟩⟩]⟩
theorem k_wtE : wtE logL bg0 wp2 = 0 := by kernel_rfl
theorem k_wtL : wtL logL bg0 wp2 = wrtL := by kernel_rfl
theorem bef_three {bs : List Bl} (h : bs.map Bl.x = befL) : ∃ y0 y1 y2, bs = [y0, y1, y2] ∧ y2.x = ⟨18, 2, 0, 0⟩ := by
 have hl : bs.length = 3 := by have := congrArg List.length h; simpa [befL] using this
 obtain ⟨y0, y1, y2, rfl⟩ : ∃ y0 y1 y2, bs = [y0, y1, y2] := by
  match bs, hl with
  | [a, b, c], _ => exact ⟨a, b, c, rfl⟩
 unfold befL at h
 simp only [List.map_cons, List.map_nil, List.cons.injEq, and_true] at h
 exact ⟨y0, y1, y2, rfl, h.2.2⟩
theorem calive_any (w : World) (hG : Gv w) : Ct Tryz.prog 13 #[] w fun v _ => v = .bool true := by
 have hF := wide_wide
 refine Ct_start (args := []) Tryz.func13 rf Tryz.ntmps13 rf ?_
 refine zR fun ds => ?_
 refine za (.bool _) hF ?_
 refine zP fun ds => ?_
 refine WS_newS hF rf (y_buildSliceL bs22_2_0_1 rf) (fun sz => ?_)
 refine WS_gen hF rf (y_callL rf rf Tryz.call43 (fun w hw => l8bench_any 20 [3, 5] _ _ w dc)) ?_
 rintro _ Hz ⟨z, q, rfl, hz⟩
 refine WS_back ?_
 refine zD hF (y_callL rf rf Tryz.call16 (fun w hw => Ct_eq (many_any b35 _ _ _ _ w (hG.st w hw) dc dc (Ints.mem (rest := []) 0 rf rf dc w hw) (NewRow.ints hz rfl sbA w hw)) k_many)) ?_
 refine zm (.tuple _) hF ?_
 refine zD hF (y_extract (c := .int .i64 _) rf rf) ?_
 refine zD hF (y_extract (c := .int .i64 _) rf rf) ?_
 refine za (.int .i64 _) hF ?_
 refine za (.int .i64 _) hF ?_
 refine zO ?_
 refine W_sub HSub.nil ?_
 refine W_region_lit (fun ds => ?_)
 refine WS_newS hF rf (y_buildSliceL bs22_2_0_1 rf) (fun sz => ?_)
 refine WS_gen hF rf (y_callL rf rf Tryz.call43 (fun w hw => l8bench_any 20 [4, 6] _ _ w dc)) ?_
 rintro _ Hz ⟨z, q, rfl, hz⟩
 refine WS_back ?_
 refine WS_gen hF rf (y_callL rf rf Tryz.call15 (fun w hw => made_any b46 _ _ _ _ w (hG.st w hw) dc dc (Ints.mem (rest := []) 0 rf rf dc w hw) (NewRow.ints hz rfl sbA w hw))) ?_
 rintro _ Hm ⟨ma, mc, rfl, hm⟩
 rw [k_made] at hm ⊢
 rw [show b46.err = 0 from rfl]
 refine WS_back ?_
 refine zm (.tuple _) hF ?_
 refine zD hF (y_extract (c := .slice _ _ _) rf rf) ?_
 refine zD hF (y_extract (c := .int .i64 _) rf rf) ?_
 refine za (.slice _ _ _) hF ?_
 refine za (.int .i64 _) hF ?_
 refine zO ?_
 refine W_sub (HSub.sub (Hn := Hm) sbA) ?_
 refine W_region_lit (fun ds => ?_)
 refine WS_newS hF rf (y_buildSliceL bs22_2_0_1 rf) (fun sz => ?_)
 refine WS_gen hF rf (y_callL rf rf Tryz.call43 (fun w hw => l8bench_any 20 [4, 6] _ _ w dc)) ?_
 rintro _ Hz ⟨z, q, rfl, hz⟩
 refine WS_back ?_
 refine zD hF (y_callL rf rf Tryz.call21 (fun w hw => Ct_eq (measure_any b46 _ _ _ _ w (hG.st w hw) dc dc (Ints.mem (rest := []) 0 rf rf dc w hw) (NewRow.ints hz rfl sbA w hw)) k_meas)) ?_
 refine zm (.tuple _) hF ?_
 refine zD hF (y_extract (c := .int .i64 _) rf rf) ?_
 refine zD hF (y_extract (c := .int .i64 _) rf rf) ?_
 refine za (.int .i64 _) hF ?_
 refine za (.int .i64 _) hF ?_
 refine zO ?_
 refine W_sub (HSub.sub (Hn := Hm) sbA) ?_
 refine W_region_lit (fun ds => ?_)
 refine WS_newS hF rf (y_buildSliceL bs22_2_0_1 rf) (fun sz => ?_)
 refine WS_gen hF rf (y_callL rf rf Tryz.call43 (fun w hw => l8bench_any 20 [3, 5] _ _ w dc)) ?_
 rintro _ Hz ⟨z, q, rfl, hz⟩
 refine WS_back ?_
 refine WS_gen hF rf (y_callL rf rf Tryz.call19 (fun w hw => cleast_any b35 _ _ _ _ 4 w (hG.st w hw) dc dc (Ints.mem (rest := []) 0 rf rf dc w hw) (NewRow.ints hz rfl sbA w hw))) ?_
 rintro _ L4 hA
 obtain ⟨la, lk, rfl, hP4⟩ := hA.lit k_e4 k_l4
 refine WS_back ?_
 refine zm (.tuple _) hF ?_
 refine zD hF (y_extract (c := .slice _ _ _) rf rf) ?_
 refine zD hF (y_extract (c := .int .i64 _) rf rf) ?_
 refine zD hF (y_extract (c := .int .i64 _) rf rf) ?_
 refine za (.slice _ _ _) hF ?_
 refine za (.int .i64 _) hF ?_
 refine za (.int .i64 _) hF ?_
 refine zO ?_
 refine W_sub (HSub.sub (Hn := Hm ++ L4) sbA) ?_
 refine W_region_lit (fun ds => ?_)
 refine WS_newS hF rf (y_buildSliceL bs22_2_0_1 rf) (fun sz => ?_)
 refine WS_gen hF rf (y_callL rf rf Tryz.call43 (fun w hw => l8bench_any 20 [3, 5] _ _ w dc)) ?_
 rintro _ Hz ⟨z, q, rfl, hz⟩
 refine WS_back ?_
 refine WS_gen hF rf (y_callL rf rf Tryz.call19 (fun w hw => cleast_any b35 _ _ _ _ 1 w (hG.st w hw) dc dc (Ints.mem (rest := []) 0 rf rf dc w hw) (NewRow.ints hz rfl sbA w hw))) ?_
 rintro _ L1 hA
 obtain ⟨la1, lk1, rfl, hP1⟩ := hA.lit k_e1 k_l1
 refine WS_back ?_
 refine zm (.tuple _) hF ?_
 refine zD hF (y_extract (c := .slice _ _ _) rf rf) ?_
 refine zD hF (y_extract (c := .int .i64 _) rf rf) ?_
 refine zD hF (y_extract (c := .int .i64 _) rf rf) ?_
 refine za (.slice _ _ _) hF ?_
 refine za (.int .i64 _) hF ?_
 refine za (.int .i64 _) hF ?_
 refine zO ?_
 refine W_sub (HSub.sub (Hn := Hm ++ (L4 ++ L1)) sbA) ?_
 refine W_region_lit (fun ds => ?_)
 refine WS_newS hF rf (y_buildSliceL bs22_2_0_1 rf) (fun sz => ?_)
 refine WS_gen hF rf (y_callL rf rf Tryz.call43 (fun w hw => l8bench_any 20 [3, 5] _ _ w dc)) ?_
 rintro _ Hz ⟨z, q, rfl, hz⟩
 refine WS_back ?_
 refine WS_gen hF rf (y_callL rf rf Tryz.call40 (fun w hw => ctotal_any b35 _ _ _ _ 6 w (hG.st w hw) dc dc (Ints.mem (rest := []) 0 rf rf dc w hw) (NewRow.ints hz rfl sbA w hw))) ?_
 rintro _ L6 hA
 obtain ⟨la6, lk6, rfl, hP6⟩ := hA.lit k_e6 k_t6
 refine WS_back ?_
 refine zm (.tuple _) hF ?_
 refine zD hF (y_extract (c := .slice _ _ _) rf rf) ?_
 refine zD hF (y_extract (c := .int .i64 _) rf rf) ?_
 refine zD hF (y_extract (c := .int .i64 _) rf rf) ?_
 refine za (.slice _ _ _) hF ?_
 refine za (.int .i64 _) hF ?_
 refine za (.int .i64 _) hF ?_
 refine zO ?_
 refine W_sub (HSub.sub (Hn := Hm ++ (L4 ++ (L1 ++ L6))) sbA) ?_
 refine W_region_lit (fun ds => ?_)
 refine WS_newS hF rf (y_buildSliceL bs22_2_0_1 rf) (fun sz => ?_)
 refine WS_gen hF rf (y_callL rf rf Tryz.call43 (fun w hw => l8bench_any 20 [3, 5] _ _ w dc)) ?_
 rintro _ Hz ⟨z, q, rfl, hz⟩
 refine WS_back ?_
 refine zD hF (y_callL rf rf Tryz.call26 (fun w hw => Ct_eq (far_any b35 _ _ _ _ w (hG.st w hw) dc dc (Ints.mem (rest := []) 0 rf rf dc w hw) (NewRow.ints hz rfl sbA w hw)) k_farv)) ?_
 refine zm (.tuple _) hF ?_
 refine zD hF (y_extract (c := .int .i64 _) rf rf) ?_
 refine zD hF (y_extract (c := .int .i64 _) rf rf) ?_
 refine zD hF (y_extract (c := .int .i64 _) rf rf) ?_
 refine za (.int .i64 _) hF ?_
 refine za (.int .i64 _) hF ?_
 refine za (.int .i64 _) hF ?_
 refine zO ?_
 refine W_sub (HSub.sub (Hn := Hm ++ (L4 ++ (L1 ++ L6))) sbA) ?_
 refine W_region_lit (fun ds => ?_)
 refine WS_newS hF rf (y_buildSliceL bs22_2_0_1 rf) (fun sz => ?_)
 refine WS_gen hF rf (y_callL rf rf Tryz.call43 (fun w hw => l8bench_any 20 [3, 5] _ _ w dc)) ?_
 rintro _ Hz ⟨z, q, rfl, hz⟩
 refine WS_back ?_
 refine zD hF (y_callL rf rf Tryz.call36 (fun w hw => Ct_eq (help_any b35 _ _ _ _ 4 w (hG.st w hw) dc dc (Ints.mem (rest := []) 0 rf rf dc w hw) (NewRow.ints hz rfl sbA w hw)) k_hlpv)) ?_
 refine zm (.tuple _) hF ?_
 refine zD hF (y_extract (c := .int .i64 _) rf rf) ?_
 refine zD hF (y_extract (c := .int .i64 _) rf rf) ?_
 refine zD hF (y_extract (c := .int .i64 _) rf rf) ?_
 refine za (.int .i64 _) hF ?_
 refine za (.int .i64 _) hF ?_
 refine za (.int .i64 _) hF ?_
 refine zO ?_
 refine W_sub (HSub.sub (Hn := Hm ++ (L4 ++ (L1 ++ L6))) sbA) ?_
 refine W_region_lit (fun ds => ?_)
 refine WS_newS hF rf (y_buildSliceL bs22_2_0_1 rf) (fun sz => ?_)
 refine WS_gen hF rf (y_callL rf rf Tryz.call43 (fun w hw => l8bench_any 17 [3, 5] _ _ w dc)) ?_
 rintro _ _ ⟨z, q, rfl, hz⟩
 obtain ⟨pb, pj, rfl, rfl, pl, ple⟩ := NewRow.head hz dc
 refine WS_back ?_
 refine WS_new hF rf (y_alloc Tryz.zeroValue24 rf) (fun bc => ?_)
 refine WS_store hF (us := [.slice _ _ _, .slice _ _ _, .int .i64 _]) (i := 0) rf rf Tryz.sizeOf24 rf rf rf d20 ?_
 refine zO ?_
 refine W_pull (pb, CB (iv (List.replicate [3, 5].length 0) ++ pj) 3) zu ?_
 refine W_region_lit (fun ds => ?_)
 refine zD hF (y_fieldAddr rf fa24_1) ?_
 refine zD hF (y_load1 rf Tryz.isAgg22 (Mem.own1 1 rf rf)) ?_
 refine zD hF (y_index (k := 0) rf rf r10 d10 Tryz.runUnderlying22 Tryz.sizeOf3) ?_
 refine WS_store hF (us := [.int .i64 _]) (i := 0) rf rf Tryz.sizeOf3 rf rf rf (fit_iv dc) ?_
 refine zO ?_
 rw [show splice (iv (List.replicate [3, 5].length 0) ++ pj) 0 [.int .i64 3] = iv [3, 0] ++ pj from splice_iv _ _ _ 0 dc]
 refine W_region_lit (fun ds => ?_)
 refine zD hF (y_loadN rf Tryz.isAgg24 Tryz.sizeOf24 (Mem.own (us := [.slice _ _ _, .slice _ _ _, .int .i64 _]) 1 rf rf) rf) ?_
 refine zD hF (y_buildL bd47_1 rf) ?_
 refine WS_gen hF rf (y_callL rf rf Tryz.call22 (fun w hw => cbefore_any bef0 _ _ _ _ ⟨0, 1⟩ w (hG.st w hw) dc dc (Ints.mem (rest := []) 2 rf rf dc w hw) (Ints.mem (rest := pj) 0 rf rf (by exact ple) w hw))) ?_
 rintro _ _ ⟨e0, bs, ba, bk, Hr, HX, rfl, hbf, hrow, hrd, hsh, rfl⟩
 obtain ⟨rfl, hbx⟩ := Cn.Bef.uniq hbf k_bef
 obtain ⟨y0, y1, ⟨x2, s2, ks2, i2, ki2⟩, rfl, rfl⟩ := bef_three hbx
 have hrd2 := hrd ⟨⟨18, 2, 0, 0⟩, s2, ks2, i2, ki2⟩ (by simp)
 obtain ⟨bb, rfl⟩ := NewRow.adr hrow (by simp)
 obtain ⟨bi, rfl⟩ : ∃ bi, i2 = some ⟨bi, 0, none⟩ := by
  rcases hrd2.oi with h | ⟨b, vs, h, _⟩
  ·cases (show (2 : Nat) = 0 from h)
  ·exact ⟨b, h⟩
 have hl3 : [y0, y1, (⟨⟨18, 2, 0, 0⟩, s2, ks2, some ⟨bi, 0, none⟩, ki2⟩ : Bl)].length = 3 := rfl
 have hl2 : (bef0.of (⟨⟨18, 2, 0, 0⟩, s2, ks2, some ⟨bi, 0, none⟩, ki2⟩ : Bl).x).inn.length = 2 := rfl
 refine WS_back ?_
 refine zm (.tuple _) hF ?_
 refine zD hF (y_extract (c := .slice _ _ _) rf rf) ?_
 refine zD hF (y_extract (c := .int .i64 _) rf rf) ?_
 refine za (.slice _ _ _) hF ?_
 refine za (.int .i64 _) hF ?_
 refine zO ?_
 refine W_sub (HSub.sub (Hn := Hm ++ (L4 ++ (L1 ++ (L6 ++ (HX ++ Hr))))) sbA) ?_
 refine W_region_lit (fun ds => ?_)
 refine WS_gen hF rf (y_callL rf rf Tryz.call46 (fun w hw => l8log_any w)) ?_
 rintro _ _ ⟨a1, cap1, ae1, cape1, Hp, He, rfl, hrp, hre, rfl⟩
 refine WS_back ?_
 refine WS_newS hF rf (y_buildSliceL bs22_2_0_1 rf) (fun s12 => ?_)
 refine WS_gen hF rf (y_callL rf rf Tryz.call29 (fun w hw => begin_any logL _ _ _ _ _ 2 2 [3, 5] w (hG.st w hw) dc dc (NewRow.ints hrp rfl sbA w hw) (NewRow.rws en_len hre rfl sbA w hw) (Ints.mem (rest := []) 0 rf rf dc w hw))) ?_
 rintro _ _ ⟨_, rfl, hT⟩
 rw [k_begC] at hT
 rw [k_begE]
 obtain ⟨z1, q1, z2, q2, G1, G2, rfl, g1, g2, rfl⟩ := hT
 refine WS_back ?_
 refine zm (.tuple _) hF ?_
 refine zD hF (y_extract (c := .agg _) rf rf) ?_
 refine zD hF (y_extract (c := .int .i64 _) rf rf) ?_
 refine WS_new hF rf (y_alloc Tryz.zeroValue24 rf) (fun bg => ?_)
 refine WS_store hF (us := [.slice _ _ _, .slice _ _ _, .int .i64 _]) (i := 0) rf rf Tryz.sizeOf24 rf rf rf d20 ?_
 refine za (.int .i64 _) hF ?_
 refine zO ?_
 refine W_sub (HSub.sub (Hn := (bg, _) :: (Hm ++ (L4 ++ (L1 ++ (L6 ++ (HX ++ (Hr ++ (G1 ++ G2)))))))) sbA) ?_
 refine W_draw0 hF Tryzmixed [27] dk0 (fun ds => ?_)
 refine P_new rf rf (Over_nil (y_callL rf rf Tryz.call46 (fun w hw => l8log_any w))) ?_
 refine P_det rf (Over_out rf (Over_nil (y_loadN rf Tryz.isAgg24 Tryz.sizeOf24 (Mem.own (us := [.slice _ _ _, .slice _ _ _, .int .i64 _]) 0 rf rf) rf))) ?_
 refine P_new rf rf (Over_out rf (Over_nil (y_buildSliceL bs22_4_0_1_2_3 rf))) ?_
 refine P_new rf rf (Over_in rf (Over_out rf (Over_nil (by rintro _ _ ⟨b2, rfl, rfl⟩; exact (y_callL rf rf Tryz.call44 (fun w hw => l8pours_any wp2 _ _ w dc (Ints.mem (rest := []) 0 rf rf dc w hw))))))) ?_
 refine P_new rf rf (Over_in rf (Over_out rf (Over_in rf (Over_nil (by intro vb4 l100 hb4; obtain ⟨c1, d1, c2, d2, Hp, He, rfl, hrp, hre, rfl⟩ := hb4; intro vb5 l103 hb5; obtain ⟨pa, pk, rfl, hpp⟩ := hb5; obtain ⟨HP, rfl⟩ : ∃ HP, HP = l103 := ⟨_, rfl⟩; exact (y_callL rf rf Tryz.call32 (fun w hw => written_any logL _ _ _ _ bg0 _ _ _ _ wp2 _ _ w (hG.st w hw) dc dc dc (NewRow.ints hrp rfl sbA w hw) (NewRow.rws en_len hre rfl sbA w hw) dc dc (NewRow.ints g1 rfl sbA w hw) (NewRow.ints g2 rfl sbA w hw) (NewRow.rws po_len hpp rfl sbA w hw)))))))) ?_
 refine P_ali [104] (fun e => e 104) rf rf rf (fun _ _ h => h 104 (List.mem_singleton.2 rfl)) (Over_in rf (Over_out rf (Over_out rf (Over_out rf (Over_nil (by intro vb7 l104 hb7; obtain ⟨_, rfl, hTW⟩ := hb7; rw [k_wtL] at hTW; rw [k_wtE]; obtain ⟨e1, f1, e2, f2, U1, U2, rfl, hu1, hu2, rfl⟩ := hTW; obtain ⟨bu, rfl⟩ := NewRow.adr hu2 dc; exact (YD0_of (y_move (c := .tuple _) rf)))))))) ?_
 refine P_ali [99] (fun e => tupAt (e 99) 0) rf rf rf (fun _ _ h => congrArg (tupAt · 0) (h 99 (List.mem_singleton.2 rfl))) (Over_in rf (Over_in rf (Over_out rf (Over_out rf (Over_out rf (Over_nil (by intro vb9 l104 hb9; obtain ⟨_, rfl, hTW⟩ := hb9; rw [k_wtL] at hTW; rw [k_wtE]; obtain ⟨e1, f1, e2, f2, U1, U2, rfl, hu1, hu2, rfl⟩ := hTW; obtain ⟨bu, rfl⟩ := NewRow.adr hu2 dc; rintro vb10 _ ⟨hvb10, rfl⟩; replace hvb10 : vb10 = .tuple _ := hvb10; subst hvb10; exact (YD0_of (y_extract (c := .agg _) rf rf))))))))) ?_
 refine P_ali [99] (fun e => tupAt (e 99) 1) rf rf rf (fun _ _ h => congrArg (tupAt · 1) (h 99 (List.mem_singleton.2 rfl))) (Over_out rf (Over_in rf (Over_in rf (Over_out rf (Over_out rf (Over_out rf (Over_nil (by intro vb12 l104 hb12; obtain ⟨_, rfl, hTW⟩ := hb12; rw [k_wtL] at hTW; rw [k_wtE]; obtain ⟨e1, f1, e2, f2, U1, U2, rfl, hu1, hu2, rfl⟩ := hTW; obtain ⟨bu, rfl⟩ := NewRow.adr hu2 dc; rintro vb13 _ ⟨hvb13, rfl⟩; replace hvb13 : vb13 = .tuple _ := hvb13; subst hvb13; exact (YD0_of (y_extract (c := .int .i64 _) rf rf)))))))))) ?_
 refine P_newSD 105 rf rf rf (Over_out rf (Over_out rf (Over_out rf (Over_out rf (Over_out rf (Over_out rf (Over_out rf (Over_nil (y_alloc Tryz.zeroValue62 rf))))))))) ?_
 refine P_st 27 0 rf rf rf rf rf (Over_out rf (Over_in rf (Over_in rf (Over_in rf (Over_out rf (Over_out rf (Over_out rf (Over_nil (by intro vb15 l104 hb15; obtain ⟨_, rfl, hTW⟩ := hb15; rw [k_wtL] at hTW; rw [k_wtE]; obtain ⟨e1, f1, e2, f2, U1, U2, rfl, hu1, hu2, rfl⟩ := hTW; obtain ⟨bu, rfl⟩ := NewRow.adr hu2 dc; rintro vb16 _ ⟨hvb16, rfl⟩; replace hvb16 : vb16 = .tuple _ := hvb16; subst hvb16; rintro vb17 _ ⟨hvb17, rfl⟩; replace hvb17 : vb17 = .agg _ := hvb17; subst hvb17; exact (st_newD rf rf Tryz.sizeOf62 rf rf d20)))))))))) ?_
 refine P_ali [106] (fun e => e 106) rf rf rf (fun _ _ h => h 106 (List.mem_singleton.2 rfl)) (Over_out rf (Over_in rf (Over_out rf (Over_in rf (Over_in rf (Over_out rf (Over_out rf (Over_out rf (Over_nil (by intro vb18 l104 hb18; obtain ⟨_, rfl, hTW⟩ := hb18; rw [k_wtL] at hTW; rw [k_wtE]; obtain ⟨e1, f1, e2, f2, U1, U2, rfl, hu1, hu2, rfl⟩ := hTW; obtain ⟨bu, rfl⟩ := NewRow.adr hu2 dc; rintro vb19 _ ⟨hvb19, rfl⟩; replace hvb19 : vb19 = .tuple _ := hvb19; subst hvb19; rintro vb20 _ ⟨hvb20, rfl⟩; replace hvb20 : vb20 = .int .i64 _ := hvb20; subst hvb20; exact (YD0_of (y_assign (c := .int .i64 _) rf)))))))))))) ?_
 refine PW_end rf ?_
 refine OverAll_cons (fun w28 l28 => ?_)
 refine OverAll_cons (fun w27 l27 => ?_)
 refine OverAll_cons (fun w106 l106 => ?_)
 refine OverAll_cons (fun w105 l105 => ?_)
 refine OverAll_cons (fun w99 l99 => ?_)
 refine OverAll_cons (fun w104 l104 => ?_)
 refine OverAll_cons (fun w103 l103 => ?_)
 refine OverAll_cons (fun w102 l102 => ?_)
 refine OverAll_cons (fun w100 l100 => ?_)
 refine OverAll_nil ?_
 rintro ⟨⟨⟨⟨⟨⟨⟨⟨⟨-, h28⟩, h27⟩, h106⟩, h105⟩, h99⟩, h104⟩, h103⟩, h102⟩, h100⟩
 obtain ⟨c1, d1, c2, d2, Hp, He, rfl, hrp, hre, rfl⟩ := h100
 obtain ⟨bw, rfl, rfl⟩ := h102
 obtain ⟨pa, pk, rfl, hpp⟩ := h103
 obtain ⟨HP, rfl⟩ : ∃ HP, HP = l103 := ⟨_, rfl⟩
 obtain ⟨_, rfl, hTW⟩ := h104
 rw [k_wtL] at hTW
 rw [k_wtE]
 obtain ⟨e1, f1, e2, f2, U1, U2, rfl, hu1, hu2, rfl⟩ := hTW
 obtain ⟨bu, rfl⟩ := NewRow.adr hu2 dc
 obtain ⟨h99, rfl⟩ := h99
 replace h99 : w99 = .tuple _ := h99
 subst h99
 obtain ⟨h105, rfl⟩ := h105
 replace h105 : w105 = .agg _ := h105
 subst h105
 obtain ⟨h106, rfl⟩ := h106
 replace h106 : w106 = .int .i64 _ := h106
 subst h106
 obtain ⟨h28, rfl⟩ := h28
 replace h28 : w28 = .int .i64 _ := h28
 subst h28
 obtain ⟨bl, rfl, rfl⟩ := h27
 refine Then_normal ?_
 refine W_seq ?_
 refine W_seq ?_
 refine W_pull (bg, CB [.slice z1 bg0.n q1, .slice z2 bg0.inn.length q2, .int .i64 10] 24) zu ?_
 refine W_pull (bl, CB [.slice e1 wrtL.tk.n f1, .int .i64 2, .int .i64 8, .int .i64 20, .int .i64 40, .slice (some ⟨bu, 0, none⟩) wrtL.es.length f2] 62) zu ?_
 refine W_sub (HSub.sub (Hn := (bl, _) :: (bg, _) :: (U2 ++ (Hm ++ (L4 ++ (L1 ++ (L6 ++ (HX ++ Hr))))))) sbA) ?_
 refine W_draw0 hF Tryzmixed [] dk0 (fun ds => ?_)
 refine P_det rf (Over_nil (y_move (c := .int .i64 _) rf)) ?_
 refine P_det rf (Over_nil (y_neqF rf rf)) ?_
 refine P_det rf (Over_nil (y_move (c := .bool _) rf)) ?_
 refine P_det rf (Over_nil (y_fieldAddr rf fa62_2)) ?_
 refine P_det rf (Over_nil (y_load1 rf Tryz.isAgg60 (Mem.own1 0 rf rf))) ?_
 refine P_det rf (Over_nil (y_len rf Tryz.runUnderlying60)) ?_
 refine P_det rf (Over_nil (y_neqF rf rf)) ?_
 refine P_det rf (Over_nil (by first | exact y_pick_t (c := .bool _) rf rf | exact y_pick_f (c := .bool _) rf rf)) ?_
 refine P_det rf (Over_nil (y_move (c := .bool _) rf)) ?_
 refine P_det rf (Over_nil (y_fieldAddr rf fa62_2)) ?_
 refine P_det rf (Over_nil (y_load1 rf Tryz.isAgg60 (Mem.own1 0 rf rf))) ?_
 refine P_det rf (Over_nil (y_index (k := 4) rf rf r10 d10 Tryz.runUnderlying60 Tryz.sizeOf90)) ?_
 refine P_det rf (Over_nil (y_loadN rf Tryz.isAgg90 Tryz.sizeOf90 (fun w hw => (show At w bu (0 + 4 * 4) [.int .i64 5, .int .i64 2, .int .i64 5, .int .i64 5] from (NewRow.rws en_len hu2 rfl sbA w hw).at (k := 4) dc)) rf)) ?_
 refine P_det rf (Over_nil (y_callL rf rf Tryz.call35 (fun w hw => l8span_any _ _ w))) ?_
 refine P_det rf (Over_nil (y_buildL bd90_0_1_2 rf)) ?_
 refine P_det rf (Over_nil (y_neqlAF rf rf neqA90 (by simp only [ieq_self, Bool.and_self, Bool.not_true]))) ?_
 refine P_det rf (Over_nil (by first | exact y_pick_t (c := .bool _) rf rf | exact y_pick_f (c := .bool _) rf rf)) ?_
 refine PW_end rf ?_
 refine OverAll_nil ?_
 rintro -
 refine Then_normal ?_
 refine W_cond rf (fun c14 => ?_) (fun c14 => ?_)
 ·cases c14
 ·
  try simp only [qz1, qz2, qz3, qz4, qz5, qz6, qz7, qz8] at c14
  refine W_skip ?_
  refine zS fun ds => ?_
  refine zm (.int .i64 _) hF ?_
  refine zD hF (y_eqlT rf rf) ?_
  refine zm (.bool _) hF ?_
  refine zm (.int .i64 _) hF ?_
  refine zD hF (y_eqlT rf rf) ?_
  refine zD hF (zpk (.bool _)) ?_
  refine zm (.bool _) hF ?_
  refine zm (.int .i64 _) hF ?_
  refine zD hF (y_eqlT rf rf) ?_
  refine zD hF (zpk (.bool _)) ?_
  refine zm (.bool _) hF ?_
  refine zm (.slice _ _ _) hF ?_
  refine WS_newS hF rf (y_buildSliceL bs22_4_0_1_2_3 rf) (fun k1 => ?_)
  refine zD hF (y_callL rf rf Tryz.call23 (fun w hw => Ct_eq (c' := .bool true) (sameInts2_any _ _ _ _ _ _ [0, 2, 4, 6] [0, 2, 4, 6] w dc (NewRow.ints hm rfl sbA w hw) (Ints.mem (rest := []) 0 rf rf dc w hw)) (by simp))) ?_
  refine zD hF (zpk (.bool _)) ?_
  refine zm (.bool _) hF ?_
  refine zm (.int .i64 _) hF ?_
  refine zD hF (y_eqlT rf rf) ?_
  refine zD hF (zpk (.bool _)) ?_
  refine zm (.bool _) hF ?_
  refine zm (.int .i64 _) hF ?_
  refine zD hF (y_eqlT rf rf) ?_
  refine zD hF (zpk (.bool _)) ?_
  refine zm (.bool _) hF ?_
  refine zm (.int .i64 _) hF ?_
  refine zD hF (y_eqlT rf rf) ?_
  refine zD hF (zpk (.bool _)) ?_
  refine zm (.bool _) hF ?_
  refine zm (.int .i64 _) hF ?_
  refine zD hF (y_eqlT rf rf) ?_
  refine zD hF (zpk (.bool _)) ?_
  refine zm (.bool _) hF ?_
  refine zm (.slice _ _ _) hF ?_
  refine WS_newS hF rf (y_buildSliceL bs22_12_0_1_2_3_4_5_6_7_8_9_10_11 rf) (fun k2 => ?_)
  refine WS_gen hF rf (y_callL rf rf Tryz.call44 (fun w hw => l8pours_any w4.l _ _ w dc (Ints.mem (rest := []) 0 rf rf dc w hw))) ?_
  rintro _ HP ⟨p9, q9, rfl, hpp⟩
  refine WS_back ?_
  refine zD hF (y_callL rf rf Tryz.call45 (fun w hw => samePo_any w4.l _ _ _ _ w dc (hP4 _ _ w sbA hw) (NewRow.rws po_len hpp rfl sbA w hw))) ?_
  refine zD hF (zpk (.bool _)) ?_
  refine zm (.bool _) hF ?_
  refine zm (.int .i64 _) hF ?_
  refine zD hF (y_eqlT rf rf) ?_
  refine zD hF (zpk (.bool _)) ?_
  refine zm (.bool _) hF ?_
  refine zm (.int .i64 _) hF ?_
  refine zD hF (y_eqlT rf rf) ?_
  refine zD hF (zpk (.bool _)) ?_
  refine zm (.bool _) hF ?_
  refine zm (.slice _ _ _) hF ?_
  refine WS_newS hF rf (y_buildSliceL bs22_8_0_1_2_3_4_5_6_7 rf) (fun k3 => ?_)
  refine WS_gen hF rf (y_callL rf rf Tryz.call44 (fun w hw => l8pours_any w1.l _ _ w dc (Ints.mem (rest := []) 0 rf rf dc w hw))) ?_
  rintro _ HP ⟨p9, q9, rfl, hpp⟩
  refine WS_back ?_
  refine zD hF (y_callL rf rf Tryz.call45 (fun w hw => samePo_any w1.l _ _ _ _ w dc (hP1 _ _ w sbA hw) (NewRow.rws po_len hpp rfl sbA w hw))) ?_
  refine zD hF (zpk (.bool _)) ?_
  refine zm (.bool _) hF ?_
  refine zm (.int .i64 _) hF ?_
  refine zD hF (y_eqlT rf rf) ?_
  refine zD hF (zpk (.bool _)) ?_
  refine zm (.bool _) hF ?_
  refine zm (.slice _ _ _) hF ?_
  refine WS_newS hF rf (y_buildSliceL bs22_6_0_1_2_3_4_5 rf) (fun k4 => ?_)
  refine WS_gen hF rf (y_callL rf rf Tryz.call44 (fun w hw => l8pours_any w6.l _ _ w dc (Ints.mem (rest := []) 0 rf rf dc w hw))) ?_
  rintro _ HP ⟨p9, q9, rfl, hpp⟩
  refine WS_back ?_
  refine zD hF (y_callL rf rf Tryz.call45 (fun w hw => samePo_any w6.l _ _ _ _ w dc (hP6 _ _ w sbA hw) (NewRow.rws po_len hpp rfl sbA w hw))) ?_
  refine zD hF (zpk (.bool _)) ?_
  refine zm (.bool _) hF ?_
  refine zm (.int .i64 _) hF ?_
  refine zD hF (y_eqlT rf rf) ?_
  refine zD hF (zpk (.bool _)) ?_
  refine zm (.bool _) hF ?_
  refine zm (.int .i64 _) hF ?_
  refine zD hF (y_eqlT rf rf) ?_
  refine zD hF (zpk (.bool _)) ?_
  refine zm (.bool _) hF ?_
  refine zm (.int .i64 _) hF ?_
  refine zD hF (y_eqlT rf rf) ?_
  refine zD hF (zpk (.bool _)) ?_
  refine zm (.bool _) hF ?_
  refine zm (.int .i64 _) hF ?_
  refine zD hF (y_eqlT rf rf) ?_
  refine zD hF (zpk (.bool _)) ?_
  refine zm (.bool _) hF ?_
  refine zm (.int .i64 _) hF ?_
  refine zD hF (y_eqlT rf rf) ?_
  refine zD hF (zpk (.bool _)) ?_
  refine zm (.bool _) hF ?_
  refine zm (.int .i64 _) hF ?_
  refine zD hF (y_eqlT rf rf) ?_
  refine zD hF (zpk (.bool _)) ?_
  refine zm (.bool _) hF ?_
  refine zm (.int .i64 _) hF ?_
  refine zD hF (y_eqlT rf rf) ?_
  refine zD hF (zpk (.bool _)) ?_
  refine zm (.bool _) hF ?_
  refine zm (.slice _ _ _) hF ?_
  refine zD hF (y_len rf Tryz.runUnderlying34) ?_
  refine zD hF (y_eqlT rf rf) ?_
  refine zD hF (zpk (.bool _)) ?_
  refine zm (.bool _) hF ?_
  refine zm (.slice _ _ _) hF ?_
  refine zD hF (y_index (k := 2) rf rf r10 d10 Tryz.runUnderlying34 Tryz.sizeOf24) ?_
  refine zD hF (y_fieldAddr rf fa24_2) ?_
  refine zD hF (y_load1 rf Tryz.isAgg3 (fun w hw => ⟨((NewRow.rws (bl_len bef0) hrow rfl sbA w hw).at (k := 2) (by simp)).2.2.1, trivial⟩)) ?_
  refine zD hF (y_eqlT rf rf) ?_
  refine zD hF (zpk (.bool _)) ?_
  refine zm (.bool _) hF ?_
  refine zm (.slice _ _ _) hF ?_
  refine zD hF (y_index (k := 2) rf rf r10 d10 Tryz.runUnderlying34 Tryz.sizeOf24) ?_
  refine zD hF (y_fieldAddr rf fa24_1) ?_
  refine zD hF (y_load1 rf Tryz.isAgg22 (fun w hw => ⟨((NewRow.rws (bl_len bef0) hrow rfl sbA w hw).at (k := 2) (by simp)).2.1, trivial⟩)) ?_
  refine zD hF (y_index (k := 0) rf rf rf (show 0 < 2 by decide) Tryz.runUnderlying22 Tryz.sizeOf3) ?_
  refine zD hF (y_load1 rf Tryz.isAgg3 (fun w hw => (hrd2.i _ _ w sbA hw).at (k := 0) om0)) ?_
  refine zD hF (y_eqlT rf rf) ?_
  refine zD hF (zpk (.bool _)) ?_
  refine zm (.bool _) hF ?_
  refine zm (.int .i64 _) hF ?_
  refine zD hF (y_eqlT rf rf) ?_
  refine zD hF (zpk (.bool _)) ?_
  refine zm (.bool _) hF ?_
  refine zD hF (y_fieldAddr rf fa24_2) ?_
  refine zD hF (y_load1 rf Tryz.isAgg3 (Mem.own1 5 rf rf)) ?_
  refine zD hF (y_eqlT rf rf) ?_
  refine zD hF (zpk (.bool _)) ?_
  refine za (.bool _) hF ?_
  refine zN ?_
  refine W_ret ?_
  refine Fin_ret [.bool _] [] Tryz.results13 ⟨by rfl, trivial⟩ HSub.nil ?_
  rfl
set_option maxHeartbeats 1000000
section
variable {c : Cn} {B0 : Bl} {ps : List Po} {bs : List Bl} {aA : Option Addr} {kA : Nat} {HA : List Blk} {aL : Option Addr} {kL : Nat} {HL HX : List Blk}
theorem WkS.get (h : WkS c B0 ps bs aA kA HA aL kL HL HX) (h0 : B0.x = c.co) {k : Nat} (hk : k ≤ bs.length) : ∃ y : Bl, y = (B0 :: bs).getD k Bl.z ∧ y.x = c.runK ps k ∧ (y = B0 ∨ y.RdH c HX) := by
 refine ⟨_, rfl, h.at h0 hk, ?_⟩
 cases k with
 | zero => exact .inl rfl
 | succ k =>
  refine .inr (h.rd _ ?_)
  show bs.getD k Bl.z ∈ _
  rw [List.getD_eq_getElem?_getD, List.getElem?_eq_getElem om0]
  exact List.getElem_mem _
theorem WkS.cell {br : Nat} (h : WkS c B0 ps bs (some ⟨br, 0, none⟩) kA HA aL kL HL HX) {k : Nat} (hk : k ≤ bs.length) {y : Bl} (hy : y = (B0 :: bs).getD k Bl.z) {C : Ctx} {H : List Blk} (hs : HA.Sublist H) (w : World) (hw : St C H w) : At w br (0 + k * 3) [.slice y.s c.n y.ks, .slice y.i (c.of y.x).inn.length y.ki, .int .i64 y.x.a] := by
 rw [hy]; exact (NewRow.rws (bl_len c) h.rowA rfl hs w hw).at (k := k) (by simp; omega)
theorem WkS.pcell {bl : Nat} (h : WkS c B0 ps bs aA kA HA (some ⟨bl, 0, none⟩) kL HL HX) {k : Nat} (hk : k < ps.length) {C : Ctx} {H : List Blk} (hs : HL.Sublist H) (w : World) (hw : St C H w) : At w bl (0 + k * 2) (ps.getD k Po.z).cells :=
 (NewRow.rws po_len h.rowL rfl hs w hw).at (k := k) hk
theorem WkS.pos (h : WkS c B0 ps bs aA kA HA aL kL HL HX) {C : Ctx} {H : List Blk} (hs : HL.Sublist H) (w : World) (hw : St C H w) : Pos w aL ps.length kL ps := NewRow.rws po_len h.rowL rfl hs w hw
end
theorem Cn.b0x (c : Cn) (a1 : Option Addr) (p1 : Nat) (a2 : Option Addr) (p2 : Nat) : (c.b0 a1 p1 a2 p2).x = c.co := rfl
theorem Cn.b0i {c : Cn} (hok : c.Ok) {a1 : Option Addr} {p1 : Nat} {a2 : Option Addr} {p2 : Nat} {w : World} (h2 : Ints w a2 c.inn.length p2 c.inn) : Ints w (c.b0 a1 p1 a2 p2).i (c.of (c.b0 a1 p1 a2 p2).x).inn.length (c.b0 a1 p1 a2 p2).ki (c.of (c.b0 a1 p1 a2 p2).x).inn := by
 rw [show (c.of (c.b0 a1 p1 a2 p2).x).inn = c.inn by show (c.of c.co).inn = _; rw [hok.co_of]]; exact h2
theorem Cn.RunOk.sm {c : Cn} (hok : c.Ok) {l : List Po} {k : Nat} (h : c.RunOk l l.length) (hk : k ≤ l.length) : (c.runK l k).sm = c.co.sm := by
 have hw : c.Way ⟨l.take k, c.backK l k⟩ (c.runK l k) := Cn.RunOk.way (fun j hj => h j om0) hk
 exact (hw.in hok).2
theorem Cn.runK_take (c : Cn) (l : List Po) {k : Nat} (hk : k ≤ l.length) : ∀ j, j ≤ k → c.runK (l.take k) j = c.runK l j ∧ c.backK (l.take k) j = c.backK l j
 | 0, _ => ⟨rfl, rfl⟩
 | j + 1, h => by
  have ih := Cn.runK_take c l hk j om0
  have e : c.runK (l.take k) (j + 1) = c.runK l (j + 1) := by
   unfold Cn.runK
   rw [ih.1]
   congr 1
   simp [List.getD_eq_getElem?_getD, show j < k by omega]
  refine ⟨e, ?_⟩
  unfold Cn.backK
  rw [e, ih.1, ih.2]
theorem Cn.RunOk.take {c : Cn} {l : List Po} {k : Nat} (h : c.RunOk l l.length) (hk : k ≤ l.length) : c.RunOk (l.take k) (l.take k).length := fun j hj => by
 rw [List.length_take] at hj
 rw [(Cn.runK_take c l hk j om0).1, show (l.take k).getD j Po.z = l.getD j Po.z by simp [List.getD_eq_getElem?_getD, show j < k by omega]]
 exact h j om0
theorem Cn.runK_drop {c : Cn} (hok : c.Ok) {l : List Po} (h : c.RunOk l l.length) {k : Nat} (hk : k ≤ l.length) : ∀ j, k + j ≤ l.length → (c.of (c.runK l k)).runK (l.drop k) j = c.runK l (k + j) ∧ (c.of (c.runK l k)).backK (l.drop k) j + c.backK l k = c.backK l (k + j)
 | 0, _ => by
  have hin : c.In (c.runK l k) := hok.run_in fun j hj => h j om0
  refine ⟨hok.of_co hin, ?_⟩
  show (0 : Int) + _ = _
  rw [Int.zero_add]; rfl
 | j + 1, hj => by
  have ih := Cn.runK_drop hok h hk j om0
  have e : (c.of (c.runK l k)).runK (l.drop k) (j + 1) = c.runK l (k + (j + 1)) := by
   show (c.of (c.runK l k)).stp ((c.of (c.runK l k)).runK (l.drop k) j) ((l.drop k).getD j Po.z) = c.stp (c.runK l (k + j)) (l.getD (k + j) Po.z)
   rw [ih.1, show (l.drop k).getD j Po.z = l.getD (k + j) Po.z by simp [List.getD_eq_getElem?_getD]]
   rfl
  refine ⟨e, ?_⟩
  show (c.of (c.runK l k)).backK (l.drop k) j + bk ((c.of (c.runK l k)).runK (l.drop k) j) ((c.of (c.runK l k)).runK (l.drop k) (j + 1)) + c.backK l k = c.backK l (k + j) + bk (c.runK l (k + j)) (c.runK l (k + j + 1))
  rw [e, ih.1, ← ih.2, show k + (j + 1) = k + j + 1 from rfl]
  omega
theorem Cn.RunOk.drop {c : Cn} (hok : c.Ok) {l : List Po} {k : Nat} (h : c.RunOk l l.length) (hk : k ≤ l.length) : (c.of (c.runK l k)).RunOk (l.drop k) (l.drop k).length := fun j hj => by
 rw [List.length_drop] at hj
 rw [(Cn.runK_drop hok h hk j om0).1, show (l.drop k).getD j Po.z = l.getD (k + j) Po.z by simp [List.getD_eq_getElem?_getD]]
 exact h (k + j) om0
theorem PlayV.run {c : Cn} (hok : c.Ok) {l : List Po} (h : c.RunOk l l.length) {v : Value} {Hn : List Blk} (hv : PlayV c l v Hn) : ∃ v0, v = .tuple #[v0, .int .i64 (c.backK l l.length), .int .i64 0, .int .i64 0] ∧ TwinC (c.of (c.runK l l.length)) v0 Hn := by
 have hb : c.bad l = none := Cn.badK_none fun j _ hj => h j om0
 have hB := Cn.ok_iff.2 hok
 obtain ⟨v0, rfl, hT⟩ := hv
 unfold Cn.plC at hT
 unfold Cn.plB Cn.plA Cn.plE
 rw [if_pos hB, hb] at hT
 rw [if_pos hB, if_pos hB, if_pos hB, hb]
 exact ⟨v0, rfl, hT⟩
set_option maxRecDepth 100000
set_option maxHeartbeats 4000000
theorem AskA.un {o : Option Wy} {e : Int} {v : Value} {Hn : List Blk} (h : AskA e o v Hn) (he : e = 0) : ∃ a k, v = .tuple #[.slice a (fewL o).length k, .int .i64 (fewB o), .int .i64 (fewE o)] ∧ ∀ (C : Ctx) (H : List Blk) (u : World), Hn.Sublist H → St C H u → Pos u a (fewL o).length k (fewL o) := by
 subst he
 obtain ⟨v0, rfl, a, k, rfl, h⟩ := h
 exact ⟨a, k, rfl, h⟩
end Go.Proofs.YtjekjehgmljbgaaGreatDoor.T
namespace Go.Eng
open Go.RowKit
section
variable {P : Program} {T E : TypeId}
structure Arr3 (P : Program) (T E : TypeId) : Prop where
 t : P.underlying T = some (.array 3 E)
 e : P.underlying E = some (.int .i64)
 agg : ∀ w, (isAgg E).run P w = .ok false w
 sz : ∀ w, (sizeOf E).run P w = .ok 1 w
def arr3 (a b c : Int) : Value := .agg #[.int .i64 a, .int .i64 b, .int .i64 c]
end
end Go.Eng
namespace Go.Proofs.YtjekjehgmljbgaaGreatDoor.T
open Go.RowKit Go.Proofs Go.Eng
set_option maxRecDepth 100000
set_option maxHeartbeats 4000000
theorem nodup_sub_len {α : Type} [DecidableEq α] : ∀ {l m : List α}, l.Nodup → (∀ x ∈ l, x ∈ m) → l.length ≤ m.length := by
 intro l
 induction l with
 | nil => intro m _ _; exact Nat.zero_le _
 | cons x l ih =>
  intro m hl hs
  rw [List.nodup_cons] at hl
  have hxm := hs x List.mem_cons_self
  have h := ih (m := m.erase x) hl.2 fun y hy => by
   have hne : y ≠ x := fun e => hl.1 (e ▸ hy)
   exact (List.mem_erase_of_ne hne).2 (hs y (List.mem_cons_of_mem _ hy))
  rw [List.length_erase_of_mem hxm] at h
  have := List.length_pos_of_mem hxm
  simp only [List.length_cons]
  omega
abbrev K3 := Int × Int × Int
def enc3 (k : K3) : Value := .agg #[.int .i64 k.1, .int .i64 k.2.1, .int .i64 k.2.2]
def Co.k3 (x : Co) : K3 := (x.b, x.c, x.d)
def kvL (x : Co) (j : Nat) : List Int := (List.range 3).map fun t => if t < j then x.g (t + 1) else 0
theorem Cn.In.kvL {c : Cn} {x : Co} (h : c.In x) (h3 : c.n ≤ 3) : kvL x c.n = [x.b, x.c, x.d] := by
 have key : ∀ t, t < 3 → (if t < c.n then x.g (t + 1) else 0) = x.g (t + 1) := fun t ht => by
  by_cases e : t < c.n
  ·rw [if_pos e]
  ·rw [if_neg e, h.z (t + 1) om0 om0]
 have k0 : (if 0 < c.n then x.g 1 else 0) = x.g 1 := key 0 dc
 have k1 : (if 1 < c.n then x.g 2 else 0) = x.g 2 := key 1 dc
 have k2 : (if 2 < c.n then x.g 3 else 0) = x.g 3 := key 2 dc
 show [if 0 < c.n then x.g 1 else 0, if 1 < c.n then x.g 2 else 0, if 2 < c.n then x.g 3 else 0] = _
 rw [k0, k1, k2]
 rfl
def Cn.bck (c : Cn) (k : K3) : Co := ⟨c.co.sm - k.1 - k.2.1 - k.2.2, k.1, k.2.1, k.2.2⟩
theorem Cn.bck_k3 {c : Cn} {x : Co} (h : x.sm = c.co.sm) : c.bck x.k3 = x := by
 obtain ⟨a, b, d, e⟩ := x
 have h' : a + b + d + e = c.co.sm := h
 unfold Cn.bck Co.k3
 simp only [Co.mk.injEq, and_true]
 omega
theorem Cn.bck_inj {c : Cn} {k k' : K3} (h : c.bck k = c.bck k') : k = k' := by
 obtain ⟨a, b, d⟩ := k
 obtain ⟨a', b', d'⟩ := k'
 unfold Cn.bck at h
 simp only [Co.mk.injEq] at h
 simp only [Prod.mk.injEq]
 exact h.2
def dig (n : Nat) : K3 := (((n / 441 : Nat) : Int), ((n / 21 % 21 : Nat) : Int), ((n % 21 : Nat) : Int))
open Classical in
theorem Cn.all_ex {c : Cn} (hok : c.Ok) : ∃ L, c.IsAll L := by
 refine ⟨((List.range 9261).map fun n => c.bck (dig n)).filter fun y => decide (∃ w, c.Best w y), List.nodup_iff_pairwise_ne.2 (List.Pairwise.filter _ ?_), fun y => ?_⟩
 ·rw [List.pairwise_map]
  refine List.pairwise_lt_range.imp_of_mem fun {i j} hi hj hij he => ?_
  have h := Cn.bck_inj he
  unfold dig at h
  simp only [Prod.mk.injEq] at h
  have hi := List.mem_range.1 hi
  have hj := List.mem_range.1 hj
  omega
 ·rw [List.mem_filter, decide_eq_true_eq]
  refine ⟨fun h => h.2, fun ⟨w, hw⟩ => ⟨?_, w, hw⟩⟩
  obtain ⟨hin, hsm⟩ := hw.way.in hok
  have hb : 0 ≤ y.b ∧ y.b ≤ 20 := hin.bd hok (k := 1) dc dc
  have hc : 0 ≤ y.c ∧ y.c ≤ 20 := hin.bd hok (k := 2) dc dc
  have hd : 0 ≤ y.d ∧ y.d ≤ 20 := hin.bd hok (k := 3) dc dc
  refine List.mem_map.2 ⟨(y.b.toNat * 21 + y.c.toNat) * 21 + y.d.toNat, List.mem_range.2 om0, ?_⟩
  have e : dig ((y.b.toNat * 21 + y.c.toNat) * 21 + y.d.toNat) = y.k3 := by
   unfold dig Co.k3
   simp only [Prod.mk.injEq]
   omega
  rw [e, Cn.bck_k3 hsm]
theorem Cn.many_ge {c : Cn} (hok : c.Ok) {M : List Co} (hn : M.Nodup) (h : ∀ y ∈ M, ∃ w, c.Best w y) : M.length ≤ c.many := by
 obtain ⟨L, hL⟩ := Cn.all_ex hok
 rw [hL.len]
 exact nodup_sub_len hn fun y hy => (hL.2 y).2 (h y hy)
theorem Cn.RunOk.best {c : Cn} (hok : c.Ok) {l : List Po} {k : Nat} (h : c.RunOk l l.length) (hk : k ≤ l.length) : ∃ w, c.Best w (c.runK l k) :=
 Cn.Way.best hok.n3 (Cn.RunOk.way (fun j hj => h j om0) hk)
structure SeenI (c : Cn) (ps : List Po) (l : List (EntK K3)) (cl : Nat) : Prop where
 good : GoodM l cl
 of : ∀ e ∈ l, ∃ k, k ≤ ps.length ∧ e.1 = (c.runK ps k).k3
theorem SeenI.put {c : Cn} {ps : List Po} {l : List (EntK K3)} {cl : Nat} (h : SeenI c ps l cl) {k : Nat} (hk : k ≤ ps.length) {x : Co} (hx : x = c.runK ps k) (v : Value) : SeenI c ps (putL x.k3 v l cl) (putC x.k3 l cl) :=
 ⟨h.good.put _ _, fun e he => by
  rcases mem_putL he with ⟨e1, _⟩ | ⟨h1, _⟩ | ⟨h1, _⟩
  ·exact ⟨k, hk, by rw [e1, hx]⟩
  ·exact h.of e h1
  ·exact h.of e h1⟩
theorem SeenI.len {c : Cn} (hok : c.Ok) {ps : List Po} (hr : c.RunOk ps ps.length) {l : List (EntK K3)} {cl : Nat} (h : SeenI c ps l cl) : l.length ≤ c.many := by
 have := Cn.many_ge hok (M := (l.map (·.1)).map c.bck) (by
  rw [List.nodup_iff_pairwise_ne, List.pairwise_map]
  have := List.nodup_iff_pairwise_ne.1 h.good.keys
  exact this.imp fun hne he => hne (Cn.bck_inj he)) fun y hy => by
  obtain ⟨k3, hk3, rfl⟩ := List.mem_map.1 hy
  obtain ⟨e, he, rfl⟩ := List.mem_map.1 hk3
  obtain ⟨k, hk, hek⟩ := h.of e he
  rw [hek, Cn.bck_k3 (hr.sm hok hk)]
  exact hr.best hok hk
 simpa using this
theorem Bl.adr {c : Cn} {b B0 : Bl} {HX : List Blk} {w : World} (h : b = B0 ∨ b.RdH c HX) (h2 : Ints w B0.i (c.of B0.x).inn.length B0.ki (c.of B0.x).inn) (h0 : 0 < (c.of b.x).inn.length) : ∃ bb o, b.i = some ⟨bb, o, none⟩ := by
 rcases h with rfl | h
 ·obtain ⟨bb, o, e, _⟩ := h2.cell 0 h0
  exact ⟨bb, o, e⟩
 ·rcases h.oi with h | ⟨bb, vs, e, _⟩
  ·omega
  ·exact ⟨bb, 0, e⟩
theorem same_true {c d : Cn} (h : c = d) : Value.bool (decide (c.sz = d.sz) && decide (c.inn = d.inn) && decide (c.st = d.st)) = .bool true := by
 subst h; simp
theorem PlayV.take {c : Cn} (hok : c.Ok) {l : List Po} (h : c.RunOk l l.length) {k : Nat} (hk : k ≤ l.length) {v : Value} {Hn : List Blk} (hv : PlayV c (l.take k) v Hn) : ∃ v0, v = .tuple #[v0, .int .i64 (c.backK l k), .int .i64 0, .int .i64 0] ∧ TwinC (c.of (c.runK l k)) v0 Hn := by
 obtain ⟨v0, rfl, hT⟩ := PlayV.run hok (h.take hk) hv
 have hl : (l.take k).length = k := by rw [List.length_take]; omega
 rw [hl] at hT ⊢
 rw [(Cn.runK_take c l hk k (Nat.le_refl _)).1] at hT
 rw [(Cn.runK_take c l hk k (Nat.le_refl _)).2]
 exact ⟨v0, rfl, hT⟩
theorem PlayV.drop {c : Cn} (hok : c.Ok) {l : List Po} (h : c.RunOk l l.length) {k : Nat} (hk : k ≤ l.length) {v : Value} {Hn : List Blk} (hv : PlayV (c.of (c.runK l k)) (l.drop k) v Hn) : ∃ v0 n, v = .tuple #[v0, .int .i64 n, .int .i64 0, .int .i64 0] ∧ n + c.backK l k = c.backK l l.length ∧ TwinC (c.of (c.runK l l.length)) v0 Hn := by
 have hin : c.In (c.runK l k) := hok.run_in fun j hj => h j om0
 obtain ⟨v0, rfl, hT⟩ := PlayV.run (hok.of hin) (h.drop hok hk) hv
 have hd := Cn.runK_drop hok h hk (l.drop k).length (by rw [List.length_drop]; omega)
 have hkl : k + (l.drop k).length = l.length := by rw [List.length_drop]; omega
 rw [hkl] at hd
 rw [hd.1] at hT
 exact ⟨v0, _, rfl, hd.2, hT⟩
set_option maxHeartbeats 8000000
theorem Co.lt_nd {L : List Co} (h : L.Pairwise Co.lt) : L.Nodup := List.nodup_iff_pairwise_ne.2 (h.imp fun {a b} hab e => by subst e; exact Co.lt_irr _ hab)
theorem Cn.BefS.len {c : Cn} {f t : Nat} {L : List Co} (h : c.BefS f t L) (hok : c.Ok) (hp : c.Fp f t) : L.length ≤ 21 := by
 have hb : ∀ x ∈ L, x = c.old f t (c.amt x f t).toNat ∧ (c.amt x f t).toNat < 21 := fun x hx => by
  have hi := (h.mem x).1 hx
  have ha := hi.amt hok hp
  exact ⟨hi.old hok hp, by omega⟩
 have := nodup_sub_len (l := L.map fun x => (c.amt x f t).toNat) (m := List.range 21) (by
  rw [List.nodup_iff_pairwise_ne, List.pairwise_map]
  refine (List.nodup_iff_pairwise_ne.1 (Co.lt_nd h.srt)).imp_of_mem fun {a b} ha hb' hne he => hne ?_
  rw [(hb a ha).1, (hb b hb').1, he]) fun n hn => by
  obtain ⟨x, hx, rfl⟩ := List.mem_map.1 hn
  exact List.mem_range.2 (hb x hx).2
 simpa using this
theorem Cn.In.eq_of_inn {c : Cn} {x y : Co} (hok : c.Ok) (hx : c.In x) (hy : c.In y) (h : (c.of x).inn = (c.of y).inn) : x.b = y.b ∧ x.c = y.c ∧ x.d = y.d := by
 have h3 := hok.n3
 have key : ∀ k, k < 3 → x.g (k + 1) = y.g (k + 1) := fun k hk => by
  by_cases hkn : k < c.n
  ·have e1 := c.of_i x k hkn h3
   have e2 := c.of_i y k hkn h3
   unfold Cn.i at e1 e2
   rw [← e1, ← e2, h]
  ·rw [hx.z (k + 1) om0 om0, hy.z (k + 1) om0 om0]
 exact ⟨key 0 dc, key 1 dc, key 2 dc⟩
def fdB (x0 : Co) (n : Nat) (bs : List Bl) (i : Nat) : Bool := decide (0 < n) && (bs.take i).any fun b => decide (b.x = x0)
theorem fdB_succ {x0 : Co} {n : Nat} {bs : List Bl} {i : Nat} (h : i < bs.length) : fdB x0 n bs (i + 1) = (fdB x0 n bs i || (decide (0 < n) && decide ((bs.getD i Bl.z).x = x0))) := by
 unfold fdB
 rw [List.take_add_one, List.getElem?_eq_getElem h, List.any_append]
 simp only [Option.toList_some, List.any_cons, List.any_nil, Bool.or_false, List.getD_eq_getElem?_getD, List.getElem?_eq_getElem h, Option.getD_some]
 cases decide (0 < n) <;> simp
theorem same_of {c : Cn} {x y : Co} (hok : c.Ok) (hx : c.In x) (hy : c.In y) : (decide ((c.of x).sz = (c.of y).sz) && decide ((c.of x).inn = (c.of y).inn) && decide ((c.of x).st = (c.of y).st)) = decide (x = y) := by
 rw [Bool.eq_iff_iff]
 simp only [Bool.and_eq_true, decide_eq_true_eq]
 constructor
 ·rintro ⟨⟨_, h1⟩, h2⟩
  obtain ⟨e1, e2, e3⟩ := hx.eq_of_inn hok hy h1
  have e0 : x.a = y.a := h2
  obtain ⟨_, _, _, _⟩ := x
  obtain ⟨_, _, _, _⟩ := y
  simp only at e0 e1 e2 e3
  rw [e0, e1, e2, e3]
 ·rintro rfl; exact ⟨⟨rfl, rfl⟩, rfl⟩
section
variable {C : Ctx} {e : Env} {H : List Blk} {d : Option Tmp} {ty : TypeId} {pos : String} {af : Array Edge} {g : Option (Nat × Bool)}
theorem y_rem8 {x y : Operand} {m n : Int} {t t' : TypeId} (hx : ev e x = .int .u8 m) (hy : ev e y = .int .u8 n) (h0 : 0 ≤ m) (h1 : 0 < n) : YD C ⟨d, .binOp .rem t x y t', ty, pos, af, g⟩ e H (.int .u8 (m % n)) :=
 yd_of fun w _ => by
  have h6 : ¬ n = 0 := by omega
  simp [execOp, hx, hy, eqGuard, binOp, Op.intDiv, h6, Int.tmod_eq_emod_of_nonneg h0]
end
theorem canBack_any (c : Cn) (a1 : Option Addr) (p1 : Nat) (a2 : Option Addr) (p2 : Nat) (ba : Option Addr) (bn bcap : Nat) (by_ : List Int) (fr to : Nat) (w : World) (hG : Gv w) (hfr : fr ≤ 255) (hto : to ≤ 255) (h1 : Ints w a1 c.n p1 c.sz) (h2 : Ints w a2 c.inn.length p2 c.inn) (hby : U4s w ba bn bcap by_) : Ct Tryz.prog 5 #[.agg #[.slice a1 c.n p1, .slice a2 c.inn.length p2, .int .i64 c.st], .slice ba bn bcap, .int .u8 (fr : Int), .int .u8 (to : Int)] w fun v _ => v = .bool true := by
 have hF := wide_wide
 refine Ct_start (args := [_, _, _, _]) Tryz.func5 rf Tryz.ntmps5 rf ?_
 refine zR fun ds => ?_
 refine WS_new hF rf (y_box rf) (fun b1 => ?_)
 refine za (.bool _) hF ?_
 refine zP fun ds => ?_
 refine zD hF (y_callL rf rf Tryz.call13 (fun w hw => calive_any w (hG.st w hw))) ?_
 refine za (.bool _) hF ?_
 refine zO ?_
 refine zR fun ds => ?_
 refine zD hF (y_loadN rf Tryz.isAgg24 Tryz.sizeOf24 (Mem.own (us := [.slice _ _ _, .slice _ _ _, .int .i64 _]) 0 rf rf) rf) ?_
 refine zD hF (y_callL rf rf Tryz.call14 (fun w hw => lrdy_any c a1 p1 a2 p2 w (h1.st w hw) (h2.st w hw))) ?_
 refine zD hF (y_not rf) ?_
 refine zm (.bool _) hF ?_
 refine WS_split 29 rf (fun g2_3 => ?_) (fun g2_3 => ?_)
 ·
  try simp only [qz1, qz2, qz3, qz4, qz5, qz6, qz7, qz8] at g2_3
  refine zno hF ?_
  refine zno hF ?_
  refine zD hF (zpk (.bool _)) ?_
  refine zN ?_
  refine W_cond rf (fun c2 => ?_) (fun c2 => ?_)
  ·
   try simp only [qz1, qz2, qz3, qz4, qz5, qz6, qz7, qz8] at c2
   refine zR fun ds => ?_
   refine zm (.bool _) hF ?_
   refine za (.bool _) hF ?_
   refine zN ?_
   refine W_ret ?_
   refine Then_ret ?_
   refine Fin_ret [.bool _] [] Tryz.results5 ⟨by rfl, trivial⟩ HSub.nil ?_
   first
    | rfl
    | exact congrArg Value.bool hfd
  ·cases c2
 ·
  try simp only [qz1, qz2, qz3, qz4, qz5, qz6, qz7, qz8] at g2_3
  have hokB : c.okB = true := by simpa using g2_3
  have hok := Cn.ok_iff.1 hokB
  have hn1 := hok.n1
  have hn3 := hok.n3
  have hlen := hok.len
  have hn : c.n ≤ 1000000 := by omega
  have hm : c.inn.length ≤ 1000000 := by omega
  have hB2 := Cn.b0i hok (a1 := a1) (p1 := p1) h2
  refine zm (.bool _) hF ?_
  refine zD hF (y_not rf) ?_
  refine zD hF (zpk (.bool _)) ?_
  refine zN ?_
  refine W_cond rf (fun c2 => ?_) (fun c2 => ?_)
  ·cases c2
  ·
   try simp only [qz1, qz2, qz3, qz4, qz5, qz6, qz7, qz8] at c2
   refine W_skip ?_
   refine zS fun ds => ?_
   refine zD hF (y_loadN rf Tryz.isAgg24 Tryz.sizeOf24 (Mem.own (us := [.slice _ _ _, .slice _ _ _, .int .i64 _]) 0 rf rf) rf) ?_
   refine zm (.slice _ _ _) hF ?_
   refine WS_gen hF rf (y_callL rf rf Tryz.call17 (fun w hw => lwalk_any c a1 p1 a2 p2 ba bn bcap by_ 6 w hok hn hm (h1.st w hw) (h2.st w hw) om0 (hby.st w hw))) ?_
   rintro _ _ ⟨ps, bs, aA, kA, HA, aL, kL, HL, HX, rfl, hpl, hS, rfl⟩
   obtain ⟨br, rfl⟩ := NewRow.adr hS.rowA (by simp)
   have hBl := hS.len
   have hcl : (c.b0 a1 p1 a2 p2 :: bs).length = bs.length + 1 := rfl
   obtain ⟨y, hy, hyx, hyr⟩ := hS.get (c.b0x a1 p1 a2 p2) (k := bs.length) (Nat.le_refl _)
   have hin : c.In y.x := by rw [hyx]; exact hok.run_in fun j hj => hS.run j om0
   have hoky := hok.of hin
   have hyl := c.of_len y.x hn3
   have hyc := hok.of_co hin
   rw [hBl] at hyx
   refine WS_back ?_
   refine zm (.tuple _) hF ?_
   refine zD hF (y_extract (c := .slice _ _ _) rf rf) ?_
   refine zD hF (y_extract (c := .slice _ _ _) rf rf) ?_
   refine za (.slice _ _ _) hF ?_
   refine za (.slice _ _ _) hF ?_
   refine zP fun ds => ?_
   refine zm (.slice _ _ _) hF ?_
   refine zm (.slice _ _ _) hF ?_
   refine zD hF (y_len rf Tryz.runUnderlying34) ?_
   refine zD hF (y_sub rf rf ui) ?_
   refine zD hF (y_index (k := bs.length) rf rf r10 d10 Tryz.runUnderlying34 Tryz.sizeOf24) ?_
   refine zD hF (y_loadN rf Tryz.isAgg24 Tryz.sizeOf24 (hS.cell (Nat.le_refl _) hy sbA) rf) ?_
   refine WS_new hF rf (y_alloc Tryz.zeroValue24 rf) (fun be => ?_)
   refine WS_store hF (us := [.slice _ _ _, .slice _ _ _, .int .i64 _]) (i := 0) rf rf Tryz.sizeOf24 rf rf rf d20 ?_
   refine zP fun ds => ?_
   refine zD hF (y_fieldAddr rf fa24_0) ?_
   refine zD hF (y_load1 rf Tryz.isAgg22 (Mem.own1 1 rf rf)) ?_
   refine zD hF (y_len rf Tryz.runUnderlying22) ?_
   refine zD hF (y_add rf rf ui) ?_
   refine za (.int .i64 _) hF ?_
   refine zO ?_
   refine W_draw0 hF Tryzmixed [14] dk0 (fun ds => ?_)
   refine P_det rf (Over_nil (y_move (c := .int .u8 _) rf)) ?_
   refine P_det rf (Over_nil (y_conv_iu rf Tryz.runUnderlying5 Tryz.runUnderlying3 (by first | exact IntWalk.i64_in _ om0 | exact IntWalk.u64_in _ om0))) ?_
   refine P_det rf (Over_nil (y_move (c := .int .i64 _) rf)) ?_
   refine P_det rf (Over_nil (y_rem rf rf om0 om0)) ?_
   refine P_det rf (Over_nil (y_move (c := .int .u8 _) rf)) ?_
   refine P_det rf (Over_nil (y_conv_iu rf Tryz.runUnderlying5 Tryz.runUnderlying3 (by first | exact IntWalk.i64_in _ om0 | exact IntWalk.u64_in _ om0))) ?_
   refine P_det rf (Over_nil (y_move (c := .int .i64 _) rf)) ?_
   refine P_det rf (Over_nil (y_rem rf rf om0 om0)) ?_
   refine P_det rf (Over_nil (y_buildL bd47_0_1 rf)) ?_
   apply P_newS _ rf rf rf (Over_nil (y_alloc Tryz.zeroValue47 rf))
   refine P_st 14 0 rf rf rf rf rf (Over_nil (st_new (fun _ => by rfl) Tryz.sizeOf47 rf rf d20)) ?_
   refine PW_end rf ?_
   refine OverAll_cons (fun w14 l14 => ?_)
   refine OverAll_nil ?_
   rintro ⟨-, h14⟩
   obtain ⟨bp, rfl, rfl⟩ := h14
   refine Then_normal ?_
   refine W_J1 (γ := Nat × Nat) (fun q => q.1 ≤ c.n ∧ q.2 ≤ c.n) [(8, .bool _), (9, .bool _), (10, .slice _ _ _), (11, .slice _ _ _)] (fun _ => [(14, .pointer (some ⟨bp, 0, none⟩)), (12, .pointer (some ⟨be, 0, none⟩)), (4, .pointer (some ⟨b1, 0, none⟩))]) (fun q => (bp, CB [.int .i64 (q.1 : Int), .int .i64 (q.2 : Int)] 47) :: (be, CB [.slice y.s c.n y.ks, .slice y.i (c.of y.x).inn.length y.ki, .int .i64 y.x.a] 24) :: (b1, CB [.slice a1 c.n p1, .slice a2 c.inn.length p2, .int .i64 c.st] 24) :: (HX ++ (HA ++ HL))) slt ?_ ?_
   ·
    rintro ⟨f, t⟩ e ⟨hf, ht⟩
    refine zR fun ds => ?_
    refine zD hF (y_loadN rf Tryz.isAgg24 Tryz.sizeOf24 (Mem.own (us := [.slice _ _ _, .slice _ _ _, .int .i64 _]) 1 rf rf) rf) ?_
    refine zD hF (y_loadN rf Tryz.isAgg47 Tryz.sizeOf47 (Mem.own (us := [.int .i64 _, .int .i64 _]) 0 rf rf) rf) ?_
    refine WS_gen hF rf (y_callL rf rf Tryz.call22 (fun w hw => cbefore_any (c.of y.x) y.s y.ks y.i y.ki ⟨(f : Int), (t : Int)⟩ w (hG.st w hw) hn om0 (Bl.ints hyr h1 hB2 sbA w hw).1 (Bl.ints hyr h1 hB2 sbA w hw).2)) ?_
    rintro _ _ ⟨e0, bs2, ba2, bk2, Hr, HY, rfl, hbf, hrow, hrd, hsh, rfl⟩
    unfold Cn.Bef at hbf
    rw [if_pos (Cn.ok_iff.2 hoky)] at hbf
    refine WS_back ?_
    try simp only [List.append_eq]
    refine zm (.tuple _) hF ?_
    refine zD hF (y_extract (c := .slice _ _ _) rf rf) ?_
    refine zD hF (y_extract (c := .int .i64 _) rf rf) ?_
    refine za (.slice _ _ _) hF ?_
    refine za (.int .i64 _) hF ?_
    refine zO ?_
    refine zR fun ds => ?_
    refine zD hF (y_fieldAddr rf fa47_0) ?_
    refine zD hF (y_load1 rf Tryz.isAgg3 (Mem.own1 0 rf rf)) ?_
    refine zD hF (y_fieldAddr rf fa47_1) ?_
    refine zD hF (y_load1 rf Tryz.isAgg3 (Mem.own1 0 rf rf)) ?_
    refine zD hF (y_eql rf rf) ?_
    refine zN ?_
    refine W_cond rf (fun c12 => ?_) (fun c12 => ?_)
    ·
     try simp only [qz1, qz2, qz3, qz4, qz5, qz6, qz7, qz8] at c12
     have h81 : e0 = 81 := by
      rw [if_neg (by rw [Cn.vld_iff]; simp only; omega)] at hbf
      exact hbf.1
     refine zR fun ds => ?_
     refine zm (.bool _) hF ?_
     refine zm (.bool _) hF ?_
     refine zm (.int .i64 _) hF ?_
     refine zD hF (YD_yes (y_eql rf rf) dect) ?_
     refine zD hF (zpk (.bool _)) ?_
     refine za (.bool _) hF ?_
     refine zN ?_
     refine W_ret ?_
     refine Then_ret ?_
     refine Fin_ret [.bool _] [] Tryz.results5 ⟨by rfl, trivial⟩ HSub.nil ?_
     first
      | rfl
      | exact congrArg Value.bool hfd
    ·
     try simp only [qz1, qz2, qz3, qz4, qz5, qz6, qz7, qz8] at c12
     have hft : f ≠ t := by omega
     have hfp : (c.of y.x).Fp f t := ⟨hf, ht, hft⟩
     rw [if_pos (Cn.vld_iff.2 ⟨⟨by simp only; omega, by show (f : Int) ≤ ((c.n : Nat) : Int); omega⟩, ⟨by simp only; omega, by show (t : Int) ≤ ((c.n : Nat) : Int); omega⟩, by simp only; omega⟩)] at hbf
     obtain ⟨rfl, hBS⟩ := hbf
     rw [Int.toNat_natCast, Int.toNat_natCast] at hBS
     have hblen := hBS.len hoky hfp
     rw [List.length_map] at hblen
     obtain ⟨x0, hx0⟩ : ∃ x0, x0 = c.runK ps (ps.length - 1) := ⟨_, rfl⟩
     refine zU ?_
     refine W_seq ?_
     refine zR fun ds => ?_
     refine zm (.int .i64 _) hF ?_
     refine zD hF (YD_no (y_neq rf rf) dect) ?_
     refine zm (.bool _) hF ?_
     refine zm (.slice _ _ _) hF ?_
     refine zD hF (y_len rf Tryz.runUnderlying34) ?_
     refine zD hF (YD_no (y_gtr rf rf) dect) ?_
     refine zD hF (zpk (.bool _)) ?_
     refine zN ?_
     refine W_cond rf (fun c14 => ?_) (fun c14 => ?_)
     ·cases c14
     ·
      try simp only [qz1, qz2, qz3, qz4, qz5, qz6, qz7, qz8] at c14
      refine W_skip ?_
      refine zS fun ds => ?_
      refine za (.bool _) hF ?_
      refine zO ?_
      refine zR fun ds => ?_
      refine zm (.slice _ _ _) hF ?_
      refine zD hF (y_len rf Tryz.runUnderlying34) ?_
      refine zm (.int .i64 _) hF ?_
      refine zN ?_
      refine W_block ?_
      refine W_loop (γ := Nat) (fun i => i ≤ bs2.length) (fun i => [(4, .pointer (some ⟨b1, 0, none⟩)), (9, .bool true), (10, .slice (some ⟨br, 0, none⟩) (c.b0 a1 p1 a2 p2 :: bs).length kA), (11, .slice aL ps.length kL), (12, .pointer (some ⟨be, 0, none⟩)), (14, .pointer (some ⟨bp, 0, none⟩)), (16, .slice ba2 bs2.length bk2), (18, .bool (fdB x0 ps.length bs2 i)), (96, .slice ba2 bs2.length bk2), (97, .int .i64 (bs2.length : Int)), (98, .int .i64 (i : Int))]) (fun i => (bp, CB [.int .i64 (f : Int), .int .i64 (t : Int)] 47) :: (be, CB [.slice y.s c.n y.ks, .slice y.i (c.of y.x).inn.length y.ki, .int .i64 y.x.a] 24) :: (b1, CB [.slice a1 c.n p1, .slice a2 c.inn.length p2, .int .i64 c.st] 24) :: (HX ++ (HA ++ (HL ++ (HY ++ Hr))))) (fun i => bs2.length - i) (0) (Nat.zero_le _) ((by rw [show fdB x0 ps.length bs2 0 = false by unfold fdB; simp]; repeat (first | exact trivial | refine ⟨by rfl, ?_⟩))) (sbA) ?_
      rintro i e hi
      refine zR fun ds => ?_
      refine zD hF (y_lss rf rf) ?_
      refine zO ?_
      refine W_cond rf (fun c18 => ?_) (fun c18 => ?_)
      ·
       try simp only [qz1, qz2, qz3, qz4, qz5, qz6, qz7, qz8] at c18
       have hil : i < bs2.length := by omega
       obtain ⟨bz, rfl⟩ := NewRow.adr hrow om0
       have hmem : ∀ k, k < bs2.length → bs2.getD k Bl.z ∈ bs2 := fun k hk => by rw [List.getD_eq_getElem?_getD, List.getElem?_eq_getElem hk]; exact List.getElem_mem _
       have hbef : ∀ k, k < bs2.length → (c.of y.x).IsBef f t (bs2.getD k Bl.z).x := fun k hk => (hBS.mem _).1 (List.mem_map.2 ⟨_, hmem k hk, rfl⟩)
       obtain ⟨z, hz⟩ : ∃ z, z = bs2.getD i Bl.z := ⟨_, rfl⟩
       have hzr := hrd _ (hmem i hil)
       have hzb := hbef i hil
       rw [← hz] at hzr hzb
       have hzin : c.In z.x := ⟨hzb.inn.lo, hzb.inn.hi, hzb.inn.z⟩
       have hokz := hok.of hzin
       have hzl := c.of_len z.x hn3
       have hzc := hok.of_co hzin
       have hcan : c.canB z.x f t = true := hzb.can
       have hto : c.to z.x f t = y.x := by have := hzb.to; rw [hyc] at this; exact this
       refine zU ?_
       refine W_seq ?_
       refine W_block ?_
       refine zR fun ds => ?_
       refine zm (.int .i64 _) hF ?_
       refine zD hF (y_index (k := i) rf rf r10 d10 Tryz.runUnderlying34 Tryz.sizeOf24) ?_
       refine zD hF (y_loadN rf Tryz.isAgg24 Tryz.sizeOf24 (fun w hw => (show At w bz (0 + i * 3) [.slice z.s c.n z.ks, .slice z.i (c.of z.x).inn.length z.ki, .int .i64 z.x.a] by rw [hz]; exact (NewRow.rws (bl_len (c.of y.x)) hrow rfl sbA w hw).at (k := i) hil)) rf) ?_
       refine WS_new hF rf (y_alloc Tryz.zeroValue24 rf) (fun bZ => ?_)
       refine za (.int .i64 _) hF ?_
       refine WS_store hF (us := [.slice _ _ _, .slice _ _ _, .int .i64 _]) (i := 0) rf rf Tryz.sizeOf24 rf rf rf d20 ?_
       refine zO ?_
       refine zR fun ds => ?_
       refine zD hF (y_loadN rf Tryz.isAgg24 Tryz.sizeOf24 (Mem.own (us := [.slice _ _ _, .slice _ _ _, .int .i64 _]) 0 rf rf) rf) ?_
       refine zD hF (y_callL rf rf Tryz.call14 (fun w hw => Ct_eq (lrdy_any (c.of z.x) z.s z.ks z.i z.ki w (hzr.s _ _ w sbA hw) (hzr.i _ _ w sbA hw)) (show Value.bool (c.of z.x).okB = .bool true by rw [Cn.ok_iff.2 hokz]))) ?_
       refine zD hF (y_not rf) ?_
       refine zm (.bool _) hF ?_
       refine zD hF (y_fieldAddr rf fa24_0) ?_
       refine zD hF (y_load1 rf Tryz.isAgg22 (Mem.own1 0 rf rf)) ?_
       refine zD hF (y_fieldAddr rf fa24_0) ?_
       refine zD hF (y_load1 rf Tryz.isAgg22 (Mem.own1 3 rf rf)) ?_
       refine zD hF (y_callL rf rf Tryz.call23 (fun w hw => Ct_eq (sameInts2_any z.s a1 _ _ z.ks p1 c.sz c.sz w hn (hzr.s _ _ w sbA hw) (h1.st w hw)) (show Value.bool (decide (c.sz = c.sz)) = .bool true by simp))) ?_
       refine zD hF (y_not rf) ?_
       refine zD hF (zpk (.bool _)) ?_
       refine zN ?_
       refine W_cond rf (fun c20 => ?_) (fun c20 => ?_)
       ·cases c20
       ·
        try simp only [qz1, qz2, qz3, qz4, qz5, qz6, qz7, qz8] at c20
        refine W_skip ?_
        refine zS fun ds => ?_
        refine zD hF (y_loadN rf Tryz.isAgg24 Tryz.sizeOf24 (Mem.own (us := [.slice _ _ _, .slice _ _ _, .int .i64 _]) 0 rf rf) rf) ?_
        refine zD hF (y_loadN rf Tryz.isAgg47 Tryz.sizeOf47 (Mem.own (us := [.int .i64 _, .int .i64 _]) 1 rf rf) rf) ?_
        refine WS_gen hF rf (y_callL rf rf Tryz.call24 (fun w hw => lstep_any (c.of z.x) z.s z.ks z.i z.ki f t w hokz hn om0 (hzr.s _ _ w sbA hw) (hzr.i _ _ w sbA hw) hf ht hft)) ?_
        rintro _ _ ⟨d, n, _, rfl, ⟨z1, q1, z2, q2, H1, H2, rfl, hr1, hr2, rfl⟩, hd⟩
        rw [hzc] at hd
        obtain ⟨rfl, rfl⟩ := hd hcan
        have hcv : (c.of z.x).canB (c.of z.x).co f t = true := by rw [hzc]; exact hcan
        rw [hcv]
        have hxx : (c.of z.x).of ((c.of z.x).to z.x f t) = c.of y.x := by rw [← hto]; rfl
        rw [hxx] at hr1 hr2
        rw [hxx]
        refine WS_back ?_
        try simp only [List.append_eq]
        refine zm (.tuple _) hF ?_
        refine zD hF (y_extract (c := .agg _) rf rf) ?_
        refine zD hF (y_extract (c := .int .i64 _) rf rf) ?_
        refine zD hF (y_extract (c := .bool _) rf rf) ?_
        refine WS_new hF rf (y_alloc Tryz.zeroValue24 rf) (fun bN => ?_)
        refine WS_store hF (us := [.slice _ _ _, .slice _ _ _, .int .i64 _]) (i := 0) rf rf Tryz.sizeOf24 rf rf rf d20 ?_
        refine za (.int .i64 _) hF ?_
        refine za (.bool _) hF ?_
        refine zO ?_
        refine zR fun ds => ?_
        refine zm (.bool _) hF ?_
        refine zD hF (y_not rf) ?_
        refine zm (.bool _) hF ?_
        refine zD hF (y_loadN rf Tryz.isAgg24 Tryz.sizeOf24 (Mem.own (us := [.slice _ _ _, .slice _ _ _, .int .i64 _]) 0 rf rf) rf) ?_
        refine zD hF (y_loadN rf Tryz.isAgg24 Tryz.sizeOf24 (Mem.own (us := [.slice _ _ _, .slice _ _ _, .int .i64 _]) 3 rf rf) rf) ?_
        refine zD hF (y_callL rf rf Tryz.call25 (fun w hw => Ct_eq (rcsame_any (c.of y.x) z1 q1 z2 q2 (c.of y.x) y.s y.ks y.i y.ki w hn om0 (NewRow.ints hr1 rfl sbA w hw) (NewRow.ints hr2 rfl sbA w hw) (Bl.ints hyr h1 hB2 sbA w hw).1 (Bl.ints hyr h1 hB2 sbA w hw).2) (same_true rfl))) ?_
        refine zD hF (y_not rf) ?_
        refine zD hF (zpk (.bool _)) ?_
        refine zN ?_
        refine W_cond rf (fun c23 => ?_) (fun c23 => ?_)
        ·cases c23
        ·
         try simp only [qz1, qz2, qz3, qz4, qz5, qz6, qz7, qz8] at c23
         refine zU ?_
         refine W_seq ?_
         refine zR fun ds => ?_
         refine zm (.int .i64 _) hF ?_
         refine zm (.int .i64 _) hF ?_
         refine zN ?_
         refine W_block ?_
         refine W_loop (γ := Nat) (fun k => k ≤ i) (fun k => [(4, .pointer (some ⟨b1, 0, none⟩)), (9, .bool true), (10, .slice (some ⟨br, 0, none⟩) (c.b0 a1 p1 a2 p2 :: bs).length kA), (11, .slice aL ps.length kL), (12, .pointer (some ⟨be, 0, none⟩)), (14, .pointer (some ⟨bp, 0, none⟩)), (16, .slice (some ⟨bz, 0, none⟩) bs2.length bk2), (18, .bool (fdB x0 ps.length bs2 i)), (20, .pointer (some ⟨bZ, 0, none⟩)), (96, .slice (some ⟨bz, 0, none⟩) bs2.length bk2), (97, .int .i64 (bs2.length : Int)), (98, .int .i64 (i : Int)), (129, .int .i64 (i : Int)), (130, .int .i64 (k : Int))]) (fun k => (bZ, CB [.slice z.s c.n z.ks, .slice z.i (c.of z.x).inn.length z.ki, .int .i64 z.x.a] 24) :: (bp, CB [.int .i64 (f : Int), .int .i64 (t : Int)] 47) :: (be, CB [.slice y.s c.n y.ks, .slice y.i (c.of y.x).inn.length y.ki, .int .i64 y.x.a] 24) :: (b1, CB [.slice a1 c.n p1, .slice a2 c.inn.length p2, .int .i64 c.st] 24) :: (HX ++ (HA ++ (HL ++ (HY ++ Hr))))) (fun k => i - k) (0) (Nat.zero_le _) s10 (sbA) ?_
         rintro k e hk
         refine zR fun ds => ?_
         refine zD hF (y_lss rf rf) ?_
         refine zO ?_
         refine W_cond rf (fun c26 => ?_) (fun c26 => ?_)
         ·
          try simp only [qz1, qz2, qz3, qz4, qz5, qz6, qz7, qz8] at c26
          have hki : k < i := by omega
          obtain ⟨u, hu⟩ : ∃ u, u = bs2.getD k Bl.z := ⟨_, rfl⟩
          have hur := hrd _ (hmem k om0)
          have hub := hbef k om0
          rw [← hu] at hur hub
          have hul := c.of_len u.x hn3
          have hlt9 : u.x.lt z.x := by
           have := List.pairwise_iff_getElem.1 hBS.srt k i (by rw [List.length_map]; omega) (by rw [List.length_map]; omega) hki
           rw [List.getElem_map, List.getElem_map] at this
           rw [hu, hz, List.getD_eq_getElem?_getD, List.getD_eq_getElem?_getD, List.getElem?_eq_getElem om0, List.getElem?_eq_getElem hil]
           exact this
          have hdif : ¬ (c.of u.x).inn = (c.of z.x).inn := fun h => by
           have huin : c.In u.x := ⟨hub.inn.lo, hub.inn.hi, hub.inn.z⟩
           obtain ⟨e1, e2, e3⟩ := huin.eq_of_inn hok hzin h
           unfold Co.lt at hlt9
           omega
          refine zU ?_
          refine W_seq ?_
          refine W_block ?_
          refine zR fun ds => ?_
          refine zm (.int .i64 _) hF ?_
          refine za (.int .i64 _) hF ?_
          refine zO ?_
          refine W_draw0 hF Tryzmixed [] dk0 (fun ds => ?_)
          refine P_det rf (Over_nil (y_move (c := .slice _ _ _) rf)) ?_
          refine P_det rf (Over_nil (y_move (c := .int .i64 _) rf)) ?_
          refine P_det rf (Over_nil (y_index (k := k) rf rf r10 d10 Tryz.runUnderlying34 Tryz.sizeOf24)) ?_
          refine P_det rf (Over_nil (y_fieldAddr rf fa24_1)) ?_
          refine P_det rf (Over_nil (y_load1 rf Tryz.isAgg22 (fun w hw => (show At w bz (0 + k * 3 + 1) [.slice u.i (c.of u.x).inn.length u.ki] by rw [hu]; exact ⟨((NewRow.rws (bl_len (c.of y.x)) hrow rfl sbA w hw).at (k := k) om0).2.1, trivial⟩)))) ?_
          refine P_det rf (Over_nil (y_fieldAddr rf fa24_1)) ?_
          refine P_det rf (Over_nil (y_load1 rf Tryz.isAgg22 (Mem.own1 0 rf rf))) ?_
          refine P_det rf (Over_nil (y_callL rf rf Tryz.call23 (fun w hw => Ct_eq (sameInts2_any u.i z.i (c.of u.x).inn.length (c.of z.x).inn.length u.ki z.ki (c.of u.x).inn (c.of z.x).inn w om0 (hur.i _ _ w sbA hw) (hzr.i _ _ w sbA hw)) (show Value.bool (decide ((c.of u.x).inn = (c.of z.x).inn)) = .bool false by rw [decide_eq_false hdif])))) ?_
          refine PW_end rf ?_
          refine OverAll_nil ?_
          rintro -
          refine Then_normal ?_
          refine W_cond rf (fun c28 => ?_) (fun c28 => ?_)
          ·cases c28
          ·
           try simp only [qz1, qz2, qz3, qz4, qz5, qz6, qz7, qz8] at c28
           refine W_skip ?_
           refine InB_normal ?_
           refine zT fun ds => ?_
           refine zD hF (y_add rf rf ui) ?_
           refine zm (.int .i64 _) hF ?_
           refine WS_nil ?_
           exact Loop_next (k + 1) om0 s10 sbA om0
         ·
          try simp only [qz1, qz2, qz3, qz4, qz5, qz6, qz7, qz8] at c26
          refine W_exit ?_
          refine Then_exit ?_
          refine Loop_exit ?_
          refine InB_same ?_
          refine Then_normal ?_
          have hfs := fdB_succ (x0 := x0) (n := ps.length) hil
          rw [← hz] at hfs
          refine W_draw0 hF Tryzmixed [] dk0 (fun ds => ?_)
          refine P_det rf (Over_nil (y_move (c := .bool _) rf)) ?_
          refine P_det rf (Over_nil (y_move (c := .bool _) rf)) ?_
          refine P_split 143 rf (fun g31_1 => ?_) (fun g31_1 => ?_)
          ·
           try simp only [qz1, qz2, qz3, qz4, qz5, qz6, qz7, qz8] at g31_1
           have hd : fdB x0 ps.length bs2 (i + 1) = true := by rw [hfs, g31_1]; rfl
           refine P_no rf ?_
           refine P_no rf ?_
           refine P_no rf ?_
           refine P_no rf ?_
           refine P_no rf ?_
           refine P_no rf ?_
           refine P_no rf ?_
           refine P_no rf ?_
           refine P_no rf ?_
           refine P_no rf ?_
           refine P_no rf ?_
           refine P_no rf ?_
           refine P_no rf ?_
           refine P_det rf (Over_nil (by first | exact y_pick_t (c := .bool _) rf rf | exact y_pick_f (c := .bool _) rf rf)) ?_
           refine P_det rf (Over_nil (y_assign (c := .bool _) rf)) ?_
           refine PW_end rf ?_
           refine OverAll_nil ?_
           rintro -
           refine InB_normal ?_
           refine zT fun ds => ?_
           refine zD hF (y_add rf rf ui) ?_
           refine zm (.int .i64 _) hF ?_
           refine WS_nil ?_
           exact Loop_next (i + 1) om0 (by rw [hd]; repeat (first | exact trivial | refine ⟨by rfl, ?_⟩)) sbA om0
          ·
           try simp only [qz1, qz2, qz3, qz4, qz5, qz6, qz7, qz8] at g31_1
           refine P_det rf (Over_nil (y_move (c := .slice _ _ _) rf)) ?_
           refine P_det rf (Over_nil (y_len rf Tryz.runUnderlying35)) ?_
           refine P_det rf (Over_nil (y_gtr rf rf)) ?_
           refine P_det rf (Over_nil (y_move (c := .bool _) rf)) ?_
           refine P_split 147 rf (fun g31_5 => ?_) (fun g31_5 => ?_)
           ·
            try simp only [qz1, qz2, qz3, qz4, qz5, qz6, qz7, qz8] at g31_5
            obtain ⟨v, hv, hvx, hvr⟩ := hS.get (c.b0x a1 p1 a2 p2) (k := ps.length - 1) om0
            have hvin : c.In v.x := by rw [hvx]; exact hok.run_in fun j hj => hS.run j om0
            have hvl := c.of_len v.x hn3
            have hps : 0 < ps.length := by omega
            have hd : fdB x0 ps.length bs2 (i + 1) = decide (z.x = v.x) := by
             rw [hfs, g31_1, decide_eq_true hps, Bool.false_or, Bool.true_and, hvx, hx0]
            refine P_det rf (Over_nil (y_loadN rf Tryz.isAgg24 Tryz.sizeOf24 (Mem.own (us := [.slice _ _ _, .slice _ _ _, .int .i64 _]) 0 rf rf) rf)) ?_
            refine P_det rf (Over_nil (y_move (c := .slice _ _ _) rf)) ?_
            refine P_det rf (Over_nil (y_move (c := .slice _ _ _) rf)) ?_
            refine P_det rf (Over_nil (y_len rf Tryz.runUnderlying35)) ?_
            refine P_det rf (Over_nil (y_sub rf rf ui)) ?_
            refine P_det rf (Over_nil (y_index (k := ps.length - 1) rf rf r10 d10 Tryz.runUnderlying34 Tryz.sizeOf24)) ?_
            refine P_det rf (Over_nil (y_loadN rf Tryz.isAgg24 Tryz.sizeOf24 (hS.cell (k := ps.length - 1) om0 hv sbA) rf)) ?_
            refine P_det rf (Over_nil (y_callL rf rf Tryz.call25 (fun w hw => Ct_eq (rcsame_any (c.of z.x) z.s z.ks z.i z.ki (c.of v.x) v.s v.ks v.i v.ki w hn om0 (hzr.s _ _ w sbA hw) (hzr.i _ _ w sbA hw) (Bl.ints hvr h1 hB2 sbA w hw).1 (Bl.ints hvr h1 hB2 sbA w hw).2) (show Value.bool _ = Value.bool (decide (z.x = v.x)) by rw [same_of hok hzin hvin])))) ?_
            refine P_det rf (Over_nil (by first | exact y_pick_t (c := .bool _) rf rf | exact y_pick_f (c := .bool _) rf rf)) ?_
            refine P_det rf (Over_nil (by first | exact y_pick_t (c := .bool _) rf rf | exact y_pick_f (c := .bool _) rf rf)) ?_
            refine P_det rf (Over_nil (y_assign (c := .bool _) rf)) ?_
            refine PW_end rf ?_
            refine OverAll_nil ?_
            rintro -
            refine InB_normal ?_
            refine zT fun ds => ?_
            refine zD hF (y_add rf rf ui) ?_
            refine zm (.int .i64 _) hF ?_
            refine WS_nil ?_
            exact Loop_next (i + 1) om0 (by rw [hd]; repeat (first | exact trivial | refine ⟨by rfl, ?_⟩)) sbA om0
           ·
            try simp only [qz1, qz2, qz3, qz4, qz5, qz6, qz7, qz8] at g31_5
            have hd : fdB x0 ps.length bs2 (i + 1) = false := by
             rw [hfs, g31_1, decide_eq_false om0, Bool.false_or, Bool.false_and]
            refine P_no rf ?_
            refine P_no rf ?_
            refine P_no rf ?_
            refine P_no rf ?_
            refine P_no rf ?_
            refine P_no rf ?_
            refine P_no rf ?_
            refine P_no rf ?_
            refine P_det rf (Over_nil (by first | exact y_pick_t (c := .bool _) rf rf | exact y_pick_f (c := .bool _) rf rf)) ?_
            refine P_det rf (Over_nil (by first | exact y_pick_t (c := .bool _) rf rf | exact y_pick_f (c := .bool _) rf rf)) ?_
            refine P_det rf (Over_nil (y_assign (c := .bool _) rf)) ?_
            refine PW_end rf ?_
            refine OverAll_nil ?_
            rintro -
            refine InB_normal ?_
            refine zT fun ds => ?_
            refine zD hF (y_add rf rf ui) ?_
            refine zm (.int .i64 _) hF ?_
            refine WS_nil ?_
            exact Loop_next (i + 1) om0 (by rw [hd]; repeat (first | exact trivial | refine ⟨by rfl, ?_⟩)) sbA om0
      ·
       try simp only [qz1, qz2, qz3, qz4, qz5, qz6, qz7, qz8] at c18
       obtain rfl : i = bs2.length := by omega
       refine W_exit ?_
       refine Then_exit ?_
       refine Loop_exit ?_
       refine InB_same ?_
       refine Then_normal ?_
       refine W_seq ?_
       refine W_draw0 hF Tryzmixed [] dk0 (fun ds => ?_)
       refine P_det rf (Over_nil (y_move (c := .bool _) rf)) ?_
       refine P_det rf (Over_nil (y_move (c := .bool _) rf)) ?_
       refine P_det rf (Over_nil (y_move (c := .slice _ _ _) rf)) ?_
       refine P_det rf (Over_nil (y_len rf Tryz.runUnderlying35)) ?_
       refine P_det rf (Over_nil (y_eql rf rf)) ?_
       refine P_det rf (Over_nil (y_move (c := .bool _) rf)) ?_
       refine P_split 164 rf (fun g33_5 => ?_) (fun g33_5 => ?_)
       ·
        try simp only [qz1, qz2, qz3, qz4, qz5, qz6, qz7, qz8] at g33_5
        refine P_no rf ?_
        refine P_no rf ?_
        refine P_no rf ?_
        refine P_no rf ?_
        refine P_no rf ?_
        refine P_no rf ?_
        refine P_no rf ?_
        refine P_no rf ?_
        refine P_det rf (Over_nil (by first | exact y_pick_t (c := .bool _) rf rf | exact y_pick_f (c := .bool _) rf rf)) ?_
        refine P_det rf (Over_nil (y_move (c := .bool _) rf)) ?_
        refine P_no rf ?_
        refine P_det rf (Over_nil (by first | exact y_pick_t (c := .bool _) rf rf | exact y_pick_f (c := .bool _) rf rf)) ?_
        refine P_det rf (Over_nil (by first | exact y_pick_t (c := .bool _) rf rf | exact y_pick_f (c := .bool _) rf rf)) ?_
        refine P_det rf (Over_nil (y_assign (c := .bool _) rf)) ?_
        refine PW_end rf ?_
        refine OverAll_nil ?_
        rintro -
        refine Then_normal ?_
        refine W_ret ?_
        refine Fin_ret [.bool _] [] Tryz.results5 ⟨by rfl, trivial⟩ HSub.nil ?_
        first
         | rfl
         | exact congrArg Value.bool hfd
       ·
        try simp only [qz1, qz2, qz3, qz4, qz5, qz6, qz7, qz8] at g33_5
        have hps : 0 < ps.length := by
         rcases Nat.eq_zero_or_pos ps.length with h | h
         ·exact absurd (show (ps.length : Int) = 0 by omega) g33_5
         ·exact h
        obtain ⟨bl, rfl⟩ := NewRow.adr hS.rowL hps
        obtain ⟨⟨lf, lt⟩, hlp⟩ : ∃ p, p = ps.getD (ps.length - 1) Po.z := ⟨_, rfl⟩
        refine P_det rf (Over_nil (y_loadN rf Tryz.isAgg47 Tryz.sizeOf47 (Mem.own (us := [.int .i64 _, .int .i64 _]) 0 rf rf) rf)) ?_
        refine P_det rf (Over_nil (y_move (c := .slice _ _ _) rf)) ?_
        refine P_det rf (Over_nil (y_move (c := .slice _ _ _) rf)) ?_
        refine P_det rf (Over_nil (y_len rf Tryz.runUnderlying35)) ?_
        refine P_det rf (Over_nil (y_sub rf rf ui)) ?_
        refine P_det rf (Over_nil (y_index (k := ps.length - 1) rf rf r10 d10 Tryz.runUnderlying35 Tryz.sizeOf47)) ?_
        refine P_det rf (Over_nil (y_loadN rf Tryz.isAgg47 Tryz.sizeOf47 (fun w hw => (show At w bl (0 + (ps.length - 1) * 2) [.int .i64 lf, .int .i64 lt] by have h := hS.pcell (k := ps.length - 1) om0 sbA w hw; rw [← hlp] at h; exact h)) rf)) ?_
        refine P_det rf (Over_nil (y_neqlA rf rf neqA47)) ?_
        refine P_det rf (Over_nil (by first | exact y_pick_t (c := .bool _) rf rf | exact y_pick_f (c := .bool _) rf rf)) ?_
        refine P_det rf (Over_nil (y_move (c := .bool _) rf)) ?_
        refine P_split 174 rf (fun g33_15 => ?_) (fun g33_15 => ?_)
        ·
         try simp only [qz1, qz2, qz3, qz4, qz5, qz6, qz7, qz8] at g33_15
         refine P_no rf ?_
         refine P_det rf (Over_nil (by first | exact y_pick_t (c := .bool _) rf rf | exact y_pick_f (c := .bool _) rf rf)) ?_
         refine P_det rf (Over_nil (by first | exact y_pick_t (c := .bool _) rf rf | exact y_pick_f (c := .bool _) rf rf)) ?_
         refine P_det rf (Over_nil (y_assign (c := .bool _) rf)) ?_
         refine PW_end rf ?_
         refine OverAll_nil ?_
         rintro -
         refine Then_normal ?_
         refine W_ret ?_
         refine Fin_ret [.bool _] [] Tryz.results5 ⟨by rfl, trivial⟩ HSub.nil ?_
         first
          | rfl
          | exact congrArg Value.bool hfd
        ·
         try simp only [qz1, qz2, qz3, qz4, qz5, qz6, qz7, qz8] at g33_15
         have hfd : fdB x0 ps.length bs2 bs2.length = true := by
          have hfl : (f : Int) = lf ∧ (t : Int) = lt := by simpa [ieq] using g33_15
          have hpe := hS.run (ps.length - 1) om0
          rw [← hlp, ← hfl.1, ← hfl.2] at hpe
          obtain ⟨hv, hcan⟩ := Cn.pE_zero.1 hpe
          rw [Int.toNat_natCast, Int.toNat_natCast] at hcan
          have hxin : c.In x0 := by rw [hx0]; exact hok.run_in fun j hj => hS.run j om0
          have hstp : c.runK ps ps.length = c.to x0 f t := by
           have e : c.runK ps (ps.length - 1 + 1) = c.stp (c.runK ps (ps.length - 1)) (ps.getD (ps.length - 1) Po.z) := rfl
           rw [show ps.length - 1 + 1 = ps.length by omega, ← hlp, ← hfl.1, ← hfl.2, ← hx0] at e
           rw [e]; rfl
          have hib : (c.of y.x).IsBef f t x0 := ⟨⟨hxin.lo, hxin.hi, hxin.z⟩, by rw [hx0]; exact hcan, by rw [hyc, hyx, hstp]; rfl⟩
          obtain ⟨b9, hb9, hbx⟩ := List.mem_map.1 ((hBS.mem x0).2 hib)
          unfold fdB
          rw [decide_eq_true hps, Bool.true_and, List.take_length, List.any_eq_true]
          exact ⟨b9, hb9, decide_eq_true hbx⟩
         refine P_det rf (Over_nil (y_move (c := .bool _) rf)) ?_
         refine P_det rf (Over_nil (by first | exact y_pick_t (c := .bool _) rf rf | exact y_pick_f (c := .bool _) rf rf)) ?_
         refine P_det rf (Over_nil (by first | exact y_pick_t (c := .bool _) rf rf | exact y_pick_f (c := .bool _) rf rf)) ?_
         refine P_det rf (Over_nil (y_assign (c := .bool _) rf)) ?_
         refine PW_end rf ?_
         refine OverAll_nil ?_
         rintro -
         refine Then_normal ?_
         refine W_ret ?_
         refine Fin_ret [.bool _] [] Tryz.results5 ⟨by rfl, trivial⟩ HSub.nil ?_
         first
          | rfl
          | exact congrArg Value.bool hfd
   ·
    intro J11
    refine W_seq ?_
    refine W_seq ?_
    refine W_pull (b1, CB [.slice a1 c.n p1, .slice a2 c.inn.length p2, .int .i64 c.st] 24) zu ?_
    refine W_pull (be, CB [.slice y.s c.n y.ks, .slice y.i (c.of y.x).inn.length y.ki, .int .i64 y.x.a] 24) zu ?_
    refine W_pull (bp, CB [.int .i64 ((fr : Int) % ((c.n : Int) + 1)), .int .i64 ((to : Int) % ((c.n : Int) + 1))] 47) zu ?_
    try simp only [List.append_eq]
    refine W_sub (HSub.sub (Hn := (bp, _) :: (be, _) :: (b1, _) :: (HX ++ (HA ++ HL))) sbA) ?_
    refine W_region_lit (fun ds => ?_)
    refine zm (.slice _ _ _) hF ?_
    refine zD hF (y_len rf Tryz.runUnderlying35) ?_
    refine za (.int .i64 _) hF ?_
    refine zP fun ds => ?_
    refine zm (.int .i64 _) hF ?_
    refine zD hF (y_gtr rf rf) ?_
    refine zm (.bool _) hF ?_
    refine WS_split 63 rf (fun g9_2 => ?_) (fun g9_2 => ?_)
    ·
     try simp only [qz1, qz2, qz3, qz4, qz5, qz6, qz7, qz8] at g9_2
     refine zm (.int .u8 _) hF ?_
     refine zD hF (y_rem8 rf rf om0 om0) ?_
     refine zD hF (y_eql rf rf) ?_
     refine zD hF (zpk (.bool _)) ?_
     refine zN ?_
     refine W_cond rf (fun c9 => ?_) (fun c9 => ?_)
     ·
      try simp only [qz1, qz2, qz3, qz4, qz5, qz6, qz7, qz8] at c9
      have hps : 0 < ps.length := by
       rcases Nat.eq_zero_or_pos ps.length with h | h
       ·simp [h] at g9_2
       ·exact h
      obtain ⟨bl, rfl⟩ := NewRow.adr hS.rowL hps
      have hpe := hS.run (ps.length - 1) om0
      obtain ⟨hv, _⟩ := Cn.pE_zero.1 hpe
      obtain ⟨⟨lf', lt'⟩, hlp⟩ : ∃ p, p = ps.getD (ps.length - 1) Po.z := ⟨_, rfl⟩
      rw [← hlp] at hv
      obtain ⟨⟨hf0, hf1⟩, ⟨ht0, ht1⟩, hne⟩ := Cn.vld_iff.1 hv
      simp only at hf0 hf1 ht0 ht1 hne
      obtain ⟨lf, rfl⟩ := Int.eq_ofNat_of_zero_le hf0
      obtain ⟨lt, rfl⟩ := Int.eq_ofNat_of_zero_le ht0
      have hlf : lf ≤ c.n := by omega
      have hlt : lt ≤ c.n := by omega
      refine W_region_lit (fun ds => ?_)
      refine zm (.slice _ _ _) hF ?_
      refine zm (.int .i64 _) hF ?_
      refine zD hF (y_sub rf rf ui) ?_
      refine zD hF (y_index (k := ps.length - 1) rf rf r10 d10 Tryz.runUnderlying35 Tryz.sizeOf47) ?_
      refine zD hF (y_loadN rf Tryz.isAgg47 Tryz.sizeOf47 (fun w hw => (show At w bl (0 + (ps.length - 1) * 2) [.int .i64 (lf : Int), .int .i64 (lt : Int)] by have h := hS.pcell (k := ps.length - 1) om0 sbA w hw; rw [← hlp] at h; exact h)) rf) ?_
      refine WS_store hF (us := [.int .i64 _, .int .i64 _]) (i := 0) rf rf Tryz.sizeOf47 rf rf rf d20 ?_
      refine zN ?_
      exact J11 (lf, lt) _ _  ⟨hlf, hlt⟩ slt slt (HSub.sub sbA)
     ·
      try simp only [qz1, qz2, qz3, qz4, qz5, qz6, qz7, qz8] at c9
      refine zU ?_
      exact J11 (fr % (c.n + 1), to % (c.n + 1)) _ _  ⟨by simp only; have := Nat.mod_lt fr (show c.n + 1 > 0 by omega); omega, by simp only; have := Nat.mod_lt to (show c.n + 1 > 0 by omega); omega⟩ slt slt (HSub.sub sbA)
    ·
     try simp only [qz1, qz2, qz3, qz4, qz5, qz6, qz7, qz8] at g9_2
     refine zno hF ?_
     refine zno hF ?_
     refine zno hF ?_
     refine zD hF (zpk (.bool _)) ?_
     refine zN ?_
     refine W_cond rf (fun c9 => ?_) (fun c9 => ?_)
     ·cases c9
     ·
      try simp only [qz1, qz2, qz3, qz4, qz5, qz6, qz7, qz8] at c9
      refine zU ?_
      exact J11 (fr % (c.n + 1), to % (c.n + 1)) _ _  ⟨by simp only; have := Nat.mod_lt fr (show c.n + 1 > 0 by omega); omega, by simp only; have := Nat.mod_lt to (show c.n + 1 > 0 by omega); omega⟩ slt slt (HSub.sub sbA)
theorem canBack_z (c : Cn) (a1 : Option Addr) (p1 : Nat) (a2 : Option Addr) (p2 : Nat) (ba : Option Addr) (bn bcap : Nat) (by_ : List Int) (n m : Int) (w : World) (hG : Gv w) (h1 : Ints w a1 c.n p1 c.sz) (h2 : Ints w a2 c.inn.length p2 c.inn) (hby : U4s w ba bn bcap by_) (hn : 0 ≤ n) (hm : n ≤ 255) (hn' : 0 ≤ m) (hm' : m ≤ 255) : Ct Tryz.prog 5 #[.agg #[.slice a1 c.n p1, .slice a2 c.inn.length p2, .int .i64 c.st], .slice ba bn bcap, .int .u8 n, .int .u8 m] w fun v _ => v = .bool true := by
 obtain ⟨x, rfl⟩ := Int.eq_ofNat_of_zero_le hn
 obtain ⟨y, rfl⟩ := Int.eq_ofNat_of_zero_le hn'
 exact canBack_any c a1 p1 a2 p2 ba bn bcap by_ x y w hG om0 om0 h1 h2 hby
end Go.Proofs.YtjekjehgmljbgaaGreatDoor.T
namespace Go.Proofs.YtjekjehgmljbgaaGreatDoor.T
open Go.RowKit Go.Proofs Go.Eng Go.ChangeShapes Go.WideShapes Go.ChangeAt Go.Joins Go.Deep
set_option maxRecDepth 100000
set_option maxHeartbeats 1000000
section
variable {H : Type} {enc : TypeId × Value → H} {w : World} {base : Nat} {spare : Nat → Bool} {held : Bool}
theorem open_intsT {fuel : Nat} {v : Value} {y : DataW H × List MemPlace} (h : DataW.trod enc Tryz.prog w base spare held fuel 22 [v] = some y) (hs : ∀ b, spare b = true) : ∃ a n cap xs, v = .slice a n cap ∧ Ints w a n cap xs := by
 rcases open_ints Tryz.underlying22 Tryz.underlying3 (by kernel_rfl) h with ⟨hcs, _⟩ | ⟨x, l, c, zs, hcs, _, hl, hm, hz, _, hcell, hwz⟩
 ·simp only [List.cons.injEq, and_true] at hcs
  subst hcs
  exact ⟨_, _, _, [], rfl, Ints.nil _ _ _⟩
 ·simp only [List.cons.injEq, and_true] at hcs
  subst hcs
  rw [hs, if_pos rfl] at hz
  refine ⟨_, _, _, zs.take l, rfl, by simp; omega, hl, fun k hk => ?_⟩
  have hc := hcell k om0
  obtain ⟨b, off, spot⟩ := x
  have hspot : spot = none := by
   have := World.cell?_spot (hcell 0 om0)
   simpa [Addr.add] using this
  subst hspot
  have ha : (⟨b, off, none⟩ : Addr).add k = ⟨b, off + k * 1, none⟩ := by unfold Addr.add; split <;> simp_all
  rw [ha] at hc
  refine ⟨b, off, rfl, ?_, trivial⟩
  rw [hc]
  simp [List.getD_eq_getElem?_getD, hk]
theorem open_u8 {P : Program} {r : Reach} {b0 : Nat} {t : TypeId} {v : Value} {d : DataW H} {ps : List MemPlace} (ht : P.underlying t = some (.int .u8)) (hval : Value.okWide P w r b0 t v) (hd : DataW.Trod enc P w base spare held t v d ps) :
  ∃ n : Int, v = .int .u8 n ∧ 0 ≤ n ∧ n ≤ 255 := by
 obtain ⟨n, rfl, _, _, hw⟩ := open_int ht hval hd
 have hw' : (decide ((0 : Int) ≤ n) && decide (n ≤ 255)) = true := hw
 simp only [Bool.and_eq_true, decide_eq_true_eq] at hw'
 exact ⟨n, rfl, hw'⟩
end
theorem own : ownKnob Tryz.prog.godebug = none := by kernel_rfl
theorem laidOut : laidOutB Tryz.prog = true := by kernel_rfl
set_option maxRecDepth 100000
set_option maxHeartbeats 1000000
section
variable {H : Type} {enc : TypeId × Value → H} {w : World} {base : Nat} {spare : Nat → Bool} {held : Bool}
theorem open_cans {r : Reach} {b0 : Nat} {v : Value} {d : DataW H} {p : List MemPlace} (hv : Value.okWide Tryz.prog w r b0 24 v) (h : DataW.Trod enc Tryz.prog w base spare held 24 v d p) (hs : ∀ b, spare b = true) :
  ∃ (c : Cn) (a1 : Option Addr) (p1 : Nat) (a2 : Option Addr) (p2 : Nat), v = .agg #[.slice a1 c.n p1, .slice a2 c.inn.length p2, .int .i64 c.st] ∧ Ints w a1 c.n p1 c.sz ∧ Ints w a2 c.inn.length p2 c.inn := by
 obtain ⟨v0, v1, v2, y0, y1, y2, n, rfl, _, _, h0, h1, h2⟩ := open_agg3 Tryz.underlying24 (by kernel_rfl) (by kernel_rfl) hv h
 obtain ⟨a1, m1, p1, xs, rfl, hx⟩ := open_intsT h0 hs
 obtain ⟨a2, m2, p2, ys, rfl, hy⟩ := open_intsT h1 hs
 obtain ⟨l, hl, _, _⟩ := DataW.trod_int Tryz.underlying3 h2
 simp only [List.cons.injEq, and_true] at hl
 subst hl
 have := hx.len
 subst this
 have := hy.len
 subst this
 exact ⟨⟨xs, ys, l⟩, a1, p1, a2, p2, rfl, hx, hy⟩
end
def laidC : List (String × DataW Unit) := [("oilcake/can.checks", Rows.laid_oilcake_can_checks)]
theorem gChecks : Tryz.prog.globalNamed "oilcake/can.checks" = some 0 := by kernel_rfl
theorem tChecks : (Tryz.prog.globals[0]?).map (·.type) = some 159 := by kernel_rfl
theorem door_met (os : Os) (args : Array Value) : laidMetH Tryz.prog laidC ((World.doorLaid Tryz.prog 400 os).forCall (fun _ _ => 0) ⟨#[], args, []⟩).memory :=
 laidMetH_of_parts3 (fuel := 8) (laidMet_of_run' 8 (by kernel_rfl) (by kernel_rfl)) (by kernel_rfl) (by kernel_rfl)
theorem cellsChk : Tryz.prog.cellsOf 158 = 1 := by kernel_rfl
theorem cellsChk3 : Tryz.prog.cellsOf 159 = 3 := by kernel_rfl
theorem cellsFn : Tryz.prog.cellsOf 27 = 1 := by kernel_rfl
theorem chk_fn {W : World} {sp : Nat → Bool} {fuel : Nat} {v : Value} {x : DataW (List UInt8) × List MemPlace} {b : UInt8} {r : List UInt8} {f0 : FuncId}
  (hone : ((List.range Tryz.prog.funcs.size).filter fun f => (Tryz.prog.funcs[f]?).any (·.name.toUTF8.data.toList == b :: r)) = [f0])
  (h : DataW.trod (funcToken Tryz.prog) Tryz.prog W 0 sp true fuel 158 [v] = some x) (hx : x.1 = .agg [.held (b :: r)]) : v = .func (.func f0) #[] #[] := by
 obtain ⟨y0, n, rfl, _, h0⟩ := trod_struct1 Tryz.underlying158 h
 obtain ⟨y, q⟩ := y0
 simp only [DataW.agg.injEq, List.cons.injEq, and_true] at hx
 subst hx
 simp only [cellsFn, List.drop_zero, List.take_succ_cons, List.take_zero] at h0
 exact func_of_trod Tryz.underlying27 hone h0
theorem of_laid {W : World} (h : laidMetH Tryz.prog laidC W) : Gv W := by
 obtain ⟨g, t, cs, fuel, p, hg, ht, hv, hd⟩ := h.funcs (List.mem_singleton.2 rfl)
 obtain rfl := Option.some.inj (gChecks.symm.trans hg)
 obtain rfl := Option.some.inj (tChecks.symm.trans ht)
 have hd' : DataW.trod (funcToken Tryz.prog) Tryz.prog W 0 (fun _ => true) true fuel 159 cs.toList = some (.agg [.agg [.held [111, 105, 108, 99, 97, 107, 101, 47, 99, 97, 110, 46, 99, 104, 101, 99, 107, 115, 36, 49]], .agg [.held [111, 105, 108, 99, 97, 107, 101, 47, 99, 97, 110, 46, 99, 104, 101, 99, 107, 115, 36, 50]], .agg [.held [111, 105, 108, 99, 97, 107, 101, 47, 99, 97, 110, 46, 99, 104, 101, 99, 107, 115, 36, 51]]], p) := hd
 obtain ⟨xs, m1, rfl, hx1, hlen, hn3, hel⟩ := DataW.trod_array Tryz.underlying159 hd'
 simp only [Prod.mk.injEq, DataW.agg.injEq] at hx1
 rw [cellsChk3] at hlen
 have hc := fun i => World.var?_cell hg hv i
 obtain ⟨cl⟩ := cs
 match xs, hn3, hx1, cl, hlen, hel, hc with
 | [x0, x1, x2], _, hx1, [c0, c1, c2], _, hel, hc =>
  simp only [List.map_cons, List.map_nil, List.cons.injEq, and_true] at hx1
  have e0 := hel 0 dc
  have e1 := hel 1 dc
  have e2 := hel 2 dc
  simp only [cellsChk, Nat.zero_mul, Nat.one_mul, Nat.mul_one, List.drop_zero, List.drop_succ_cons, List.take_succ_cons, List.take_zero, List.getElem?_cons_zero, List.getElem?_cons_succ] at e0 e1 e2
  obtain rfl := chk_fn (f0 := 190) (by kernel_rfl) e0 hx1.1.1.symm
  obtain rfl := chk_fn (f0 := 191) (by kernel_rfl) e1 hx1.1.2.1.symm
  obtain rfl := chk_fn (f0 := 192) (by kernel_rfl) e2 hx1.1.2.2.symm
  exact ⟨hc 0, hc 1, hc 2, trivial⟩
set_option maxRecDepth 100000
set_option maxHeartbeats 1000000
section
variable {H : Type} {enc : TypeId × Value → H} {w : World} {base : Nat} {spare : Nat → Bool} {held : Bool}
theorem open_u32s {r : Reach} {b0 : Nat} {v : Value} {d : DataW H} {p : List MemPlace} (hv : Value.okWide Tryz.prog w r b0 25 v) (hd : DataW.Trod enc Tryz.prog w base spare held 25 v d p) (hs : ∀ b, spare b = true) : ∃ (a : Option Addr) (n cap : Nat) (xs : List Int), v = .slice a n cap ∧ U4s w a n cap xs := by
 obtain ⟨a, n, cap, rfl⟩ := okWide_slice Tryz.underlying25 hv
 obtain ⟨fuel, h⟩ := hd
 rcases open_ints Tryz.underlying25 Tryz.underlying169 (by kernel_rfl) h with ⟨hcs, _⟩ | ⟨x, l, c, zs, hcs, _, hl, hm, hz, _, hcell, hwz⟩
 ·simp only [Value.cells, List.cons.injEq, and_true] at hcs
  cases hcs
  exact ⟨_, _, _, [], rfl, ⟨Rws.nil _ _ _, fun k hk => absurd hk (Nat.not_lt_zero _), Nat.zero_le _⟩⟩
 ·simp only [Value.cells, List.cons.injEq, and_true] at hcs
  cases hcs
  rw [hs, if_pos rfl] at hz
  have hget : ∀ k, k < n → (zs.take n).getD k 0 = zs.getD k 0 := fun k hk => by simp [List.getD_eq_getElem?_getD, hk]
  refine ⟨_, _, _, zs.take n, rfl, ⟨⟨by simp; omega, hl, fun k hk => ?_⟩, fun k hk => ?_, ?_⟩⟩
  ·have hc := hcell k om0
   obtain ⟨b, off, spot⟩ := x
   have hspot : spot = none := by
    have := World.cell?_spot (hcell 0 om0)
    simpa [Addr.add] using this
   subst hspot
   have ha : (⟨b, off, none⟩ : Addr).add k = ⟨b, off + k * 1, none⟩ := by unfold Addr.add; split <;> simp_all
   rw [ha] at hc
   refine ⟨b, off, rfl, ?_, trivial⟩
   rw [hc, hget k hk]
  ·rw [hget k hk]
   have hw := hwz (zs.getD k 0) (by rw [List.getD_eq_getElem?_getD, List.getElem?_eq_getElem om0]; exact List.getElem_mem _)
   have hw' : (decide ((0 : Int) ≤ zs.getD k 0) && decide (zs.getD k 0 ≤ 4294967295)) = true := hw
   simpa only [Bool.and_eq_true, decide_eq_true_eq] using hw'
  ·have : cap ≤ 9223372036854775807 := hm
   omega
end
end Go.Proofs.YtjekjehgmljbgaaGreatDoor.T
namespace Go.Proofs.YtjekjehgmljbgaaGreatDoor.T
open Go.RowKit Go.Proofs Go.Eng Go.ChangeShapes Go.WideShapes Go.ChangeAt Go.Joins
set_option maxRecDepth 100000
set_option maxHeartbeats 1000000
section
variable {H : Type} {enc : TypeId × Value → H} {w : World} {base : Nat} {spare : Nat → Bool} {held : Bool}
end
end Go.Proofs.YtjekjehgmljbgaaGreatDoor.T
namespace Go.Proofs.YtjekjehgmljbgaaGreatDoor.T
open Go.RowKit Go.Proofs Go.Eng Go.ChangeShapes Go.WideShapes Go.ChangeAt Go.Joins Go.Deep
set_option maxRecDepth 100000
set_option maxHeartbeats 1000000
section
variable {H : Type} {enc : TypeId × Value → H} {w : World} {base : Nat} {spare : Nat → Bool} {held : Bool}
end
end Go.Proofs.YtjekjehgmljbgaaGreatDoor.T
namespace Go.Proofs.YtjekjehgmljbgaaGreatDoor
open Go.RowKit Go.Proofs Go.Eng Go.ChangeShapes Go.WideShapes Go.ChangeAt Go.Joins T
set_option maxRecDepth 100000
set_option maxHeartbeats 1000000
theorem walkCanBack (v0 v1 v2 v3 : Value) (W : World) (hG : Gv W) (h0 : ∃ (c0 : Cn) (a0 : Option Addr) (p0 : Nat) (b0 : Option Addr) (q0 : Nat), v0 = .agg #[.slice a0 c0.n p0, .slice b0 c0.inn.length q0, .int .i64 c0.st] ∧ Ints W a0 c0.n p0 c0.sz ∧ Ints W b0 c0.inn.length q0 c0.inn) (h1 : ∃ (ta1 : Option Addr) (tn1 tcap1 : Nat) (D1 : List Int), v1 = .slice ta1 tn1 tcap1 ∧ U4s W ta1 tn1 tcap1 D1) (h2 : ∃ n2 : Int, v2 = .int .u8 n2 ∧ 0 ≤ n2 ∧ n2 ≤ 255) (h3 : ∃ n3 : Int, v3 = .int .u8 n3 ∧ 0 ≤ n3 ∧ n3 ≤ 255) :
  Calls Tryz.prog 5 #[v0, v1, v2, v3] W fun e W' => e = .returned (.bool true) ∧ Below W.heap.size W W' := by
 obtain ⟨c0, a0, p0, b0, q0, rfl, hx0, hy0⟩ := h0
 obtain ⟨ta1, tn1, tcap1, D1, rfl, hD1⟩ := h1
 obtain ⟨n2, rfl, hn2, hm2⟩ := h2
 obtain ⟨n3, rfl, hn3, hm3⟩ := h3
 refine Calls.mono (canBack_z c0 a0 p0 b0 q0 ta1 tn1 tcap1 D1 n2 n3 W hG hx0 hy0 hD1 hn2 hm2 hn3 hm3) ?_
 rintro e W' ⟨v, rfl, Hn, hb, _, rfl⟩
 exact ⟨rfl, hb⟩
theorem liftCanBack (os : Os) (started : os.Started) (H : Type) (enc : TypeId × Value → H) :
  ReturnsInHanded {} Tryz.checked os 5 .any (fun w args => (Rows.canBackSpec.pre enc Tryz.prog Tryz.f5 [] false w args ∧ laidMetH Tryz.prog laidC w) ∧ sizedMet enc Tryz.prog Tryz.f5 (OpenSpec.ofChange Rows.canBackSpec) false w args) (Rows.canBackSpec.post enc Tryz.prog Tryz.f5 false true false false) := by
 refine returnsInHanded_of_change_and (C := Tryz.checked) (X := fun w _ => laidMetH Tryz.prog laidC w) (fun _ _ _ hh h => h.of_heap hh) own started (by kernel_rfl) Tryz.func5
  (ChangeSpec.witness_shaped (enc := enc) (C := Tryz.checked) (os := os) (X := fun w _ => laidMetH Tryz.prog laidC w) false (World.doorLaid Tryz.prog 400 os) #[.agg #[.slice none 0 0, .slice none 0 0, .int .i64 0], .slice none 0 0, .int .u8 0, .int .u8 0] 8 rfl (World.shaped_of_RefB (by kernel_rfl) (by kernel_rfl)) (by kernel_rfl) (by kernel_rfl) (by kernel_rfl) (door_met os _)) ?_
 intro W base args ds gs before hval0 hW _ _ hL _
 have hval : ∀ (j : Nat) t v, Tryz.f5.params[j]? = some t → args[j]? = some v → Value.okWide Tryz.prog W .any base t v := hval0
 have hW' := hW
 obtain ⟨p, q, hA0, hV, rfl, hfz, hnd⟩ := hW
 have hA : DataW.TrodAll enc Tryz.prog W 0 (fun _ => true) true Tryz.f5.params.toList args.toList ds p := hA0
 rw [Tryz.params5] at hA hval
 obtain ⟨v0, vs0, d0, ds0, p0, q0, hargs, rfl, rfl, h0, r0⟩ := trodAll_cons hA
 obtain ⟨v1, vs1, d1, ds1, p1, q1, rfl, rfl, rfl, h1, r1⟩ := trodAll_cons r0
 obtain ⟨v2, vs2, d2, ds2, p2, q2, rfl, rfl, rfl, h2, r2⟩ := trodAll_cons r1
 obtain ⟨v3, vs3, d3, ds3, p3, q3, rfl, rfl, rfl, h3, r3⟩ := trodAll_cons r2
 obtain ⟨rfl, rfl, rfl⟩ := trodAll_nil r3
 obtain rfl : args = #[v0, v1, v2, v3] := by cases args; simp_all
 obtain ⟨rfl, rfl⟩ := trodVars_none hV
 have lt0 : ∀ x ∈ p0, x.block < W.heap.size := by obtain ⟨m, hm⟩ := h0; exact DataW.trod_lt m _ _ _ hm
 have lt1 : ∀ x ∈ p1, x.block < W.heap.size := by obtain ⟨m, hm⟩ := h1; exact DataW.trod_lt m _ _ _ hm
 have lt2 : ∀ x ∈ p2, x.block < W.heap.size := by obtain ⟨m, hm⟩ := h2; exact DataW.trod_lt m _ _ _ hm
 have lt3 : ∀ x ∈ p3, x.block < W.heap.size := by obtain ⟨m, hm⟩ := h3; exact DataW.trod_lt m _ _ _ hm
 have o0 : ∃ (c0 : Cn) (a0 : Option Addr) (p0 : Nat) (b0 : Option Addr) (q0 : Nat), v0 = .agg #[.slice a0 c0.n p0, .slice b0 c0.inn.length q0, .int .i64 c0.st] ∧ Ints W a0 c0.n p0 c0.sz ∧ Ints W b0 c0.inn.length q0 c0.inn := open_cans (hval 0 _ v0 rfl rfl) h0 (fun _ => rfl)
 have o1 : ∃ (ta1 : Option Addr) (tn1 tcap1 : Nat) (D1 : List Int), v1 = .slice ta1 tn1 tcap1 ∧ U4s W ta1 tn1 tcap1 D1 := open_u32s (hval 1 _ v1 rfl rfl) h1 (fun _ => rfl)
 have o2 : ∃ n2 : Int, v2 = .int .u8 n2 ∧ 0 ≤ n2 ∧ n2 ≤ 255 := open_u8 Tryz.underlying5 (hval 2 _ v2 rfl rfl) h2
 have o3 : ∃ n3 : Int, v3 = .int .u8 n3 ∧ 0 ≤ n3 ∧ n3 ≤ 255 := open_u8 Tryz.underlying5 (hval 3 _ v3 rfl rfl) h3
 clear hA0 hval0
 refine (walkCanBack v0 v1 v2 v3 W (of_laid hL) o0 o1 o2 o3).mono fun e W' ⟨he, bel⟩ => ?_
 subst he
 exact ⟨_, rfl, _, _, _, [], _, [], hW', trodAll_mk1 (shut_bool Tryz.underlying4 _),
  (trodAll_cons_mk (Below.trod laidOut (by kernel_rfl) (of_decide_eq_true (by kernel_rfl)) h0 bel lt0) (trodAll_cons_mk (Below.trod laidOut (by kernel_rfl) (of_decide_eq_true (by kernel_rfl)) h1 bel lt1) (trodAll_cons_mk (Below.trod laidOut (by kernel_rfl) (of_decide_eq_true (by kernel_rfl)) h2 bel lt2) (trodAll_cons_mk (Below.trod laidOut (by kernel_rfl) (of_decide_eq_true (by kernel_rfl)) h3 bel lt3) trodAll_mk0)))), rfl, bel.frame _, fun h => by cases h⟩
theorem canBackH : Rows.CanBackSaid :=
 OpenClaim.holds_of_wide 5 Tryz.f5 rfl rfl rfl rfl rfl rfl rfl ⟨rfl, rfl, rfl, rfl, rfl⟩ rfl rfl rfl rfl rfl (by kernel_rfl) Tryz.func5 (by kernel_rfl)
  (of_decide_eq_true (by kernel_rfl)) (by unfold Func.isWrapper; first | (rw [if_pos dk0]; kernel_rfl) | (rw [if_neg dk0]; exact ⟨rfl, rfl⟩))
  (fun os started H enc _ => liftCanBack os started H enc)
theorem canBack : Rows.CanBackCardSaid :=
 Claim7.holds_tied_plain_at .later [] [.funcs] true (true, "114ba46d525c684db3e97d3e5daf22351e8b02d0b87f957e3b74fac149e509e6") false
  canBackH (fun _ h => by cases h) (by kernel_rfl) (fun _ h => by cases h) canBack_row_tie rfl ⟨rfl, rfl⟩ (by kernel_rfl) rfl
  (fun f fn hf hfn => by
   obtain rfl : f = 5 := Option.some.inj ((show Tryz.prog.funcNamed "oilcake/oilcakelaw08.CanBack" = some 5 by kernel_rfl).symm.trans hf) |>.symm
   obtain rfl : fn = Tryz.f5 := (Option.some.inj (Tryz.func5.symm.trans hfn)).symm
   exact ⟨by kernel_rfl, fun j t ht => by
    rw [Tryz.params5] at ht
    have hm : t ∈ [24, 25, 5, 5] := by simpa using Array.mem_of_getElem? ht
    have hall : ([24, 25, 5, 5].all fun u => !Tryz.prog.wantsStandIn u) = true := by kernel_rfl
    exact (show Tryz.prog.wantsStandIn t = false by simpa using List.all_eq_true.1 hall t hm)⟩)
  (by kernel_rfl)
end Go.Proofs.YtjekjehgmljbgaaGreatDoor
