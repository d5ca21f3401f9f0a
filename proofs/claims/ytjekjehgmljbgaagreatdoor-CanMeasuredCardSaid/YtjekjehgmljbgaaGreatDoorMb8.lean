/- Proved: for every input, with no condition, the law CanMeasured returns true and the input reads as it did (Rows.CanMeasuredSaid). -/
import Derived.Test.YtjekjehgmljbgaaGreatDoorMb7
import Derived.Test.YtjekjehgmljbgaaGreatDoorMb5
import Derived.Test.YtjekjehgmljbgaaGreatDoorRows
import Derived.WalkKit
import Derived.ProofKit
import Derived.OpenShut
import Derived.Lib.SmallJoins
import Derived.ChangeOld
import Derived.Below
import Derived.Test.YtjekjehgmljbgaaGreatDoorMb2
import Derived.Test.YtjekjehgmljbgaaGreatDoorMb4
import Derived.Test.YtjekjehgmljbgaaGreatDoorTie
import Derived.Test.YtjekjehgmljbgaaGreatDoorCards
import Derived.LaidMore
import Derived.Stop.Joined
import Derived.SevenTiedAt
set_option linter.unusedVariables false
set_option linter.unusedSimpArgs false
namespace Go.Proofs.YtjekjehgmljbgaaGreatDoor.T
open Go.RowKit Go.Proofs Go.Eng
set_option maxRecDepth 100000
set_option maxHeartbeats 4000000
theorem a_ep59_0 {x_0 : Int} {x_1 : Int} : ∀ w, (part 3 #[.int .i64 x_0, .int .i64 x_1] 0).run Tryz.prog w = .ok (.int .i64 x_0) w := fun w => by kernel_rfl
theorem a_ep59_1 {x_0 : Int} {x_1 : Int} : ∀ w, (part 3 #[.int .i64 x_0, .int .i64 x_1] 1).run Tryz.prog w = .ok (.int .i64 x_1) w := fun w => by kernel_rfl
theorem a_ep90_0 {x_0 : Int} {x_1 : Int} {x_2 : Int} {x_3 : Int} : ∀ w, (part 3 #[.int .i64 x_0, .int .i64 x_1, .int .i64 x_2, .int .i64 x_3] 0).run Tryz.prog w = .ok (.int .i64 x_0) w := fun w => by kernel_rfl
theorem a_ep90_1 {x_0 : Int} {x_1 : Int} {x_2 : Int} {x_3 : Int} : ∀ w, (part 3 #[.int .i64 x_0, .int .i64 x_1, .int .i64 x_2, .int .i64 x_3] 1).run Tryz.prog w = .ok (.int .i64 x_1) w := fun w => by kernel_rfl
theorem a_ep90_2 {x_0 : Int} {x_1 : Int} {x_2 : Int} {x_3 : Int} : ∀ w, (part 59 #[.int .i64 x_0, .int .i64 x_1, .int .i64 x_2, .int .i64 x_3] 2).run Tryz.prog w = .ok (.agg #[.int .i64 x_2, .int .i64 x_3]) w := fun w => by kernel_rfl
theorem a_gneqA90 {x y : Operand} {x_0 : Int} {x_1 : Int} {x_2 : Int} {x_3 : Int} {y_0 : Int} {y_1 : Int} {y_2 : Int} {y_3 : Int} : ∀ w, (eqGuard .neq 90 x y (.agg #[.int .i64 x_0, .int .i64 x_1, .int .i64 x_2, .int .i64 x_3]) (.agg #[.int .i64 y_0, .int .i64 y_1, .int .i64 y_2, .int .i64 y_3])).run Tryz.prog w = .ok () w := fun w => by kernel_rfl
theorem a_st59 : Tryz.prog.stoodInHeld 59 = false := by kernel_rfl
theorem a_st90 : Tryz.prog.stoodInHeld 90 = false := by kernel_rfl
theorem eq59_9999 {x_0 : Int} {x_1 : Int} {y_0 : Int} {y_1 : Int} : ∀ w, (Op.equalIn 9999 59 (.agg #[.int .i64 x_0, .int .i64 x_1]) (.agg #[.int .i64 y_0, .int .i64 y_1])).run Tryz.prog w = .ok (ieq x_0 y_0 && ieq x_1 y_1) w := fun w => by
 unfold Op.equalIn
 rw [Sem.run_bind, Tryz.runUnderlying59]
 simp [a_st59, a_ep59_0, eq_int (d := 9997) Tryz.runUnderlying3, a_ep59_1, eq_int (d := 9997) Tryz.runUnderlying3]
 generalize ieq x_0 y_0 = b0
 generalize ieq x_1 y_1 = b1
 cases b0 <;> cases b1 <;> simp
theorem eq90 {x_0 : Int} {x_1 : Int} {x_2 : Int} {x_3 : Int} {y_0 : Int} {y_1 : Int} {y_2 : Int} {y_3 : Int} : ∀ w, (Op.equalIn Op.maxDepth 90 (.agg #[.int .i64 x_0, .int .i64 x_1, .int .i64 x_2, .int .i64 x_3]) (.agg #[.int .i64 y_0, .int .i64 y_1, .int .i64 y_2, .int .i64 y_3])).run Tryz.prog w = .ok (ieq x_0 y_0 && ieq x_1 y_1 && ieq x_2 y_2 && ieq x_3 y_3) w := fun w => by
 unfold Op.maxDepth Op.equalIn
 rw [Sem.run_bind, Tryz.runUnderlying90]
 simp [a_st90, a_ep90_0, eq_int (d := 9998) Tryz.runUnderlying3, a_ep90_1, eq_int (d := 9998) Tryz.runUnderlying3, a_ep90_2, eq59_9999]
 generalize ieq x_0 y_0 = b0
 generalize ieq x_1 y_1 = b1
 generalize ieq x_2 y_2 = b2
 generalize ieq x_3 y_3 = b3
 cases b0 <;> cases b1 <;> cases b2 <;> cases b3 <;> simp
theorem bs22_12_0_1_2_3_4_5_6_7_8_9_10_11 {x0 : Int} {x1 : Int} {x2 : Int} {x3 : Int} {x4 : Int} {x5 : Int} {x6 : Int} {x7 : Int} {x8 : Int} {x9 : Int} {x10 : Int} {x11 : Int} : ∀ w, (Instr.buildSlice 22 12 #[(0, .int .i64 x0), (1, .int .i64 x1), (2, .int .i64 x2), (3, .int .i64 x3), (4, .int .i64 x4), (5, .int .i64 x5), (6, .int .i64 x6), (7, .int .i64 x7), (8, .int .i64 x8), (9, .int .i64 x9), (10, .int .i64 x10), (11, .int .i64 x11)]).run Tryz.prog w = .ok (.slice (some ⟨w.heap.size, 0, none⟩) 12 12) (w.alloc (CB [.int .i64 x0, .int .i64 x1, .int .i64 x2, .int .i64 x3, .int .i64 x4, .int .i64 x5, .int .i64 x6, .int .i64 x7, .int .i64 x8, .int .i64 x9, .int .i64 x10, .int .i64 x11] 3)) := fun w => by kernel_rfl
theorem bs22_4_0_1_2_3 {x0 : Int} {x1 : Int} {x2 : Int} {x3 : Int} : ∀ w, (Instr.buildSlice 22 4 #[(0, .int .i64 x0), (1, .int .i64 x1), (2, .int .i64 x2), (3, .int .i64 x3)]).run Tryz.prog w = .ok (.slice (some ⟨w.heap.size, 0, none⟩) 4 4) (w.alloc (CB [.int .i64 x0, .int .i64 x1, .int .i64 x2, .int .i64 x3] 3)) := fun w => by kernel_rfl
theorem bs22_6_0_1_2_3_4_5 {x0 : Int} {x1 : Int} {x2 : Int} {x3 : Int} {x4 : Int} {x5 : Int} : ∀ w, (Instr.buildSlice 22 6 #[(0, .int .i64 x0), (1, .int .i64 x1), (2, .int .i64 x2), (3, .int .i64 x3), (4, .int .i64 x4), (5, .int .i64 x5)]).run Tryz.prog w = .ok (.slice (some ⟨w.heap.size, 0, none⟩) 6 6) (w.alloc (CB [.int .i64 x0, .int .i64 x1, .int .i64 x2, .int .i64 x3, .int .i64 x4, .int .i64 x5] 3)) := fun w => by kernel_rfl
theorem bs22_8_0_1_2_3_4_5_6_7 {x0 : Int} {x1 : Int} {x2 : Int} {x3 : Int} {x4 : Int} {x5 : Int} {x6 : Int} {x7 : Int} : ∀ w, (Instr.buildSlice 22 8 #[(0, .int .i64 x0), (1, .int .i64 x1), (2, .int .i64 x2), (3, .int .i64 x3), (4, .int .i64 x4), (5, .int .i64 x5), (6, .int .i64 x6), (7, .int .i64 x7)]).run Tryz.prog w = .ok (.slice (some ⟨w.heap.size, 0, none⟩) 8 8) (w.alloc (CB [.int .i64 x0, .int .i64 x1, .int .i64 x2, .int .i64 x3, .int .i64 x4, .int .i64 x5, .int .i64 x6, .int .i64 x7] 3)) := fun w => by kernel_rfl
theorem neqA90 {x y : Operand} {x_0 : Int} {x_1 : Int} {x_2 : Int} {x_3 : Int} {y_0 : Int} {y_1 : Int} {y_2 : Int} {y_3 : Int} : ∀ w, ((do eqGuard .neq 90 x y (.agg #[.int .i64 x_0, .int .i64 x_1, .int .i64 x_2, .int .i64 x_3]) (.agg #[.int .i64 y_0, .int .i64 y_1, .int .i64 y_2, .int .i64 y_3]); binOp .neq 90 (.agg #[.int .i64 x_0, .int .i64 x_1, .int .i64 x_2, .int .i64 x_3]) (.agg #[.int .i64 y_0, .int .i64 y_1, .int .i64 y_2, .int .i64 y_3])) : Sem Value).run Tryz.prog w = .ok (.bool (!(ieq x_0 y_0 && ieq x_1 y_1 && ieq x_2 y_2 && ieq x_3 y_3))) w := eq_topN a_gneqA90 eq90
theorem k_farv : Value.tuple #[.int .i64 (if b35.okB then (b35.farT b35.madeL.length).1 else 0), .int .i64 (if b35.okB then (b35.farT b35.madeL.length).2 else 0), .int .i64 b35.err] = .tuple #[.int .i64 4, .int .i64 6, .int .i64 0] := by
 rw [if_pos dc, if_pos dc, k_far]; rfl
theorem k_hlpv : Value.tuple #[.int .i64 (if b35.hpE 4 = 0 then (minH (b35.hpL 4 20)).s else 0), .int .i64 (if b35.hpE 4 = 0 then (minH (b35.hpL 4 20)).m else 0), .int .i64 (b35.hpE 4)] = .tuple #[.int .i64 1, .int .i64 2, .int .i64 0] := by
 rw [if_pos k_help.1, if_pos k_help.1, k_help.1, k_help.2]
theorem AskA.lit {e : Int} {o : Option Wy} {w : Wy} {v : Value} {Hn : List Blk} (h : AskA e o v Hn) (he : e = 0) (ho : o = some w) : ∃ a k, v = .tuple #[.slice a w.l.length k, .int .i64 w.back, .int .i64 0] ∧ ∀ (C : Ctx) (H : List Blk) (u : World), Hn.Sublist H → St C H u → Pos u a w.l.length k w.l := by
 subst he ho
 obtain ⟨v0, rfl, a, k, rfl, h⟩ := h
 exact ⟨a, k, rfl, h⟩
def bg0 : Cn := ⟨[3, 5], [0, 0], 10⟩
theorem k_begE : begE logL [3, 5] = 0 := by kernel_rfl
theorem k_begC : begC logL [3, 5] = bg0 := by kernel_rfl
def wp2 : List Po := [⟨0, 2⟩, ⟨2, 1⟩]
def wrtL : Lg := ⟨tunT, ⟨20, 40⟩, [⟨0, 1, ⟨10, 15⟩⟩, ⟨3, 3, ⟨18, 20⟩⟩, ⟨5, 2, ⟨10, 20⟩⟩, ⟨5, 3, ⟨12, 16⟩⟩, ⟨5, 2, ⟨5, 5⟩⟩]⟩
theorem k_wtE : wtE logL bg0 wp2 = 0 := by kernel_rfl
theorem k_wtL : wtL logL bg0 wp2 = wrtL := by kernel_rfl
theorem bef_three {bs : List Bl} (h : bs.map Bl.x = befL) : ∃ y0 y1 y2, bs = [y0, y1, y2] ∧ y2.x = ⟨18, 2, 0, 0⟩ := by
 have hl : bs.length = 3 := by have := congrArg List.length h; simpa [befL] using this
 obtain ⟨y0, y1, y2, rfl⟩ : ∃ y0 y1 y2, bs = [y0, y1, y2] := by
  match bs, hl with
  | [a, b, c], _ => exact ⟨a, b, c, rfl⟩
 unfold befL at h
 simp only [List.map_cons, List.map_nil, List.cons.injEq, and_true] at h
 exact ⟨y0, y1, y2, rfl, h.2.2⟩
theorem calive_any (w : World) (hG : Gv w) : Ct Tryz.prog 13 #[] w fun v _ => v = .bool true := by
 have hF := wide_wide
 refine Ct_start (args := []) Tryz.func13 rf Tryz.ntmps13 rf ?_
 refine zR fun ds => ?_
 refine za (.bool _) hF ?_
 refine zP fun ds => ?_
 refine WS_newS hF rf (y_buildSliceL bs22_2_0_1 rf) (fun sz => ?_)
 refine WS_gen hF rf (y_callL rf rf Tryz.call43 (fun w hw => l8bench_any 20 [3, 5] _ _ w dc)) ?_
 rintro _ Hz ⟨z, q, rfl, hz⟩
 refine WS_back ?_
 refine zD hF (y_callL rf rf Tryz.call16 (fun w hw => Ct_eq (many_any b35 _ _ _ _ w (hG.st w hw) dc dc (Ints.mem (rest := []) 0 rf rf dc w hw) (NewRow.ints hz rfl sbA w hw)) k_many)) ?_
 refine zm (.tuple _) hF ?_
 refine zD hF (y_extract (c := .int .i64 _) rf rf) ?_
 refine zD hF (y_extract (c := .int .i64 _) rf rf) ?_
 refine za (.int .i64 _) hF ?_
 refine za (.int .i64 _) hF ?_
 refine zO ?_
 refine W_sub HSub.nil ?_
 refine W_region_lit (fun ds => ?_)
 refine WS_newS hF rf (y_buildSliceL bs22_2_0_1 rf) (fun sz => ?_)
 refine WS_gen hF rf (y_callL rf rf Tryz.call43 (fun w hw => l8bench_any 20 [4, 6] _ _ w dc)) ?_
 rintro _ Hz ⟨z, q, rfl, hz⟩
 refine WS_back ?_
 refine WS_gen hF rf (y_callL rf rf Tryz.call15 (fun w hw => made_any b46 _ _ _ _ w (hG.st w hw) dc dc (Ints.mem (rest := []) 0 rf rf dc w hw) (NewRow.ints hz rfl sbA w hw))) ?_
 rintro _ Hm ⟨ma, mc, rfl, hm⟩
 rw [k_made] at hm ⊢
 rw [show b46.err = 0 from rfl]
 refine WS_back ?_
 refine zm (.tuple _) hF ?_
 refine zD hF (y_extract (c := .slice _ _ _) rf rf) ?_
 refine zD hF (y_extract (c := .int .i64 _) rf rf) ?_
 refine za (.slice _ _ _) hF ?_
 refine za (.int .i64 _) hF ?_
 refine zO ?_
 refine W_sub (HSub.sub (Hn := Hm) sbA) ?_
 refine W_region_lit (fun ds => ?_)
 refine WS_newS hF rf (y_buildSliceL bs22_2_0_1 rf) (fun sz => ?_)
 refine WS_gen hF rf (y_callL rf rf Tryz.call43 (fun w hw => l8bench_any 20 [4, 6] _ _ w dc)) ?_
 rintro _ Hz ⟨z, q, rfl, hz⟩
 refine WS_back ?_
 refine zD hF (y_callL rf rf Tryz.call21 (fun w hw => Ct_eq (measure_any b46 _ _ _ _ w (hG.st w hw) dc dc (Ints.mem (rest := []) 0 rf rf dc w hw) (NewRow.ints hz rfl sbA w hw)) k_meas)) ?_
 refine zm (.tuple _) hF ?_
 refine zD hF (y_extract (c := .int .i64 _) rf rf) ?_
 refine zD hF (y_extract (c := .int .i64 _) rf rf) ?_
 refine za (.int .i64 _) hF ?_
 refine za (.int .i64 _) hF ?_
 refine zO ?_
 refine W_sub (HSub.sub (Hn := Hm) sbA) ?_
 refine W_region_lit (fun ds => ?_)
 refine WS_newS hF rf (y_buildSliceL bs22_2_0_1 rf) (fun sz => ?_)
 refine WS_gen hF rf (y_callL rf rf Tryz.call43 (fun w hw => l8bench_any 20 [3, 5] _ _ w dc)) ?_
 rintro _ Hz ⟨z, q, rfl, hz⟩
 refine WS_back ?_
 refine WS_gen hF rf (y_callL rf rf Tryz.call19 (fun w hw => cleast_any b35 _ _ _ _ 4 w (hG.st w hw) dc dc (Ints.mem (rest := []) 0 rf rf dc w hw) (NewRow.ints hz rfl sbA w hw))) ?_
 rintro _ L4 hA
 obtain ⟨la, lk, rfl, hP4⟩ := hA.lit k_e4 k_l4
 refine WS_back ?_
 refine zm (.tuple _) hF ?_
 refine zD hF (y_extract (c := .slice _ _ _) rf rf) ?_
 refine zD hF (y_extract (c := .int .i64 _) rf rf) ?_
 refine zD hF (y_extract (c := .int .i64 _) rf rf) ?_
 refine za (.slice _ _ _) hF ?_
 refine za (.int .i64 _) hF ?_
 refine za (.int .i64 _) hF ?_
 refine zO ?_
 refine W_sub (HSub.sub (Hn := Hm ++ L4) sbA) ?_
 refine W_region_lit (fun ds => ?_)
 refine WS_newS hF rf (y_buildSliceL bs22_2_0_1 rf) (fun sz => ?_)
 refine WS_gen hF rf (y_callL rf rf Tryz.call43 (fun w hw => l8bench_any 20 [3, 5] _ _ w dc)) ?_
 rintro _ Hz ⟨z, q, rfl, hz⟩
 refine WS_back ?_
 refine WS_gen hF rf (y_callL rf rf Tryz.call19 (fun w hw => cleast_any b35 _ _ _ _ 1 w (hG.st w hw) dc dc (Ints.mem (rest := []) 0 rf rf dc w hw) (NewRow.ints hz rfl sbA w hw))) ?_
 rintro _ L1 hA
 obtain ⟨la1, lk1, rfl, hP1⟩ := hA.lit k_e1 k_l1
 refine WS_back ?_
 refine zm (.tuple _) hF ?_
 refine zD hF (y_extract (c := .slice _ _ _) rf rf) ?_
 refine zD hF (y_extract (c := .int .i64 _) rf rf) ?_
 refine zD hF (y_extract (c := .int .i64 _) rf rf) ?_
 refine za (.slice _ _ _) hF ?_
 refine za (.int .i64 _) hF ?_
 refine za (.int .i64 _) hF ?_
 refine zO ?_
 refine W_sub (HSub.sub (Hn := Hm ++ (L4 ++ L1)) sbA) ?_
 refine W_region_lit (fun ds => ?_)
 refine WS_newS hF rf (y_buildSliceL bs22_2_0_1 rf) (fun sz => ?_)
 refine WS_gen hF rf (y_callL rf rf Tryz.call43 (fun w hw => l8bench_any 20 [3, 5] _ _ w dc)) ?_
 rintro _ Hz ⟨z, q, rfl, hz⟩
 refine WS_back ?_
 refine WS_gen hF rf (y_callL rf rf Tryz.call40 (fun w hw => ctotal_any b35 _ _ _ _ 6 w (hG.st w hw) dc dc (Ints.mem (rest := []) 0 rf rf dc w hw) (NewRow.ints hz rfl sbA w hw))) ?_
 rintro _ L6 hA
 obtain ⟨la6, lk6, rfl, hP6⟩ := hA.lit k_e6 k_t6
 refine WS_back ?_
 refine zm (.tuple _) hF ?_
 refine zD hF (y_extract (c := .slice _ _ _) rf rf) ?_
 refine zD hF (y_extract (c := .int .i64 _) rf rf) ?_
 refine zD hF (y_extract (c := .int .i64 _) rf rf) ?_
 refine za (.slice _ _ _) hF ?_
 refine za (.int .i64 _) hF ?_
 refine za (.int .i64 _) hF ?_
 refine zO ?_
 refine W_sub (HSub.sub (Hn := Hm ++ (L4 ++ (L1 ++ L6))) sbA) ?_
 refine W_region_lit (fun ds => ?_)
 refine WS_newS hF rf (y_buildSliceL bs22_2_0_1 rf) (fun sz => ?_)
 refine WS_gen hF rf (y_callL rf rf Tryz.call43 (fun w hw => l8bench_any 20 [3, 5] _ _ w dc)) ?_
 rintro _ Hz ⟨z, q, rfl, hz⟩
 refine WS_back ?_
 refine zD hF (y_callL rf rf Tryz.call26 (fun w hw => Ct_eq (far_any b35 _ _ _ _ w (hG.st w hw) dc dc (Ints.mem (rest := []) 0 rf rf dc w hw) (NewRow.ints hz rfl sbA w hw)) k_farv)) ?_
 refine zm (.tuple _) hF ?_
 refine zD hF (y_extract (c := .int .i64 _) rf rf) ?_
 refine zD hF (y_extract (c := .int .i64 _) rf rf) ?_
 refine zD hF (y_extract (c := .int .i64 _) rf rf) ?_
 refine za (.int .i64 _) hF ?_
 refine za (.int .i64 _) hF ?_
 refine za (.int .i64 _) hF ?_
 refine zO ?_
 refine W_sub (HSub.sub (Hn := Hm ++ (L4 ++ (L1 ++ L6))) sbA) ?_
 refine W_region_lit (fun ds => ?_)
 refine WS_newS hF rf (y_buildSliceL bs22_2_0_1 rf) (fun sz => ?_)
 refine WS_gen hF rf (y_callL rf rf Tryz.call43 (fun w hw => l8bench_any 20 [3, 5] _ _ w dc)) ?_
 rintro _ Hz ⟨z, q, rfl, hz⟩
 refine WS_back ?_
 refine zD hF (y_callL rf rf Tryz.call36 (fun w hw => Ct_eq (help_any b35 _ _ _ _ 4 w (hG.st w hw) dc dc (Ints.mem (rest := []) 0 rf rf dc w hw) (NewRow.ints hz rfl sbA w hw)) k_hlpv)) ?_
 refine zm (.tuple _) hF ?_
 refine zD hF (y_extract (c := .int .i64 _) rf rf) ?_
 refine zD hF (y_extract (c := .int .i64 _) rf rf) ?_
 refine zD hF (y_extract (c := .int .i64 _) rf rf) ?_
 refine za (.int .i64 _) hF ?_
 refine za (.int .i64 _) hF ?_
 refine za (.int .i64 _) hF ?_
 refine zO ?_
 refine W_sub (HSub.sub (Hn := Hm ++ (L4 ++ (L1 ++ L6))) sbA) ?_
 refine W_region_lit (fun ds => ?_)
 refine WS_newS hF rf (y_buildSliceL bs22_2_0_1 rf) (fun sz => ?_)
 refine WS_gen hF rf (y_callL rf rf Tryz.call43 (fun w hw => l8bench_any 17 [3, 5] _ _ w dc)) ?_
 rintro _ _ ⟨z, q, rfl, hz⟩
 obtain ⟨pb, pj, rfl, rfl, pl, ple⟩ := NewRow.head hz dc
 refine WS_back ?_
 refine WS_new hF rf (y_alloc Tryz.zeroValue24 rf) (fun bc => ?_)
 refine WS_store hF (us := [.slice _ _ _, .slice _ _ _, .int .i64 _]) (i := 0) rf rf Tryz.sizeOf24 rf rf rf d20 ?_
 refine zO ?_
 refine W_pull (pb, CB (iv (List.replicate [3, 5].length 0) ++ pj) 3) zu ?_
 refine W_region_lit (fun ds => ?_)
 refine zD hF (y_fieldAddr rf fa24_1) ?_
 refine zD hF (y_load1 rf Tryz.isAgg22 (Mem.own1 1 rf rf)) ?_
 refine zD hF (y_index (k := 0) rf rf r10 d10 Tryz.runUnderlying22 Tryz.sizeOf3) ?_
 refine WS_store hF (us := [.int .i64 _]) (i := 0) rf rf Tryz.sizeOf3 rf rf rf (fit_iv dc) ?_
 refine zO ?_
 rw [show splice (iv (List.replicate [3, 5].length 0) ++ pj) 0 [.int .i64 3] = iv [3, 0] ++ pj from splice_iv _ _ _ 0 dc]
 refine W_region_lit (fun ds => ?_)
 refine zD hF (y_loadN rf Tryz.isAgg24 Tryz.sizeOf24 (Mem.own (us := [.slice _ _ _, .slice _ _ _, .int .i64 _]) 1 rf rf) rf) ?_
 refine zD hF (y_buildL bd47_1 rf) ?_
 refine WS_gen hF rf (y_callL rf rf Tryz.call22 (fun w hw => cbefore_any bef0 _ _ _ _ ⟨0, 1⟩ w (hG.st w hw) dc dc (Ints.mem (rest := []) 2 rf rf dc w hw) (Ints.mem (rest := pj) 0 rf rf (by exact ple) w hw))) ?_
 rintro _ _ ⟨e0, bs, ba, bk, Hr, HX, rfl, hbf, hrow, hrd, hsh, rfl⟩
 obtain ⟨rfl, hbx⟩ := Cn.Bef.uniq hbf k_bef
 obtain ⟨y0, y1, ⟨x2, s2, ks2, i2, ki2⟩, rfl, rfl⟩ := bef_three hbx
 have hrd2 := hrd ⟨⟨18, 2, 0, 0⟩, s2, ks2, i2, ki2⟩ (by simp)
 obtain ⟨bb, rfl⟩ := NewRow.adr hrow (by simp)
 obtain ⟨bi, rfl⟩ : ∃ bi, i2 = some ⟨bi, 0, none⟩ := by
  rcases hrd2.oi with h | ⟨b, vs, h, _⟩
  ·cases (show (2 : Nat) = 0 from h)
  ·exact ⟨b, h⟩
 have hl3 : [y0, y1, (⟨⟨18, 2, 0, 0⟩, s2, ks2, some ⟨bi, 0, none⟩, ki2⟩ : Bl)].length = 3 := rfl
 have hl2 : (bef0.of (⟨⟨18, 2, 0, 0⟩, s2, ks2, some ⟨bi, 0, none⟩, ki2⟩ : Bl).x).inn.length = 2 := rfl
 refine WS_back ?_
 refine zm (.tuple _) hF ?_
 refine zD hF (y_extract (c := .slice _ _ _) rf rf) ?_
 refine zD hF (y_extract (c := .int .i64 _) rf rf) ?_
 refine za (.slice _ _ _) hF ?_
 refine za (.int .i64 _) hF ?_
 refine zO ?_
 refine W_sub (HSub.sub (Hn := Hm ++ (L4 ++ (L1 ++ (L6 ++ (HX ++ Hr))))) sbA) ?_
 refine W_region_lit (fun ds => ?_)
 refine WS_gen hF rf (y_callL rf rf Tryz.call46 (fun w hw => l8log_any w)) ?_
 rintro _ _ ⟨a1, cap1, ae1, cape1, Hp, He, rfl, hrp, hre, rfl⟩
 refine WS_back ?_
 refine WS_newS hF rf (y_buildSliceL bs22_2_0_1 rf) (fun s12 => ?_)
 refine WS_gen hF rf (y_callL rf rf Tryz.call29 (fun w hw => begin_any logL _ _ _ _ _ 2 2 [3, 5] w (hG.st w hw) dc dc (NewRow.ints hrp rfl sbA w hw) (NewRow.rws en_len hre rfl sbA w hw) (Ints.mem (rest := []) 0 rf rf dc w hw))) ?_
 rintro _ _ ⟨_, rfl, hT⟩
 rw [k_begC] at hT
 rw [k_begE]
 obtain ⟨z1, q1, z2, q2, G1, G2, rfl, g1, g2, rfl⟩ := hT
 refine WS_back ?_
 refine zm (.tuple _) hF ?_
 refine zD hF (y_extract (c := .agg _) rf rf) ?_
 refine zD hF (y_extract (c := .int .i64 _) rf rf) ?_
 refine WS_new hF rf (y_alloc Tryz.zeroValue24 rf) (fun bg => ?_)
 refine WS_store hF (us := [.slice _ _ _, .slice _ _ _, .int .i64 _]) (i := 0) rf rf Tryz.sizeOf24 rf rf rf d20 ?_
 refine za (.int .i64 _) hF ?_
 refine zO ?_
 refine W_sub (HSub.sub (Hn := (bg, _) :: (Hm ++ (L4 ++ (L1 ++ (L6 ++ (HX ++ (Hr ++ (G1 ++ G2)))))))) sbA) ?_
 refine W_draw0 hF Tryzmixed [27] dk0 (fun ds => ?_)
 refine P_new rf rf (Over_nil (y_callL rf rf Tryz.call46 (fun w hw => l8log_any w))) ?_
 refine P_det rf (Over_out rf (Over_nil (y_loadN rf Tryz.isAgg24 Tryz.sizeOf24 (Mem.own (us := [.slice _ _ _, .slice _ _ _, .int .i64 _]) 0 rf rf) rf))) ?_
 refine P_new rf rf (Over_out rf (Over_nil (y_buildSliceL bs22_4_0_1_2_3 rf))) ?_
 refine P_new rf rf (Over_in rf (Over_out rf (Over_nil (by rintro _ _ ⟨b2, rfl, rfl⟩; exact (y_callL rf rf Tryz.call44 (fun w hw => l8pours_any wp2 _ _ w dc (Ints.mem (rest := []) 0 rf rf dc w hw))))))) ?_
 refine P_new rf rf (Over_in rf (Over_out rf (Over_in rf (Over_nil (by intro vb4 l100 hb4; obtain ⟨c1, d1, c2, d2, Hp, He, rfl, hrp, hre, rfl⟩ := hb4; intro vb5 l103 hb5; obtain ⟨pa, pk, rfl, hpp⟩ := hb5; obtain ⟨HP, rfl⟩ : ∃ HP, HP = l103 := ⟨_, rfl⟩; exact (y_callL rf rf Tryz.call32 (fun w hw => written_any logL _ _ _ _ bg0 _ _ _ _ wp2 _ _ w (hG.st w hw) dc dc dc (NewRow.ints hrp rfl sbA w hw) (NewRow.rws en_len hre rfl sbA w hw) dc dc (NewRow.ints g1 rfl sbA w hw) (NewRow.ints g2 rfl sbA w hw) (NewRow.rws po_len hpp rfl sbA w hw)))))))) ?_
 refine P_ali [104] (fun e => e 104) rf rf rf (fun _ _ h => h 104 (List.mem_singleton.2 rfl)) (Over_in rf (Over_out rf (Over_out rf (Over_out rf (Over_nil (by intro vb7 l104 hb7; obtain ⟨_, rfl, hTW⟩ := hb7; rw [k_wtL] at hTW; rw [k_wtE]; obtain ⟨e1, f1, e2, f2, U1, U2, rfl, hu1, hu2, rfl⟩ := hTW; obtain ⟨bu, rfl⟩ := NewRow.adr hu2 dc; exact (YD0_of (y_move (c := .tuple _) rf)))))))) ?_
 refine P_ali [99] (fun e => tupAt (e 99) 0) rf rf rf (fun _ _ h => congrArg (tupAt · 0) (h 99 (List.mem_singleton.2 rfl))) (Over_in rf (Over_in rf (Over_out rf (Over_out rf (Over_out rf (Over_nil (by intro vb9 l104 hb9; obtain ⟨_, rfl, hTW⟩ := hb9; rw [k_wtL] at hTW; rw [k_wtE]; obtain ⟨e1, f1, e2, f2, U1, U2, rfl, hu1, hu2, rfl⟩ := hTW; obtain ⟨bu, rfl⟩ := NewRow.adr hu2 dc; rintro vb10 _ ⟨hvb10, rfl⟩; replace hvb10 : vb10 = .tuple _ := hvb10; subst hvb10; exact (YD0_of (y_extract (c := .agg _) rf rf))))))))) ?_
 refine P_ali [99] (fun e => tupAt (e 99) 1) rf rf rf (fun _ _ h => congrArg (tupAt · 1) (h 99 (List.mem_singleton.2 rfl))) (Over_out rf (Over_in rf (Over_in rf (Over_out rf (Over_out rf (Over_out rf (Over_nil (by intro vb12 l104 hb12; obtain ⟨_, rfl, hTW⟩ := hb12; rw [k_wtL] at hTW; rw [k_wtE]; obtain ⟨e1, f1, e2, f2, U1, U2, rfl, hu1, hu2, rfl⟩ := hTW; obtain ⟨bu, rfl⟩ := NewRow.adr hu2 dc; rintro vb13 _ ⟨hvb13, rfl⟩; replace hvb13 : vb13 = .tuple _ := hvb13; subst hvb13; exact (YD0_of (y_extract (c := .int .i64 _) rf rf)))))))))) ?_
 refine P_newSD 105 rf rf rf (Over_out rf (Over_out rf (Over_out rf (Over_out rf (Over_out rf (Over_out rf (Over_out rf (Over_nil (y_alloc Tryz.zeroValue62 rf))))))))) ?_
 refine P_st 27 0 rf rf rf rf rf (Over_out rf (Over_in rf (Over_in rf (Over_in rf (Over_out rf (Over_out rf (Over_out rf (Over_nil (by intro vb15 l104 hb15; obtain ⟨_, rfl, hTW⟩ := hb15; rw [k_wtL] at hTW; rw [k_wtE]; obtain ⟨e1, f1, e2, f2, U1, U2, rfl, hu1, hu2, rfl⟩ := hTW; obtain ⟨bu, rfl⟩ := NewRow.adr hu2 dc; rintro vb16 _ ⟨hvb16, rfl⟩; replace hvb16 : vb16 = .tuple _ := hvb16; subst hvb16; rintro vb17 _ ⟨hvb17, rfl⟩; replace hvb17 : vb17 = .agg _ := hvb17; subst hvb17; exact (st_newD rf rf Tryz.sizeOf62 rf rf d20)))))))))) ?_
 refine P_ali [106] (fun e => e 106) rf rf rf (fun _ _ h => h 106 (List.mem_singleton.2 rfl)) (Over_out rf (Over_in rf (Over_out rf (Over_in rf (Over_in rf (Over_out rf (Over_out rf (Over_out rf (Over_nil (by intro vb18 l104 hb18; obtain ⟨_, rfl, hTW⟩ := hb18; rw [k_wtL] at hTW; rw [k_wtE]; obtain ⟨e1, f1, e2, f2, U1, U2, rfl, hu1, hu2, rfl⟩ := hTW; obtain ⟨bu, rfl⟩ := NewRow.adr hu2 dc; rintro vb19 _ ⟨hvb19, rfl⟩; replace hvb19 : vb19 = .tuple _ := hvb19; subst hvb19; rintro vb20 _ ⟨hvb20, rfl⟩; replace hvb20 : vb20 = .int .i64 _ := hvb20; subst hvb20; exact (YD0_of (y_assign (c := .int .i64 _) rf)))))))))))) ?_
 refine PW_end rf ?_
 refine OverAll_cons (fun w28 l28 => ?_)
 refine OverAll_cons (fun w27 l27 => ?_)
 refine OverAll_cons (fun w106 l106 => ?_)
 refine OverAll_cons (fun w105 l105 => ?_)
 refine OverAll_cons (fun w99 l99 => ?_)
 refine OverAll_cons (fun w104 l104 => ?_)
 refine OverAll_cons (fun w103 l103 => ?_)
 refine OverAll_cons (fun w102 l102 => ?_)
 refine OverAll_cons (fun w100 l100 => ?_)
 refine OverAll_nil ?_
 rintro ⟨⟨⟨⟨⟨⟨⟨⟨⟨-, h28⟩, h27⟩, h106⟩, h105⟩, h99⟩, h104⟩, h103⟩, h102⟩, h100⟩
 obtain ⟨c1, d1, c2, d2, Hp, He, rfl, hrp, hre, rfl⟩ := h100
 obtain ⟨bw, rfl, rfl⟩ := h102
 obtain ⟨pa, pk, rfl, hpp⟩ := h103
 obtain ⟨HP, rfl⟩ : ∃ HP, HP = l103 := ⟨_, rfl⟩
 obtain ⟨_, rfl, hTW⟩ := h104
 rw [k_wtL] at hTW
 rw [k_wtE]
 obtain ⟨e1, f1, e2, f2, U1, U2, rfl, hu1, hu2, rfl⟩ := hTW
 obtain ⟨bu, rfl⟩ := NewRow.adr hu2 dc
 obtain ⟨h99, rfl⟩ := h99
 replace h99 : w99 = .tuple _ := h99
 subst h99
 obtain ⟨h105, rfl⟩ := h105
 replace h105 : w105 = .agg _ := h105
 subst h105
 obtain ⟨h106, rfl⟩ := h106
 replace h106 : w106 = .int .i64 _ := h106
 subst h106
 obtain ⟨h28, rfl⟩ := h28
 replace h28 : w28 = .int .i64 _ := h28
 subst h28
 obtain ⟨bl, rfl, rfl⟩ := h27
 refine Then_normal ?_
 refine W_seq ?_
 refine W_seq ?_
 refine W_pull (bg, CB [.slice z1 bg0.n q1, .slice z2 bg0.inn.length q2, .int .i64 10] 24) zu ?_
 refine W_pull (bl, CB [.slice e1 wrtL.tk.n f1, .int .i64 2, .int .i64 8, .int .i64 20, .int .i64 40, .slice (some ⟨bu, 0, none⟩) wrtL.es.length f2] 62) zu ?_
 refine W_sub (HSub.sub (Hn := (bl, _) :: (bg, _) :: (U2 ++ (Hm ++ (L4 ++ (L1 ++ (L6 ++ (HX ++ Hr))))))) sbA) ?_
 refine W_draw0 hF Tryzmixed [] dk0 (fun ds => ?_)
 refine P_det rf (Over_nil (y_move (c := .int .i64 _) rf)) ?_
 refine P_det rf (Over_nil (y_neqF rf rf)) ?_
 refine P_det rf (Over_nil (y_move (c := .bool _) rf)) ?_
 refine P_det rf (Over_nil (y_fieldAddr rf fa62_2)) ?_
 refine P_det rf (Over_nil (y_load1 rf Tryz.isAgg60 (Mem.own1 0 rf rf))) ?_
 refine P_det rf (Over_nil (y_len rf Tryz.runUnderlying60)) ?_
 refine P_det rf (Over_nil (y_neqF rf rf)) ?_
 refine P_det rf (Over_nil (by first | exact y_pick_t (c := .bool _) rf rf | exact y_pick_f (c := .bool _) rf rf)) ?_
 refine P_det rf (Over_nil (y_move (c := .bool _) rf)) ?_
 refine P_det rf (Over_nil (y_fieldAddr rf fa62_2)) ?_
 refine P_det rf (Over_nil (y_load1 rf Tryz.isAgg60 (Mem.own1 0 rf rf))) ?_
 refine P_det rf (Over_nil (y_index (k := 4) rf rf r10 d10 Tryz.runUnderlying60 Tryz.sizeOf90)) ?_
 refine P_det rf (Over_nil (y_loadN rf Tryz.isAgg90 Tryz.sizeOf90 (fun w hw => (show At w bu (0 + 4 * 4) [.int .i64 5, .int .i64 2, .int .i64 5, .int .i64 5] from (NewRow.rws en_len hu2 rfl sbA w hw).at (k := 4) dc)) rf)) ?_
 refine P_det rf (Over_nil (y_callL rf rf Tryz.call35 (fun w hw => l8span_any _ _ w))) ?_
 refine P_det rf (Over_nil (y_buildL bd90_0_1_2 rf)) ?_
 refine P_det rf (Over_nil (y_neqlAF rf rf neqA90 (by simp only [ieq_self, Bool.and_self, Bool.not_true]))) ?_
 refine P_det rf (Over_nil (by first | exact y_pick_t (c := .bool _) rf rf | exact y_pick_f (c := .bool _) rf rf)) ?_
 refine PW_end rf ?_
 refine OverAll_nil ?_
 rintro -
 refine Then_normal ?_
 refine W_cond rf (fun c14 => ?_) (fun c14 => ?_)
 ·cases c14
 ·
  try simp only [qz1, qz2, qz3, qz4, qz5, qz6, qz7, qz8] at c14
  refine W_skip ?_
  refine zS fun ds => ?_
  refine zm (.int .i64 _) hF ?_
  refine zD hF (y_eqlT rf rf) ?_
  refine zm (.bool _) hF ?_
  refine zm (.int .i64 _) hF ?_
  refine zD hF (y_eqlT rf rf) ?_
  refine zD hF (zpk (.bool _)) ?_
  refine zm (.bool _) hF ?_
  refine zm (.int .i64 _) hF ?_
  refine zD hF (y_eqlT rf rf) ?_
  refine zD hF (zpk (.bool _)) ?_
  refine zm (.bool _) hF ?_
  refine zm (.slice _ _ _) hF ?_
  refine WS_newS hF rf (y_buildSliceL bs22_4_0_1_2_3 rf) (fun k1 => ?_)
  refine zD hF (y_callL rf rf Tryz.call23 (fun w hw => Ct_eq (c' := .bool true) (sameInts2_any _ _ _ _ _ _ [0, 2, 4, 6] [0, 2, 4, 6] w dc (NewRow.ints hm rfl sbA w hw) (Ints.mem (rest := []) 0 rf rf dc w hw)) (by simp))) ?_
  refine zD hF (zpk (.bool _)) ?_
  refine zm (.bool _) hF ?_
  refine zm (.int .i64 _) hF ?_
  refine zD hF (y_eqlT rf rf) ?_
  refine zD hF (zpk (.bool _)) ?_
  refine zm (.bool _) hF ?_
  refine zm (.int .i64 _) hF ?_
  refine zD hF (y_eqlT rf rf) ?_
  refine zD hF (zpk (.bool _)) ?_
  refine zm (.bool _) hF ?_
  refine zm (.int .i64 _) hF ?_
  refine zD hF (y_eqlT rf rf) ?_
  refine zD hF (zpk (.bool _)) ?_
  refine zm (.bool _) hF ?_
  refine zm (.int .i64 _) hF ?_
  refine zD hF (y_eqlT rf rf) ?_
  refine zD hF (zpk (.bool _)) ?_
  refine zm (.bool _) hF ?_
  refine zm (.slice _ _ _) hF ?_
  refine WS_newS hF rf (y_buildSliceL bs22_12_0_1_2_3_4_5_6_7_8_9_10_11 rf) (fun k2 => ?_)
  refine WS_gen hF rf (y_callL rf rf Tryz.call44 (fun w hw => l8pours_any w4.l _ _ w dc (Ints.mem (rest := []) 0 rf rf dc w hw))) ?_
  rintro _ HP ⟨p9, q9, rfl, hpp⟩
  refine WS_back ?_
  refine zD hF (y_callL rf rf Tryz.call45 (fun w hw => samePo_any w4.l _ _ _ _ w dc (hP4 _ _ w sbA hw) (NewRow.rws po_len hpp rfl sbA w hw))) ?_
  refine zD hF (zpk (.bool _)) ?_
  refine zm (.bool _) hF ?_
  refine zm (.int .i64 _) hF ?_
  refine zD hF (y_eqlT rf rf) ?_
  refine zD hF (zpk (.bool _)) ?_
  refine zm (.bool _) hF ?_
  refine zm (.int .i64 _) hF ?_
  refine zD hF (y_eqlT rf rf) ?_
  refine zD hF (zpk (.bool _)) ?_
  refine zm (.bool _) hF ?_
  refine zm (.slice _ _ _) hF ?_
  refine WS_newS hF rf (y_buildSliceL bs22_8_0_1_2_3_4_5_6_7 rf) (fun k3 => ?_)
  refine WS_gen hF rf (y_callL rf rf Tryz.call44 (fun w hw => l8pours_any w1.l _ _ w dc (Ints.mem (rest := []) 0 rf rf dc w hw))) ?_
  rintro _ HP ⟨p9, q9, rfl, hpp⟩
  refine WS_back ?_
  refine zD hF (y_callL rf rf Tryz.call45 (fun w hw => samePo_any w1.l _ _ _ _ w dc (hP1 _ _ w sbA hw) (NewRow.rws po_len hpp rfl sbA w hw))) ?_
  refine zD hF (zpk (.bool _)) ?_
  refine zm (.bool _) hF ?_
  refine zm (.int .i64 _) hF ?_
  refine zD hF (y_eqlT rf rf) ?_
  refine zD hF (zpk (.bool _)) ?_
  refine zm (.bool _) hF ?_
  refine zm (.slice _ _ _) hF ?_
  refine WS_newS hF rf (y_buildSliceL bs22_6_0_1_2_3_4_5 rf) (fun k4 => ?_)
  refine WS_gen hF rf (y_callL rf rf Tryz.call44 (fun w hw => l8pours_any w6.l _ _ w dc (Ints.mem (rest := []) 0 rf rf dc w hw))) ?_
  rintro _ HP ⟨p9, q9, rfl, hpp⟩
  refine WS_back ?_
  refine zD hF (y_callL rf rf Tryz.call45 (fun w hw => samePo_any w6.l _ _ _ _ w dc (hP6 _ _ w sbA hw) (NewRow.rws po_len hpp rfl sbA w hw))) ?_
  refine zD hF (zpk (.bool _)) ?_
  refine zm (.bool _) hF ?_
  refine zm (.int .i64 _) hF ?_
  refine zD hF (y_eqlT rf rf) ?_
  refine zD hF (zpk (.bool _)) ?_
  refine zm (.bool _) hF ?_
  refine zm (.int .i64 _) hF ?_
  refine zD hF (y_eqlT rf rf) ?_
  refine zD hF (zpk (.bool _)) ?_
  refine zm (.bool _) hF ?_
  refine zm (.int .i64 _) hF ?_
  refine zD hF (y_eqlT rf rf) ?_
  refine zD hF (zpk (.bool _)) ?_
  refine zm (.bool _) hF ?_
  refine zm (.int .i64 _) hF ?_
  refine zD hF (y_eqlT rf rf) ?_
  refine zD hF (zpk (.bool _)) ?_
  refine zm (.bool _) hF ?_
  refine zm (.int .i64 _) hF ?_
  refine zD hF (y_eqlT rf rf) ?_
  refine zD hF (zpk (.bool _)) ?_
  refine zm (.bool _) hF ?_
  refine zm (.int .i64 _) hF ?_
  refine zD hF (y_eqlT rf rf) ?_
  refine zD hF (zpk (.bool _)) ?_
  refine zm (.bool _) hF ?_
  refine zm (.int .i64 _) hF ?_
  refine zD hF (y_eqlT rf rf) ?_
  refine zD hF (zpk (.bool _)) ?_
  refine zm (.bool _) hF ?_
  refine zm (.slice _ _ _) hF ?_
  refine zD hF (y_len rf Tryz.runUnderlying34) ?_
  refine zD hF (y_eqlT rf rf) ?_
  refine zD hF (zpk (.bool _)) ?_
  refine zm (.bool _) hF ?_
  refine zm (.slice _ _ _) hF ?_
  refine zD hF (y_index (k := 2) rf rf r10 d10 Tryz.runUnderlying34 Tryz.sizeOf24) ?_
  refine zD hF (y_fieldAddr rf fa24_2) ?_
  refine zD hF (y_load1 rf Tryz.isAgg3 (fun w hw => ⟨((NewRow.rws (bl_len bef0) hrow rfl sbA w hw).at (k := 2) (by simp)).2.2.1, trivial⟩)) ?_
  refine zD hF (y_eqlT rf rf) ?_
  refine zD hF (zpk (.bool _)) ?_
  refine zm (.bool _) hF ?_
  refine zm (.slice _ _ _) hF ?_
  refine zD hF (y_index (k := 2) rf rf r10 d10 Tryz.runUnderlying34 Tryz.sizeOf24) ?_
  refine zD hF (y_fieldAddr rf fa24_1) ?_
  refine zD hF (y_load1 rf Tryz.isAgg22 (fun w hw => ⟨((NewRow.rws (bl_len bef0) hrow rfl sbA w hw).at (k := 2) (by simp)).2.1, trivial⟩)) ?_
  refine zD hF (y_index (k := 0) rf rf rf (show 0 < 2 by decide) Tryz.runUnderlying22 Tryz.sizeOf3) ?_
  refine zD hF (y_load1 rf Tryz.isAgg3 (fun w hw => (hrd2.i _ _ w sbA hw).at (k := 0) om0)) ?_
  refine zD hF (y_eqlT rf rf) ?_
  refine zD hF (zpk (.bool _)) ?_
  refine zm (.bool _) hF ?_
  refine zm (.int .i64 _) hF ?_
  refine zD hF (y_eqlT rf rf) ?_
  refine zD hF (zpk (.bool _)) ?_
  refine zm (.bool _) hF ?_
  refine zD hF (y_fieldAddr rf fa24_2) ?_
  refine zD hF (y_load1 rf Tryz.isAgg3 (Mem.own1 5 rf rf)) ?_
  refine zD hF (y_eqlT rf rf) ?_
  refine zD hF (zpk (.bool _)) ?_
  refine za (.bool _) hF ?_
  refine zN ?_
  refine W_ret ?_
  refine Fin_ret [.bool _] [] Tryz.results13 ⟨by rfl, trivial⟩ HSub.nil ?_
  rfl
set_option maxHeartbeats 1000000
section
variable {c : Cn} {B0 : Bl} {ps : List Po} {bs : List Bl} {aA : Option Addr} {kA : Nat} {HA : List Blk} {aL : Option Addr} {kL : Nat} {HL HX : List Blk}
theorem WkS.get (h : WkS c B0 ps bs aA kA HA aL kL HL HX) (h0 : B0.x = c.co) {k : Nat} (hk : k ≤ bs.length) : ∃ y : Bl, y = (B0 :: bs).getD k Bl.z ∧ y.x = c.runK ps k ∧ (y = B0 ∨ y.RdH c HX) := by
 refine ⟨_, rfl, h.at h0 hk, ?_⟩
 cases k with
 | zero => exact .inl rfl
 | succ k =>
  refine .inr (h.rd _ ?_)
  show bs.getD k Bl.z ∈ _
  rw [List.getD_eq_getElem?_getD, List.getElem?_eq_getElem om0]
  exact List.getElem_mem _
theorem WkS.cell {br : Nat} (h : WkS c B0 ps bs (some ⟨br, 0, none⟩) kA HA aL kL HL HX) {k : Nat} (hk : k ≤ bs.length) {y : Bl} (hy : y = (B0 :: bs).getD k Bl.z) {C : Ctx} {H : List Blk} (hs : HA.Sublist H) (w : World) (hw : St C H w) : At w br (0 + k * 3) [.slice y.s c.n y.ks, .slice y.i (c.of y.x).inn.length y.ki, .int .i64 y.x.a] := by
 rw [hy]; exact (NewRow.rws (bl_len c) h.rowA rfl hs w hw).at (k := k) (by simp; omega)
theorem WkS.pos (h : WkS c B0 ps bs aA kA HA aL kL HL HX) {C : Ctx} {H : List Blk} (hs : HL.Sublist H) (w : World) (hw : St C H w) : Pos w aL ps.length kL ps := NewRow.rws po_len h.rowL rfl hs w hw
end
theorem Cn.b0x (c : Cn) (a1 : Option Addr) (p1 : Nat) (a2 : Option Addr) (p2 : Nat) : (c.b0 a1 p1 a2 p2).x = c.co := rfl
theorem Cn.b0i {c : Cn} (hok : c.Ok) {a1 : Option Addr} {p1 : Nat} {a2 : Option Addr} {p2 : Nat} {w : World} (h2 : Ints w a2 c.inn.length p2 c.inn) : Ints w (c.b0 a1 p1 a2 p2).i (c.of (c.b0 a1 p1 a2 p2).x).inn.length (c.b0 a1 p1 a2 p2).ki (c.of (c.b0 a1 p1 a2 p2).x).inn := by
 rw [show (c.of (c.b0 a1 p1 a2 p2).x).inn = c.inn by show (c.of c.co).inn = _; rw [hok.co_of]]; exact h2
theorem Cn.RunOk.sm {c : Cn} (hok : c.Ok) {l : List Po} {k : Nat} (h : c.RunOk l l.length) (hk : k ≤ l.length) : (c.runK l k).sm = c.co.sm := by
 have hw : c.Way ⟨l.take k, c.backK l k⟩ (c.runK l k) := Cn.RunOk.way (fun j hj => h j om0) hk
 exact (hw.in hok).2
theorem Cn.runK_take (c : Cn) (l : List Po) {k : Nat} (hk : k ≤ l.length) : ∀ j, j ≤ k → c.runK (l.take k) j = c.runK l j ∧ c.backK (l.take k) j = c.backK l j
 | 0, _ => ⟨rfl, rfl⟩
 | j + 1, h => by
  have ih := Cn.runK_take c l hk j om0
  have e : c.runK (l.take k) (j + 1) = c.runK l (j + 1) := by
   unfold Cn.runK
   rw [ih.1]
   congr 1
   simp [List.getD_eq_getElem?_getD, show j < k by omega]
  refine ⟨e, ?_⟩
  unfold Cn.backK
  rw [e, ih.1, ih.2]
theorem Cn.RunOk.take {c : Cn} {l : List Po} {k : Nat} (h : c.RunOk l l.length) (hk : k ≤ l.length) : c.RunOk (l.take k) (l.take k).length := fun j hj => by
 rw [List.length_take] at hj
 rw [(Cn.runK_take c l hk j om0).1, show (l.take k).getD j Po.z = l.getD j Po.z by simp [List.getD_eq_getElem?_getD, show j < k by omega]]
 exact h j om0
theorem Cn.runK_drop {c : Cn} (hok : c.Ok) {l : List Po} (h : c.RunOk l l.length) {k : Nat} (hk : k ≤ l.length) : ∀ j, k + j ≤ l.length → (c.of (c.runK l k)).runK (l.drop k) j = c.runK l (k + j) ∧ (c.of (c.runK l k)).backK (l.drop k) j + c.backK l k = c.backK l (k + j)
 | 0, _ => by
  have hin : c.In (c.runK l k) := hok.run_in fun j hj => h j om0
  refine ⟨hok.of_co hin, ?_⟩
  show (0 : Int) + _ = _
  rw [Int.zero_add]; rfl
 | j + 1, hj => by
  have ih := Cn.runK_drop hok h hk j om0
  have e : (c.of (c.runK l k)).runK (l.drop k) (j + 1) = c.runK l (k + (j + 1)) := by
   show (c.of (c.runK l k)).stp ((c.of (c.runK l k)).runK (l.drop k) j) ((l.drop k).getD j Po.z) = c.stp (c.runK l (k + j)) (l.getD (k + j) Po.z)
   rw [ih.1, show (l.drop k).getD j Po.z = l.getD (k + j) Po.z by simp [List.getD_eq_getElem?_getD]]
   rfl
  refine ⟨e, ?_⟩
  show (c.of (c.runK l k)).backK (l.drop k) j + bk ((c.of (c.runK l k)).runK (l.drop k) j) ((c.of (c.runK l k)).runK (l.drop k) (j + 1)) + c.backK l k = c.backK l (k + j) + bk (c.runK l (k + j)) (c.runK l (k + j + 1))
  rw [e, ih.1, ← ih.2, show k + (j + 1) = k + j + 1 from rfl]
  omega
theorem Cn.RunOk.drop {c : Cn} (hok : c.Ok) {l : List Po} {k : Nat} (h : c.RunOk l l.length) (hk : k ≤ l.length) : (c.of (c.runK l k)).RunOk (l.drop k) (l.drop k).length := fun j hj => by
 rw [List.length_drop] at hj
 rw [(Cn.runK_drop hok h hk j om0).1, show (l.drop k).getD j Po.z = l.getD (k + j) Po.z by simp [List.getD_eq_getElem?_getD]]
 exact h (k + j) om0
theorem PlayV.run {c : Cn} (hok : c.Ok) {l : List Po} (h : c.RunOk l l.length) {v : Value} {Hn : List Blk} (hv : PlayV c l v Hn) : ∃ v0, v = .tuple #[v0, .int .i64 (c.backK l l.length), .int .i64 0, .int .i64 0] ∧ TwinC (c.of (c.runK l l.length)) v0 Hn := by
 have hb : c.bad l = none := Cn.badK_none fun j _ hj => h j om0
 have hB := Cn.ok_iff.2 hok
 obtain ⟨v0, rfl, hT⟩ := hv
 unfold Cn.plC at hT
 unfold Cn.plB Cn.plA Cn.plE
 rw [if_pos hB, hb] at hT
 rw [if_pos hB, if_pos hB, if_pos hB, hb]
 exact ⟨v0, rfl, hT⟩
set_option maxRecDepth 100000
set_option maxHeartbeats 4000000
theorem AskA.un {o : Option Wy} {e : Int} {v : Value} {Hn : List Blk} (h : AskA e o v Hn) (he : e = 0) : ∃ a k, v = .tuple #[.slice a (fewL o).length k, .int .i64 (fewB o), .int .i64 (fewE o)] ∧ ∀ (C : Ctx) (H : List Blk) (u : World), Hn.Sublist H → St C H u → Pos u a (fewL o).length k (fewL o) := by
 subst he
 obtain ⟨v0, rfl, a, k, rfl, h⟩ := h
 exact ⟨a, k, rfl, h⟩
theorem Cn.lsE_in {c : Cn} (hok : c.Ok) {n : Int} (h : 0 ≤ n ∧ n ≤ 20) : c.lsE n = 0 := by
 unfold Cn.lsE
 rw [if_pos (Cn.ok_iff.2 hok), if_pos (inB1.2 h)]
theorem fewE_none {c : Cn} {n : Int} (hn : c.n ≤ 3) (h : ¬ c.mkP n) : fewE (c.few (c.someP n)) = 6 := by
 cases ho : c.few (c.someP n) with
 | none => rfl
 | some w => exact absurd ((Cn.few_mk hn).1 ⟨w, ho⟩) h
theorem fewE_some {c : Cn} {n : Int} (hn : c.n ≤ 3) (h : c.mkP n) : fewE (c.few (c.someP n)) = 0 := by
 obtain ⟨w, hw⟩ := (Cn.few_mk hn).2 h
 rw [hw]; rfl
end Go.Proofs.YtjekjehgmljbgaaGreatDoor.T
namespace Go.Eng
open Go.RowKit
section
variable {P : Program} {T E : TypeId}
structure Arr3 (P : Program) (T E : TypeId) : Prop where
 t : P.underlying T = some (.array 3 E)
 e : P.underlying E = some (.int .i64)
 agg : ∀ w, (isAgg E).run P w = .ok false w
 sz : ∀ w, (sizeOf E).run P w = .ok 1 w
def arr3 (a b c : Int) : Value := .agg #[.int .i64 a, .int .i64 b, .int .i64 c]
theorem part3 (h : Arr3 P T E) {l : Array Value} {i : Nat} {w : World} {v : Value} (hv : l[i]? = some v) : (part E l i).run P w = .ok v w := by
 unfold part
 simp [h.agg, hv]
theorem eq_arr3 (h : Arr3 P T E) {d : Nat} (a b c a' b' c' : Int) (w : World) :
  (Op.equalIn (d + 2) T (arr3 a b c) (arr3 a' b' c')).run P w = .ok (ieq a a' && ieq b b' && ieq c c') w := by
 have hE : ∀ w, (underlying E).run P w = .ok (.int .i64) w := run_underlying h.e
 have p0 : ∀ x y z w, (part E #[.int .i64 x, .int .i64 y, .int .i64 z] 0).run P w = .ok (.int .i64 x) w := fun _ _ _ _ => part3 h rfl
 have p1 : ∀ x y z w, (part E #[.int .i64 x, .int .i64 y, .int .i64 z] 1).run P w = .ok (.int .i64 y) w := fun _ _ _ _ => part3 h rfl
 have p2 : ∀ x y z w, (part E #[.int .i64 x, .int .i64 y, .int .i64 z] 2).run P w = .ok (.int .i64 z) w := fun _ _ _ _ => part3 h rfl
 have q : ∀ x y w, (Op.equalIn (d + 1) E (.int .i64 x) (.int .i64 y)).run P w = .ok (ieq x y) w := fun x y w => eq_int hE w
 rw [Op.equalIn.eq_def]
 unfold arr3
 simp only [Sem.run_bind, run_underlying h.t, Result.andThen, h.sz]
 simp only [Std.Legacy.Range.forIn_eq_forIn_range', Std.Legacy.Range.size, Nat.sub_zero, Nat.add_sub_cancel, Nat.div_one, List.range'_succ, List.range'_zero, List.forIn_cons, List.forIn_nil, Nat.mul_one, Nat.zero_add, Nat.reduceAdd]
 simp only [Sem.run_bind, p0, p1, p2, q, Result.andThen]
 by_cases h0 : ieq a a' = true <;> by_cases h1 : ieq b b' = true <;> by_cases h2 : ieq c c' = true
 all_goals simp_all [Result.andThen]
theorem chk_arr3 (h : Arr3 P T E) (em : Bool) {d : Nat} (a b c : Int) (w : World) : (Instr.checkKey em (d + 2) T (arr3 a b c)).run P w = .ok () w := by
 have p0 : ∀ x y z w, (part E #[.int .i64 x, .int .i64 y, .int .i64 z] 0).run P w = .ok (.int .i64 x) w := fun _ _ _ _ => part3 h rfl
 have p1 : ∀ x y z w, (part E #[.int .i64 x, .int .i64 y, .int .i64 z] 1).run P w = .ok (.int .i64 y) w := fun _ _ _ _ => part3 h rfl
 have p2 : ∀ x y z w, (part E #[.int .i64 x, .int .i64 y, .int .i64 z] 2).run P w = .ok (.int .i64 z) w := fun _ _ _ _ => part3 h rfl
 have q : ∀ x w, (Instr.checkKey em (d + 1) E (.int .i64 x)).run P w = .ok () w := fun x w => by
  rw [Instr.checkKey.eq_def]
  simp only [Sem.run_bind, run_underlying h.e, Result.andThen]
  rfl
 rw [Instr.checkKey.eq_def]
 unfold arr3
 simp only [Sem.run_bind, run_underlying h.t, Result.andThen]
 simp only [Std.Legacy.Range.forIn_eq_forIn_range', Std.Legacy.Range.size, Nat.sub_zero, Nat.add_sub_cancel, Nat.div_one, List.range'_succ, List.range'_zero, List.forIn_cons, List.forIn_nil, Nat.zero_add, Nat.reduceAdd]
 simp [Sem.run_bind, h.sz, p0, p1, p2, q, Result.andThen]
theorem bits_arr3 (a b c : Int) : Instr.sameBits 10000 (arr3 a b c) (arr3 a b c) = true := by
 unfold arr3
 rw [Instr.sameBits.eq_def]
 simp [Instr.sameBits]
theorem keyOk3 {K : Type} [DecidableEq K] (h : Arr3 P T E) {enc : K → Value} (g : Nat → K → Int) (he : ∀ x, enc x = arr3 (g 0 x) (g 1 x) (g 2 x)) (hi : ∀ x y, g 0 x = g 0 y → g 1 x = g 1 y → g 2 x = g 2 y → x = y) : KeyOk P T enc where
 now := ⟨_, h.t, fun a b => by rw [he, he]; rfl⟩
 eq := fun x y w => by
  rw [he, he]
  unfold Op.equal Op.maxDepth
  rw [eq_arr3 h]
  congr 1
  rw [Bool.eq_iff_iff]
  simp only [Bool.and_eq_true, ieq_iff, decide_eq_true_eq]
  constructor
  ·rintro ⟨⟨h0, h1⟩, h2⟩; exact hi x y h0 h1 h2
  ·rintro rfl; exact ⟨⟨rfl, rfl⟩, rfl⟩
 chk := fun b x w => by rw [he]; exact chk_arr3 h b _ _ _ w
 bits := fun x => by rw [he]; exact bits_arr3 _ _ _
end
end Go.Eng
namespace Go.Proofs.YtjekjehgmljbgaaGreatDoor.T
open Go.RowKit Go.Proofs Go.Eng
set_option maxRecDepth 100000
set_option maxHeartbeats 4000000
theorem nodup_sub_len {α : Type} [DecidableEq α] : ∀ {l m : List α}, l.Nodup → (∀ x ∈ l, x ∈ m) → l.length ≤ m.length := by
 intro l
 induction l with
 | nil => intro m _ _; exact Nat.zero_le _
 | cons x l ih =>
  intro m hl hs
  rw [List.nodup_cons] at hl
  have hxm := hs x List.mem_cons_self
  have h := ih (m := m.erase x) hl.2 fun y hy => by
   have hne : y ≠ x := fun e => hl.1 (e ▸ hy)
   exact (List.mem_erase_of_ne hne).2 (hs y (List.mem_cons_of_mem _ hy))
  rw [List.length_erase_of_mem hxm] at h
  have := List.length_pos_of_mem hxm
  simp only [List.length_cons]
  omega
abbrev K3 := Int × Int × Int
def enc3 (k : K3) : Value := .agg #[.int .i64 k.1, .int .i64 k.2.1, .int .i64 k.2.2]
theorem key3 : KeyOk Tryz.prog 38 enc3 :=
 keyOk3 (E := 3) ⟨Tryz.underlying38, Tryz.underlying3, Tryz.isAgg3, Tryz.sizeOf3⟩ (fun n k => if n = 0 then k.1 else if n = 1 then k.2.1 else k.2.2) (fun x => rfl) fun x y h0 h1 h2 => by
  obtain ⟨a, b, c⟩ := x
  obtain ⟨a', b', c'⟩ := y
  have e0 : a = a' := h0
  have e1 : b = b' := h1
  have e2 : c = c' := h2
  rw [e0, e1, e2]
def Co.k3 (x : Co) : K3 := (x.b, x.c, x.d)
def kvL (x : Co) (j : Nat) : List Int := (List.range 3).map fun t => if t < j then x.g (t + 1) else 0
theorem kvL_len (x : Co) (j : Nat) : (kvL x j).length = 3 := by simp [kvL]
theorem kvL_succ (x : Co) {j : Nat} (h : j < 3) : (kvL x j).set j (x.g (j + 1)) = kvL x (j + 1) := by
 apply List.ext_getElem
 ·simp [kvL]
 ·intro i h1 h2
  rw [List.getElem_set]
  simp only [kvL, List.getElem_map, List.getElem_range]
  by_cases e : j = i
  ·subst e; rw [if_pos rfl, if_pos om0]
  ·rw [if_neg e]
   by_cases e2 : i < j
   ·rw [if_pos e2, if_pos om0]
   ·rw [if_neg e2, if_neg om0]
theorem Cn.In.kvL {c : Cn} {x : Co} (h : c.In x) (h3 : c.n ≤ 3) : kvL x c.n = [x.b, x.c, x.d] := by
 have key : ∀ t, t < 3 → (if t < c.n then x.g (t + 1) else 0) = x.g (t + 1) := fun t ht => by
  by_cases e : t < c.n
  ·rw [if_pos e]
  ·rw [if_neg e, h.z (t + 1) om0 om0]
 have k0 : (if 0 < c.n then x.g 1 else 0) = x.g 1 := key 0 dc
 have k1 : (if 1 < c.n then x.g 2 else 0) = x.g 2 := key 1 dc
 have k2 : (if 2 < c.n then x.g 3 else 0) = x.g 3 := key 2 dc
 show [if 0 < c.n then x.g 1 else 0, if 1 < c.n then x.g 2 else 0, if 2 < c.n then x.g 3 else 0] = _
 rw [k0, k1, k2]
 rfl
def Cn.bck (c : Cn) (k : K3) : Co := ⟨c.co.sm - k.1 - k.2.1 - k.2.2, k.1, k.2.1, k.2.2⟩
theorem Cn.bck_k3 {c : Cn} {x : Co} (h : x.sm = c.co.sm) : c.bck x.k3 = x := by
 obtain ⟨a, b, d, e⟩ := x
 have h' : a + b + d + e = c.co.sm := h
 unfold Cn.bck Co.k3
 simp only [Co.mk.injEq, and_true]
 omega
theorem Cn.bck_inj {c : Cn} {k k' : K3} (h : c.bck k = c.bck k') : k = k' := by
 obtain ⟨a, b, d⟩ := k
 obtain ⟨a', b', d'⟩ := k'
 unfold Cn.bck at h
 simp only [Co.mk.injEq] at h
 simp only [Prod.mk.injEq]
 exact h.2
def dig (n : Nat) : K3 := (((n / 441 : Nat) : Int), ((n / 21 % 21 : Nat) : Int), ((n % 21 : Nat) : Int))
open Classical in
theorem Cn.all_ex {c : Cn} (hok : c.Ok) : ∃ L, c.IsAll L := by
 refine ⟨((List.range 9261).map fun n => c.bck (dig n)).filter fun y => decide (∃ w, c.Best w y), List.nodup_iff_pairwise_ne.2 (List.Pairwise.filter _ ?_), fun y => ?_⟩
 ·rw [List.pairwise_map]
  refine List.pairwise_lt_range.imp_of_mem fun {i j} hi hj hij he => ?_
  have h := Cn.bck_inj he
  unfold dig at h
  simp only [Prod.mk.injEq] at h
  have hi := List.mem_range.1 hi
  have hj := List.mem_range.1 hj
  omega
 ·rw [List.mem_filter, decide_eq_true_eq]
  refine ⟨fun h => h.2, fun ⟨w, hw⟩ => ⟨?_, w, hw⟩⟩
  obtain ⟨hin, hsm⟩ := hw.way.in hok
  have hb : 0 ≤ y.b ∧ y.b ≤ 20 := hin.bd hok (k := 1) dc dc
  have hc : 0 ≤ y.c ∧ y.c ≤ 20 := hin.bd hok (k := 2) dc dc
  have hd : 0 ≤ y.d ∧ y.d ≤ 20 := hin.bd hok (k := 3) dc dc
  refine List.mem_map.2 ⟨(y.b.toNat * 21 + y.c.toNat) * 21 + y.d.toNat, List.mem_range.2 om0, ?_⟩
  have e : dig ((y.b.toNat * 21 + y.c.toNat) * 21 + y.d.toNat) = y.k3 := by
   unfold dig Co.k3
   simp only [Prod.mk.injEq]
   omega
  rw [e, Cn.bck_k3 hsm]
theorem Cn.many_ge {c : Cn} (hok : c.Ok) {M : List Co} (hn : M.Nodup) (h : ∀ y ∈ M, ∃ w, c.Best w y) : M.length ≤ c.many := by
 obtain ⟨L, hL⟩ := Cn.all_ex hok
 rw [hL.len]
 exact nodup_sub_len hn fun y hy => (hL.2 y).2 (h y hy)
theorem Cn.RunOk.best {c : Cn} (hok : c.Ok) {l : List Po} {k : Nat} (h : c.RunOk l l.length) (hk : k ≤ l.length) : ∃ w, c.Best w (c.runK l k) :=
 Cn.Way.best hok.n3 (Cn.RunOk.way (fun j hj => h j om0) hk)
structure SeenI (c : Cn) (ps : List Po) (l : List (EntK K3)) (cl : Nat) : Prop where
 good : GoodM l cl
 of : ∀ e ∈ l, ∃ k, k ≤ ps.length ∧ e.1 = (c.runK ps k).k3
theorem SeenI.put {c : Cn} {ps : List Po} {l : List (EntK K3)} {cl : Nat} (h : SeenI c ps l cl) {k : Nat} (hk : k ≤ ps.length) {x : Co} (hx : x = c.runK ps k) (v : Value) : SeenI c ps (putL x.k3 v l cl) (putC x.k3 l cl) :=
 ⟨h.good.put _ _, fun e he => by
  rcases mem_putL he with ⟨e1, _⟩ | ⟨h1, _⟩ | ⟨h1, _⟩
  ·exact ⟨k, hk, by rw [e1, hx]⟩
  ·exact h.of e h1
  ·exact h.of e h1⟩
theorem SeenI.len {c : Cn} (hok : c.Ok) {ps : List Po} (hr : c.RunOk ps ps.length) {l : List (EntK K3)} {cl : Nat} (h : SeenI c ps l cl) : l.length ≤ c.many := by
 have := Cn.many_ge hok (M := (l.map (·.1)).map c.bck) (by
  rw [List.nodup_iff_pairwise_ne, List.pairwise_map]
  have := List.nodup_iff_pairwise_ne.1 h.good.keys
  exact this.imp fun hne he => hne (Cn.bck_inj he)) fun y hy => by
  obtain ⟨k3, hk3, rfl⟩ := List.mem_map.1 hy
  obtain ⟨e, he, rfl⟩ := List.mem_map.1 hk3
  obtain ⟨k, hk, hek⟩ := h.of e he
  rw [hek, Cn.bck_k3 (hr.sm hok hk)]
  exact hr.best hok hk
 simpa using this
theorem Bl.adr {c : Cn} {b B0 : Bl} {HX : List Blk} {w : World} (h : b = B0 ∨ b.RdH c HX) (h2 : Ints w B0.i (c.of B0.x).inn.length B0.ki (c.of B0.x).inn) (h0 : 0 < (c.of b.x).inn.length) : ∃ bb o, b.i = some ⟨bb, o, none⟩ := by
 rcases h with rfl | h
 ·obtain ⟨bb, o, e, _⟩ := h2.cell 0 h0
  exact ⟨bb, o, e⟩
 ·rcases h.oi with h | ⟨bb, vs, e, _⟩
  ·omega
  ·exact ⟨bb, 0, e⟩
theorem Cn.mk_run {c : Cn} (hok : c.Ok) {ps : List Po} (hr : c.RunOk ps ps.length) {k j : Nat} (hk : k ≤ ps.length) (hj : j < c.n) : (c.of (c.runK ps k)).inn.getD j 0 ∈ c.madeL := by
 obtain ⟨w, hw⟩ := hr.best hok hk
 refine (Cn.madeL_mem hok).2 ⟨w, _, hw, ?_⟩
 rw [List.getD_eq_getElem?_getD, List.getElem?_eq_getElem (by rw [c.of_len _ hok.n3]; exact hj)]
 exact List.getElem_mem _
theorem Cn.fewM {c : Cn} (hok : c.Ok) {n : Int} (h : c.mkP n) : ∃ w, c.few (c.someP n) = some w ∧ c.RunOk w.l w.l.length ∧ n ∈ (c.of (c.runK w.l w.l.length)).inn ∧ c.backK w.l w.l.length = w.back ∧ w.l.length ≤ 9260 := by
 obtain ⟨w, hw⟩ := (Cn.few_mk hok.n3).2 h
 obtain ⟨y, h1, h2⟩ := Cn.few_way hw
 obtain ⟨h3, h4, h5⟩ := h2.way.ok
 exact ⟨w, hw, h3, by rw [h4]; exact Cn.someP_iff.1 h1, h5, h2.len hok⟩
theorem canMeasured_any (c : Cn) (a1 : Option Addr) (p1 : Nat) (a2 : Option Addr) (p2 : Nat) (ba : Option Addr) (bn bcap : Nat) (by_ : List Int) (x : Nat) (w : World) (hG : Gv w) (hx : x ≤ 255) (h1 : Ints w a1 c.n p1 c.sz) (h2 : Ints w a2 c.inn.length p2 c.inn) (hby : U4s w ba bn bcap by_) : Ct Tryz.prog 3 #[.agg #[.slice a1 c.n p1, .slice a2 c.inn.length p2, .int .i64 c.st], .slice ba bn bcap, .int .u8 (x : Int)] w fun v _ => v = .bool true := by
 have hF := wide_wide
 refine Ct_start (args := [_, _, _]) Tryz.func3 rf Tryz.ntmps3 rf ?_
 refine zR fun ds => ?_
 refine WS_new hF rf (y_box rf) (fun b1 => ?_)
 refine za (.bool _) hF ?_
 refine zP fun ds => ?_
 refine zD hF (y_callL rf rf Tryz.call13 (fun w hw => calive_any w (hG.st w hw))) ?_
 refine za (.bool _) hF ?_
 refine zO ?_
 refine zR fun ds => ?_
 refine zD hF (y_loadN rf Tryz.isAgg24 Tryz.sizeOf24 (Mem.own (us := [.slice _ _ _, .slice _ _ _, .int .i64 _]) 0 rf rf) rf) ?_
 refine zD hF (y_callL rf rf Tryz.call14 (fun w hw => lrdy_any c a1 p1 a2 p2 w (h1.st w hw) (h2.st w hw))) ?_
 refine zD hF (y_not rf) ?_
 refine zm (.bool _) hF ?_
 refine WS_split 36 rf (fun g2_3 => ?_) (fun g2_3 => ?_)
 ·
  try simp only [qz1, qz2, qz3, qz4, qz5, qz6, qz7, qz8] at g2_3
  refine zno hF ?_
  refine zno hF ?_
  refine zD hF (zpk (.bool _)) ?_
  refine zN ?_
  refine W_cond rf (fun c2 => ?_) (fun c2 => ?_)
  ·
   try simp only [qz1, qz2, qz3, qz4, qz5, qz6, qz7, qz8] at c2
   refine zR fun ds => ?_
   refine zm (.bool _) hF ?_
   refine za (.bool _) hF ?_
   refine zN ?_
   refine W_ret ?_
   refine Then_ret ?_
   refine Fin_ret [.bool _] [] Tryz.results3 ⟨by rfl, trivial⟩ HSub.nil ?_
   rfl
  ·cases c2
 ·
  try simp only [qz1, qz2, qz3, qz4, qz5, qz6, qz7, qz8] at g2_3
  have hokB : c.okB = true := by simpa using g2_3
  have hok := Cn.ok_iff.1 hokB
  have hn1 := hok.n1
  have hn3 := hok.n3
  have hlen := hok.len
  have hn : c.n ≤ 1000000 := by omega
  have hm : c.inn.length ≤ 1000000 := by omega
  have hB2 := Cn.b0i hok (a1 := a1) (p1 := p1) h2
  have hml := c.madeL_len
  have hmp := Cn.made_pos hok
  have herr := Cn.err_iff.2 hokB
  have hm1 : 1 ≤ c.many := Cn.many_ge hok (M := [c.co]) (by simp) fun y hy => by
   rw [List.mem_singleton] at hy
   subst hy
   exact ⟨_, ((Cn.lv_zero (c := c)).2 ⟨rfl, rfl⟩).1⟩
  have hma : c.maN = (c.many : Int) := by unfold Cn.maN; rw [if_pos hokB]
  refine zm (.bool _) hF ?_
  refine zD hF (y_not rf) ?_
  refine zD hF (zpk (.bool _)) ?_
  refine zN ?_
  refine W_cond rf (fun c2 => ?_) (fun c2 => ?_)
  ·cases c2
  ·
   try simp only [qz1, qz2, qz3, qz4, qz5, qz6, qz7, qz8] at c2
   refine W_skip ?_
   refine zS fun ds => ?_
   refine zD hF (y_loadN rf Tryz.isAgg24 Tryz.sizeOf24 (Mem.own (us := [.slice _ _ _, .slice _ _ _, .int .i64 _]) 0 rf rf) rf) ?_
   refine WS_gen hF rf (y_callL rf rf Tryz.call15 (fun w hw => made_any c a1 p1 a2 p2 w (hG.st w hw) hn hm (h1.st w hw) (h2.st w hw))) ?_
   rintro _ Hm ⟨ma, mc, rfl, hm9⟩
   rw [show c.mdL = c.madeL by unfold Cn.mdL; rw [if_pos hokB]] at hm9 ⊢
   rw [herr]
   obtain ⟨bm, rfl⟩ := NewRow.adr hm9 om0
   refine WS_back ?_
   refine zm (.tuple _) hF ?_
   refine zD hF (y_extract (c := .slice _ _ _) rf rf) ?_
   refine zD hF (y_extract (c := .int .i64 _) rf rf) ?_
   refine za (.slice _ _ _) hF ?_
   refine za (.int .i64 _) hF ?_
   refine zP fun ds => ?_
   refine zD hF (y_loadN rf Tryz.isAgg24 Tryz.sizeOf24 (Mem.own (us := [.slice _ _ _, .slice _ _ _, .int .i64 _]) 0 rf rf) rf) ?_
   refine zD hF (y_callL rf rf Tryz.call16 (fun w hw => Ct_eq (many_any c a1 p1 a2 p2 w (hG.st w hw) hn hm (h1.st w hw) (h2.st w hw)) (show _ = Value.tuple #[.int .i64 (c.many : Int), .int .i64 0] by rw [hma, herr]))) ?_
   refine zm (.tuple _) hF ?_
   refine zD hF (y_extract (c := .int .i64 _) rf rf) ?_
   refine zD hF (y_extract (c := .int .i64 _) rf rf) ?_
   refine za (.int .i64 _) hF ?_
   refine za (.int .i64 _) hF ?_
   refine zO ?_
   refine zR fun ds => ?_
   refine zm (.int .i64 _) hF ?_
   refine zD hF (YD_no (y_neq rf rf) dect) ?_
   refine zm (.bool _) hF ?_
   refine zm (.int .i64 _) hF ?_
   refine zD hF (YD_no (y_neq rf rf) dect) ?_
   refine zD hF (zpk (.bool _)) ?_
   refine zm (.bool _) hF ?_
   refine zm (.int .i64 _) hF ?_
   refine zD hF (YD_no (y_lss rf rf) dect) ?_
   refine zD hF (zpk (.bool _)) ?_
   refine zm (.bool _) hF ?_
   refine zm (.slice _ _ _) hF ?_
   refine zD hF (y_len rf Tryz.runUnderlying22) ?_
   refine zD hF (YD_no (y_eql rf rf) dect) ?_
   refine zD hF (zpk (.bool _)) ?_
   refine zN ?_
   refine W_cond rf (fun c6 => ?_) (fun c6 => ?_)
   ·cases c6
   ·
    try simp only [qz1, qz2, qz3, qz4, qz5, qz6, qz7, qz8] at c6
    refine W_skip ?_
    refine zS fun ds => ?_
    refine WS_gen hF rf (y_makeMapK enc3) ?_
    rintro _ _ ⟨mo, rfl, rfl⟩
    refine za (.map _) hF ?_
    refine zP fun ds => ?_
    refine zD hF (y_loadN rf Tryz.isAgg24 Tryz.sizeOf24 (Mem.own (us := [.slice _ _ _, .slice _ _ _, .int .i64 _]) 1 rf rf) rf) ?_
    refine zm (.slice _ _ _) hF ?_
    refine WS_gen hF rf (y_callL rf rf Tryz.call17 (fun w hw => lwalk_any c a1 p1 a2 p2 ba bn bcap by_ 20 w hok hn hm (h1.st w hw) (h2.st w hw) om0 (hby.st w hw))) ?_
    rintro _ _ ⟨ps, bs, aA, kA, HA, aL, kL, HL, HX, rfl, hpl, hS, rfl⟩
    obtain ⟨br, rfl⟩ := NewRow.adr hS.rowA (by simp)
    have hBl := hS.len
    have hcl : (c.b0 a1 p1 a2 p2 :: bs).length = bs.length + 1 := rfl
    refine WS_back ?_
    refine zm (.tuple _) hF ?_
    refine zD hF (y_extract (c := .slice _ _ _) rf rf) ?_
    refine zD hF (y_extract (c := .slice _ _ _) rf rf) ?_
    refine za (.slice _ _ _) hF ?_
    refine za (.slice _ _ _) hF ?_
    refine zO ?_
    refine zR fun ds => ?_
    refine zm (.slice _ _ _) hF ?_
    refine zD hF (y_len rf Tryz.runUnderlying34) ?_
    refine zm (.int .i64 _) hF ?_
    refine zN ?_
    refine W_block ?_
    refine W_loop (γ := Nat × List (EntK K3) × Nat) (fun q => q.1 ≤ bs.length + 1 ∧ SeenI c ps q.2.1 q.2.2) (fun q => [(2, .int .u8 (x : Int)), (3, .pointer (some ⟨b1, 0, none⟩)), (7, .bool true), (8, .slice (some ⟨bm, 0, none⟩) c.madeL.length mc), (10, .int .i64 (c.many : Int)), (12, .map (some mo)), (73, .slice (some ⟨br, 0, none⟩) (c.b0 a1 p1 a2 p2 :: bs).length kA), (74, .int .i64 ((c.b0 a1 p1 a2 p2 :: bs).length : Int)), (75, .int .i64 (q.1 : Int))]) (fun q => (mo, MK enc3 q.2.1 q.2.2) :: (b1, CB [.slice a1 c.n p1, .slice a2 c.inn.length p2, .int .i64 c.st] 24) :: (Hm ++ (HX ++ (HA ++ HL)))) (fun q => bs.length + 1 - q.1) ((0, [], 0)) ⟨Nat.zero_le _, ⟨GoodM.nil, fun e he => (by cases he)⟩⟩ s10 ((by (try simp only [List.append_eq]); exact sbA)) ?_
    rintro ⟨i, l, cl⟩ e ⟨(hi : i ≤ bs.length + 1), (hI : SeenI c ps l cl)⟩
    refine zR fun ds => ?_
    refine zD hF (y_lss rf rf) ?_
    refine zO ?_
    refine W_cond rf (fun c11 => ?_) (fun c11 => ?_)
    ·
     try simp only [qz1, qz2, qz3, qz4, qz5, qz6, qz7, qz8] at c11
     have hil : i ≤ bs.length := by omega
     obtain ⟨y, hy, hyx, hyr⟩ := hS.get (c.b0x a1 p1 a2 p2) (k := i) hil
     have hin : c.In y.x := by rw [hyx]; exact hok.run_in fun j hj => hS.run j om0
     have hyl := c.of_len y.x hn3
     obtain ⟨bi, oi, hyi⟩ := Bl.adr hyr hB2 om0
     refine zU ?_
     refine W_seq ?_
     refine W_block ?_
     refine zR fun ds => ?_
     refine zD hF (y_index (k := i) rf rf r10 d10 Tryz.runUnderlying34 Tryz.sizeOf24) ?_
     refine zD hF (y_loadN rf Tryz.isAgg24 Tryz.sizeOf24 (hS.cell hil hy sbA) rf) ?_
     refine WS_new hF rf (y_alloc Tryz.zeroValue24 rf) (fun bx => ?_)
     refine WS_store hF (us := [.slice _ _ _, .slice _ _ _, .int .i64 _]) (i := 0) rf rf Tryz.sizeOf24 rf rf rf d20 ?_
     refine zP fun ds => ?_
     refine WS_new hF rf (y_alloc Tryz.zeroValue38 rf) (fun bk => ?_)
     refine zO ?_
     refine zR fun ds => ?_
     refine zD hF (y_fieldAddr rf fa24_1) ?_
     refine zD hF (y_load1 rf Tryz.isAgg22 (Mem.own1 1 rf rf)) ?_
     refine zD hF (y_len rf Tryz.runUnderlying22) ?_
     refine zm (.int .i64 _) hF ?_
     refine zN ?_
     refine W_block ?_
     refine W_loop (γ := Nat) (fun j => j ≤ c.n) (fun j => [(2, .int .u8 (x : Int)), (3, .pointer (some ⟨b1, 0, none⟩)), (7, .bool true), (8, .slice (some ⟨bm, 0, none⟩) c.madeL.length mc), (10, .int .i64 (c.many : Int)), (12, .map (some mo)), (73, .slice (some ⟨br, 0, none⟩) (c.b0 a1 p1 a2 p2 :: bs).length kA), (74, .int .i64 ((c.b0 a1 p1 a2 p2 :: bs).length : Int)), (75, .int .i64 (i : Int)), (17, .pointer (some ⟨bk, 0, none⟩)), (80, .slice y.i (c.of y.x).inn.length y.ki), (81, .int .i64 ((c.of y.x).inn.length : Int)), (82, .int .i64 (j : Int))]) (fun j => (bk, CB (iv (kvL y.x j) ++ []) 38) :: (mo, MK enc3 l cl) :: (b1, CB [.slice a1 c.n p1, .slice a2 c.inn.length p2, .int .i64 c.st] 24) :: (Hm ++ (HX ++ (HA ++ HL)))) (fun j => c.n - j) (0) (Nat.zero_le _) s10 (sbA) ?_
     rintro j e hj
     refine zR fun ds => ?_
     refine zD hF (y_lss rf rf) ?_
     refine zO ?_
     refine W_cond rf (fun c15 => ?_) (fun c15 => ?_)
     ·
      try simp only [qz1, qz2, qz3, qz4, qz5, qz6, qz7, qz8] at c15
      have hjn : j < c.n := by omega
      have hgj := c.of_i y.x j hjn hn3
      change (c.of y.x).inn.getD j 0 = y.x.g (j + 1) at hgj
      refine zU ?_
      refine W_seq ?_
      refine W_block ?_
      refine W_seq ?_
      rw [hyi]
      refine W_region_lit (fun ds => ?_)
      refine zm (.int .i64 _) hF ?_
      refine zD hF (y_index (k := j) rf rf r10 d10 Tryz.runUnderlying22 Tryz.sizeOf3) ?_
      refine zD hF (y_load1 rf Tryz.isAgg3 (fun w hw => by have h := (Bl.ints hyr h1 hB2 sbA w hw).2; rw [hyi] at h; have h := h.at (k := j) om0; rw [hgj] at h; exact h)) ?_
      refine za (.int .i64 _) hF ?_
      refine za (.int .i64 _) hF ?_
      refine zP fun ds => ?_
      refine zm (.int .i64 _) hF ?_
      refine zm (.int .i64 _) hF ?_
      refine zD hF (y_indexA (k := j) rf rf r10 d10 Tryz.runUnderlying38 Tryz.sizeOf3) ?_
      refine WS_store hF (us := [.int .i64 _]) (i := 0) rf rf Tryz.sizeOf3 rf rf rf (fit_iv (by rw [kvL_len]; omega)) ?_
      refine zO ?_
      rw [splice_iv _ _ _ _ (by rw [kvL_len]; omega), kvL_succ _ om0]
      refine W_region_lit (fun ds => ?_)
      refine zm (.slice _ _ _) hF ?_
      refine zm (.int .i64 _) hF ?_
      refine zD hF (y_callL rf rf Tryz.call18 (fun w hw => Ct_eq (lhas_any _ _ mc c.madeL (y.x.g (j + 1)) w om0 (NewRow.ints hm9 rfl sbA w hw)) (show Value.bool (decide (y.x.g (j + 1) ∈ c.madeL)) = .bool true by rw [decide_eq_true]; rw [← hgj, hyx]; exact Cn.mk_run hok hS.run om0 hjn))) ?_
      refine zD hF (y_not rf) ?_
      refine zN ?_
      refine W_cond rf (fun c18 => ?_) (fun c18 => ?_)
      ·cases c18
      ·
       try simp only [qz1, qz2, qz3, qz4, qz5, qz6, qz7, qz8] at c18
       refine W_skip ?_
       refine InB_normal ?_
       refine Then_normal ?_
       rw [← hyi]
       refine W_region_lit (fun ds => ?_)
       refine zD hF (y_add rf rf ui) ?_
       refine zm (.int .i64 _) hF ?_
       refine WS_nil ?_
       exact Loop_next (j + 1) om0 s10 sbA om0
     ·
      try simp only [qz1, qz2, qz3, qz4, qz5, qz6, qz7, qz8] at c15
      obtain rfl : j = c.n := by omega
      refine W_exit ?_
      refine Then_exit ?_
      refine Loop_exit ?_
      refine InB_same ?_
      refine Then_normal ?_
      rw [hin.kvL hn3]
      refine W_region_lit (fun ds => ?_)
      refine zm (.map _) hF ?_
      refine zD hF (y_loadN rf Tryz.isAgg38 Tryz.sizeOf38 (Mem.own (us := [.int .i64 _, .int .i64 _, .int .i64 _]) 0 rf rf) rf) ?_
      refine WS_mapUpdK hF (enc := enc3) (k := y.x.k3) (u := .bool true) (i := 1) key3 rf rf rf Tryz.underlying33 rf ?_
      refine WS_nil ?_
      refine InB_normal ?_
      refine zT fun ds => ?_
      refine zD hF (y_add rf rf ui) ?_
      refine zm (.int .i64 _) hF ?_
      refine WS_nil ?_
      exact Loop_next (i + 1, putL y.x.k3 (.bool true) l cl, putC y.x.k3 l cl) ⟨by simp only; omega, hI.put om0 hyx _⟩ s10 sbA (by simp only; omega)
    ·
     try simp only [qz1, qz2, qz3, qz4, qz5, qz6, qz7, qz8] at c11
     refine W_exit ?_
     refine Then_exit ?_
     refine Loop_exit ?_
     refine InB_same ?_
     refine Then_normal ?_
     refine W_seq ?_
     refine W_seq ?_
     have hle := hI.len hok hS.run
     refine W_region_lit (fun ds => ?_)
     refine zm (.map _) hF ?_
     refine zD hF (y_lenK (enc := enc3) (i := 0) rf Tryz.underlying33 rf) ?_
     refine zm (.int .i64 _) hF ?_
     refine zD hF (YD_no (y_gtr rf rf) dect) ?_
     refine zN ?_
     refine W_cond rf (fun c23 => ?_) (fun c23 => ?_)
     ·cases c23
     ·
      try simp only [qz1, qz2, qz3, qz4, qz5, qz6, qz7, qz8] at c23
      refine zU ?_
      refine W_seq ?_
      refine zR fun ds => ?_
      refine zm (.slice _ _ _) hF ?_
      refine zD hF (y_len rf Tryz.runUnderlying22) ?_
      refine zm (.int .i64 _) hF ?_
      refine zN ?_
      refine W_block ?_
      refine W_loop (γ := Nat) (fun i => i ≤ c.madeL.length) (fun i => [(2, .int .u8 (x : Int)), (3, .pointer (some ⟨b1, 0, none⟩)), (7, .bool true), (8, .slice (some ⟨bm, 0, none⟩) c.madeL.length mc), (103, .int .i64 (c.madeL.length : Int)), (104, .int .i64 (i : Int))]) (fun i => (b1, CB [.slice a1 c.n p1, .slice a2 c.inn.length p2, .int .i64 c.st] 24) :: Hm) (fun i => c.madeL.length - i) (0) (Nat.zero_le _) s10 (sbA) ?_
      rintro i e hi
      refine zR fun ds => ?_
      refine zD hF (y_lss rf rf) ?_
      refine zO ?_
      refine W_cond rf (fun c26 => ?_) (fun c26 => ?_)
      ·
       try simp only [qz1, qz2, qz3, qz4, qz5, qz6, qz7, qz8] at c26
       have hil : i < c.madeL.length := by omega
       have hmb := Cn.mkP_bd hok (Cn.made_at hok hil)
       refine zU ?_
       refine W_seq ?_
       refine W_block ?_
       refine zR fun ds => ?_
       refine zm (.int .i64 _) hF ?_
       refine za (.int .i64 _) hF ?_
       refine zO ?_
       refine W_draw0 hF Tryzmixed [] dk0 (fun ds => ?_)
       refine P_det rf (Over_nil (y_move (c := .int .i64 _) rf)) ?_
       refine P_det rf (Over_nil (y_gtr rf rf)) ?_
       refine P_det rf (Over_nil (y_move (c := .bool _) rf)) ?_
       refine P_split 109 rf (fun g28_2 => ?_) (fun g28_2 => ?_)
       ·
        try simp only [qz1, qz2, qz3, qz4, qz5, qz6, qz7, qz8] at g28_2
        obtain ⟨i, rfl⟩ : ∃ j, i = j + 1 := ⟨i - 1, by omega⟩
        have hlt : c.madeL.getD i 0 < c.madeL.getD (i + 1) 0 := by
         have hp := List.pairwise_iff_getElem.1 c.madeL_lt i (i + 1) om0 hil om0
         rw [List.getD_eq_getElem?_getD, List.getD_eq_getElem?_getD, List.getElem?_eq_getElem om0, List.getElem?_eq_getElem hil]
         exact hp
        refine P_det rf (Over_nil (y_move (c := .slice _ _ _) rf)) ?_
        refine P_det rf (Over_nil (y_move (c := .int .i64 _) rf)) ?_
        refine P_det rf (Over_nil (y_sub rf rf ui)) ?_
        refine P_det rf (Over_nil (y_index (k := i) rf rf r10 d10 Tryz.runUnderlying22 Tryz.sizeOf3)) ?_
        refine P_det rf (Over_nil (y_load1 rf Tryz.isAgg3 (fun w hw => (NewRow.ints hm9 rfl sbA w hw).at (k := i) om0))) ?_
        refine P_det rf (Over_nil (y_move (c := .slice _ _ _) rf)) ?_
        refine P_det rf (Over_nil (y_move (c := .int .i64 _) rf)) ?_
        refine P_det rf (Over_nil (y_index (k := i + 1) rf rf r10 d10 Tryz.runUnderlying22 Tryz.sizeOf3)) ?_
        refine P_det rf (Over_nil (y_load1 rf Tryz.isAgg3 (fun w hw => (NewRow.ints hm9 rfl sbA w hw).at (k := i + 1) om0))) ?_
        refine P_det rf (Over_nil (YD_no (y_geq rf rf) dect)) ?_
        refine P_det rf (Over_nil (by first | exact y_pick_t (c := .bool _) rf rf | exact y_pick_f (c := .bool _) rf rf)) ?_
        refine P_det rf (Over_nil (y_move (c := .bool _) rf)) ?_
        refine P_det rf (Over_nil (y_move (c := .slice _ _ _) rf)) ?_
        refine P_det rf (Over_nil (y_move (c := .int .i64 _) rf)) ?_
        refine P_det rf (Over_nil (y_index (k := _) rf rf r10 d10 Tryz.runUnderlying22 Tryz.sizeOf3)) ?_
        refine P_det rf (Over_nil (y_load1 rf Tryz.isAgg3 (fun w hw => (NewRow.ints hm9 rfl sbA w hw).at (k := _) hil))) ?_
        refine P_det rf (Over_nil (YD_no (y_lss rf rf) dect)) ?_
        refine P_det rf (Over_nil (by first | exact y_pick_t (c := .bool _) rf rf | exact y_pick_f (c := .bool _) rf rf)) ?_
        refine P_det rf (Over_nil (y_move (c := .bool _) rf)) ?_
        refine P_det rf (Over_nil (y_move (c := .slice _ _ _) rf)) ?_
        refine P_det rf (Over_nil (y_move (c := .int .i64 _) rf)) ?_
        refine P_det rf (Over_nil (y_index (k := _) rf rf r10 d10 Tryz.runUnderlying22 Tryz.sizeOf3)) ?_
        refine P_det rf (Over_nil (y_load1 rf Tryz.isAgg3 (fun w hw => (NewRow.ints hm9 rfl sbA w hw).at (k := _) hil))) ?_
        refine P_det rf (Over_nil (YD_no (y_gtr rf rf) dect)) ?_
        refine P_det rf (Over_nil (by first | exact y_pick_t (c := .bool _) rf rf | exact y_pick_f (c := .bool _) rf rf)) ?_
        refine PW_end rf ?_
        refine OverAll_nil ?_
        rintro -
        refine Then_normal ?_
        refine W_cond rf (fun c28 => ?_) (fun c28 => ?_)
        ·cases c28
        ·
         try simp only [qz1, qz2, qz3, qz4, qz5, qz6, qz7, qz8] at c28
         refine W_skip ?_
         refine InB_normal ?_
         refine zT fun ds => ?_
         refine zD hF (y_add rf rf ui) ?_
         refine zm (.int .i64 _) hF ?_
         refine WS_nil ?_
         exact Loop_next (i + 1 + 1) om0 s10 sbA om0
       ·
        try simp only [qz1, qz2, qz3, qz4, qz5, qz6, qz7, qz8] at g28_2
        refine P_no rf ?_
        refine P_no rf ?_
        refine P_no rf ?_
        refine P_no rf ?_
        refine P_no rf ?_
        refine P_no rf ?_
        refine P_no rf ?_
        refine P_no rf ?_
        refine P_no rf ?_
        refine P_no rf ?_
        refine P_det rf (Over_nil (by first | exact y_pick_t (c := .bool _) rf rf | exact y_pick_f (c := .bool _) rf rf)) ?_
        refine P_det rf (Over_nil (y_move (c := .bool _) rf)) ?_
        refine P_det rf (Over_nil (y_move (c := .slice _ _ _) rf)) ?_
        refine P_det rf (Over_nil (y_move (c := .int .i64 _) rf)) ?_
        refine P_det rf (Over_nil (y_index (k := _) rf rf r10 d10 Tryz.runUnderlying22 Tryz.sizeOf3)) ?_
        refine P_det rf (Over_nil (y_load1 rf Tryz.isAgg3 (fun w hw => (NewRow.ints hm9 rfl sbA w hw).at (k := _) hil))) ?_
        refine P_det rf (Over_nil (YD_no (y_lss rf rf) dect)) ?_
        refine P_det rf (Over_nil (by first | exact y_pick_t (c := .bool _) rf rf | exact y_pick_f (c := .bool _) rf rf)) ?_
        refine P_det rf (Over_nil (y_move (c := .bool _) rf)) ?_
        refine P_det rf (Over_nil (y_move (c := .slice _ _ _) rf)) ?_
        refine P_det rf (Over_nil (y_move (c := .int .i64 _) rf)) ?_
        refine P_det rf (Over_nil (y_index (k := _) rf rf r10 d10 Tryz.runUnderlying22 Tryz.sizeOf3)) ?_
        refine P_det rf (Over_nil (y_load1 rf Tryz.isAgg3 (fun w hw => (NewRow.ints hm9 rfl sbA w hw).at (k := _) hil))) ?_
        refine P_det rf (Over_nil (YD_no (y_gtr rf rf) dect)) ?_
        refine P_det rf (Over_nil (by first | exact y_pick_t (c := .bool _) rf rf | exact y_pick_f (c := .bool _) rf rf)) ?_
        refine PW_end rf ?_
        refine OverAll_nil ?_
        rintro -
        refine Then_normal ?_
        refine W_cond rf (fun c28 => ?_) (fun c28 => ?_)
        ·cases c28
        ·
         try simp only [qz1, qz2, qz3, qz4, qz5, qz6, qz7, qz8] at c28
         refine W_skip ?_
         refine InB_normal ?_
         refine zT fun ds => ?_
         refine zD hF (y_add rf rf ui) ?_
         refine zm (.int .i64 _) hF ?_
         refine WS_nil ?_
         exact Loop_next (i + 1) om0 s10 sbA om0
      ·
       try simp only [qz1, qz2, qz3, qz4, qz5, qz6, qz7, qz8] at c26
       refine W_exit ?_
       refine Then_exit ?_
       refine Loop_exit ?_
       refine InB_same ?_
       refine Then_normal ?_
       refine W_seq ?_
       obtain ⟨K, hK0, hK⟩ : ∃ K, K = x % c.madeL.length ∧ K < c.madeL.length := ⟨_, rfl, Nat.mod_lt _ hmp⟩
       have hmk := Cn.made_at hok hK
       obtain ⟨P, hP⟩ : ∃ P, P = c.madeL.getD K 0 := ⟨_, rfl⟩
       rw [← hP] at hmk
       have hPB := Cn.mkP_bd hok hmk
       have hPm : P ∈ c.madeL := (Cn.madeL_mem hok).2 hmk
       obtain ⟨w9, hw9, hrun9, hin9, hbk9, hl9⟩ := Cn.fewM hok hmk
       refine W_region_lit (fun ds => ?_)
       refine zm (.slice _ _ _) hF ?_
       refine zm (.int .u8 _) hF ?_
       refine zD hF (y_conv_iu rf Tryz.runUnderlying5 Tryz.runUnderlying3 (by first | exact IntWalk.i64_in _ om0 | exact IntWalk.u64_in _ om0)) ?_
       refine zm (.slice _ _ _) hF ?_
       refine zD hF (y_len rf Tryz.runUnderlying22) ?_
       refine zD hF (y_rem rf rf om0 om0) ?_
       refine zD hF (y_index (k := K) rf rf r10 d10 Tryz.runUnderlying22 Tryz.sizeOf3) ?_
       refine zD hF (y_load1 rf Tryz.isAgg3 (fun w hw => (show At w bm (0 + K * 1) [.int .i64 P] by rw [hP]; exact (NewRow.ints hm9 rfl sbA w hw).at (k := K) hK))) ?_
       refine za (.int .i64 _) hF ?_
       refine zP fun ds => ?_
       refine zD hF (y_loadN rf Tryz.isAgg24 Tryz.sizeOf24 (Mem.own (us := [.slice _ _ _, .slice _ _ _, .int .i64 _]) 0 rf rf) rf) ?_
       refine zm (.int .i64 _) hF ?_
       refine WS_gen hF rf (y_callL rf rf Tryz.call19 (fun w hw => cleast_any c a1 p1 a2 p2 P w (hG.st w hw) hn hm (h1.st w hw) (h2.st w hw))) ?_
       rintro _ L1 hA
       obtain ⟨la1, lk1, rfl, hP1⟩ := hA.lit (Cn.lsE_in hok hPB) hw9
       refine WS_back ?_
       refine zm (.tuple _) hF ?_
       refine zD hF (y_extract (c := .slice _ _ _) rf rf) ?_
       refine zD hF (y_extract (c := .int .i64 _) rf rf) ?_
       refine zD hF (y_extract (c := .int .i64 _) rf rf) ?_
       refine za (.slice _ _ _) hF ?_
       refine za (.int .i64 _) hF ?_
       refine za (.int .i64 _) hF ?_
       refine zO ?_
       refine zR fun ds => ?_
       refine zm (.int .i64 _) hF ?_
       refine zD hF (YD_no (y_neq rf rf) dect) ?_
       refine zm (.bool _) hF ?_
       refine zm (.slice _ _ _) hF ?_
       refine zD hF (y_len rf Tryz.runUnderlying35) ?_
       refine zD hF (YD_no (y_gtr rf rf) dect) ?_
       refine zD hF (zpk (.bool _)) ?_
       refine zN ?_
       refine W_cond rf (fun c33 => ?_) (fun c33 => ?_)
       ·cases c33
       ·
        try simp only [qz1, qz2, qz3, qz4, qz5, qz6, qz7, qz8] at c33
        refine W_skip ?_
        refine zS fun ds => ?_
        refine zD hF (y_loadN rf Tryz.isAgg24 Tryz.sizeOf24 (Mem.own (us := [.slice _ _ _, .slice _ _ _, .int .i64 _]) 0 rf rf) rf) ?_
        refine zm (.slice _ _ _) hF ?_
        refine WS_gen hF rf (y_callL rf rf Tryz.call20 (fun w hw => lleads_any c a1 p1 a2 p2 w9.l la1 lk1 w hok hn hm (h1.st w hw) (h2.st w hw) om0 hrun9 (hP1 _ _ w sbA hw))) ?_
        rintro _ HD ⟨z, rfl, hzx, hzr⟩
        have hzl := c.of_len z.x hn3
        have hzm : P ∈ (c.of z.x).inn := by rw [hzx]; exact hin9
        refine WS_back ?_
        refine zm (.tuple _) hF ?_
        refine zD hF (y_extract (c := .agg _) rf rf) ?_
        refine zD hF (y_extract (c := .int .i64 _) rf rf) ?_
        refine zD hF (y_extract (c := .bool _) rf rf) ?_
        refine WS_new hF rf (y_alloc Tryz.zeroValue24 rf) (fun bz => ?_)
        refine WS_store hF (us := [.slice _ _ _, .slice _ _ _, .int .i64 _]) (i := 0) rf rf Tryz.sizeOf24 rf rf rf d20 ?_
        refine za (.int .i64 _) hF ?_
        refine za (.bool _) hF ?_
        refine zO ?_
        refine zR fun ds => ?_
        refine zm (.bool _) hF ?_
        refine zD hF (y_not rf) ?_
        refine zm (.bool _) hF ?_
        refine zm (.int .i64 _) hF ?_
        refine zm (.int .i64 _) hF ?_
        refine zD hF (YD_no (y_neq rf rf) dect) ?_
        refine zD hF (zpk (.bool _)) ?_
        refine zm (.bool _) hF ?_
        refine zD hF (y_fieldAddr rf fa24_1) ?_
        refine zD hF (y_load1 rf Tryz.isAgg22 (Mem.own1 0 rf rf)) ?_
        refine zm (.int .i64 _) hF ?_
        refine zD hF (y_callL rf rf Tryz.call18 (fun w hw => Ct_eq (lhas_any z.i _ z.ki (c.of z.x).inn P w om0 (Bl.ints hzr h1 hB2 sbA w hw).2) (show Value.bool (decide (P ∈ (c.of z.x).inn)) = .bool true by rw [decide_eq_true hzm]))) ?_
        refine zD hF (y_not rf) ?_
        refine zD hF (zpk (.bool _)) ?_
        refine zN ?_
        refine W_cond rf (fun c36 => ?_) (fun c36 => ?_)
        ·cases c36
        ·
         try simp only [qz1, qz2, qz3, qz4, qz5, qz6, qz7, qz8] at c36
         refine W_skip ?_
         refine zS fun ds => ?_
         refine zm (.int .u8 _) hF ?_
         refine zD hF (y_conv_iu rf Tryz.runUnderlying5 Tryz.runUnderlying3 (by first | exact IntWalk.i64_in _ om0 | exact IntWalk.u64_in _ om0)) ?_
         refine zD hF (y_rem rf rf om0 om0) ?_
         refine za (.int .i64 _) hF ?_
         refine zO ?_
         have hy : 0 ≤ (x : Int) % 21 ∧ (x : Int) % 21 ≤ 20 := by omega
         obtain ⟨o, hoo⟩ : ∃ o, o = (x : Int) % 21 := ⟨_, rfl⟩
         rw [← hoo] at hy ⊢
         have hfe : (fewE (c.few (c.someP o)) = 0 ∧ o ∈ c.madeL) ∨ (fewE (c.few (c.someP o)) = 6 ∧ ¬ o ∈ c.madeL) := by
          by_cases h : c.mkP o
          ·exact .inl ⟨fewE_some hn3 h, (Cn.madeL_mem hok).2 h⟩
          ·exact .inr ⟨fewE_none hn3 h, fun hm => h ((Cn.madeL_mem hok).1 hm)⟩
         refine W_region_lit (fun ds => ?_)
         refine zD hF (y_loadN rf Tryz.isAgg24 Tryz.sizeOf24 (Mem.own (us := [.slice _ _ _, .slice _ _ _, .int .i64 _]) 1 rf rf) rf) ?_
         refine zm (.int .i64 _) hF ?_
         refine WS_gen hF rf (y_callL rf rf Tryz.call19 (fun w hw => cleast_any c a1 p1 a2 p2 o w (hG.st w hw) hn hm (h1.st w hw) (h2.st w hw))) ?_
         rintro _ L2 hA
         obtain ⟨la2, lk2, rfl, hP2⟩ := hA.un (Cn.lsE_in hok hy)
         refine WS_back ?_
         refine zm (.tuple _) hF ?_
         refine zD hF (y_extract (c := .slice _ _ _) rf rf) ?_
         refine zD hF (y_extract (c := .int .i64 _) rf rf) ?_
         refine zD hF (y_extract (c := .int .i64 _) rf rf) ?_
         refine za (.slice _ _ _) hF ?_
         refine za (.int .i64 _) hF ?_
         refine za (.int .i64 _) hF ?_
         refine zP fun ds => ?_
         refine zm (.bool _) hF ?_
         refine zm (.bool _) hF ?_
         refine zm (.int .i64 _) hF ?_
         refine zD hF (y_eql rf rf) ?_
         refine zm (.slice _ _ _) hF ?_
         refine zm (.int .i64 _) hF ?_
         refine zD hF (y_callL rf rf Tryz.call18 (fun w hw => lhas_any _ _ mc c.madeL o w om0 (NewRow.ints hm9 rfl sbA w hw))) ?_
         refine zD hF (YD_yes (y_eqlB rf rf Tryz.runUnderlying4) (by
                    rcases hfe with ⟨e1, e2⟩ | ⟨e1, e2⟩
                    ·rw [e1, decide_eq_true e2]; rfl
                    ·rw [e1, decide_eq_false e2]; rfl)) ?_
         refine zD hF (zpk (.bool _)) ?_
         refine zm (.bool _) hF ?_
         refine zm (.int .i64 _) hF ?_
         refine zD hF (y_eql rf rf) ?_
         refine zm (.bool _) hF ?_
         refine WS_split 201 rf (fun g40_12 => ?_) (fun g40_12 => ?_)
         ·
          try simp only [qz1, qz2, qz3, qz4, qz5, qz6, qz7, qz8] at g40_12
          refine zno hF ?_
          refine zno hF ?_
          refine zD hF (zpk (.bool _)) ?_
          refine zD hF (zpk (.bool _)) ?_
          refine za (.bool _) hF ?_
          refine zN ?_
          refine W_ret ?_
          refine Fin_ret [.bool _] [] Tryz.results3 ⟨by rfl, trivial⟩ HSub.nil ?_
          rfl
         ·
          try simp only [qz1, qz2, qz3, qz4, qz5, qz6, qz7, qz8] at g40_12
          have h6 : fewE (c.few (c.someP o)) = 6 := by
           rcases hfe with ⟨e1, e2⟩ | ⟨e1, e2⟩
           ·exact absurd e1 g40_12
           ·exact e1
          refine zm (.int .i64 _) hF ?_
          refine zD hF (YD_yes (y_eql rf rf) dect) ?_
          refine zD hF (zpk (.bool _)) ?_
          refine zD hF (zpk (.bool _)) ?_
          refine za (.bool _) hF ?_
          refine zN ?_
          refine W_ret ?_
          refine Fin_ret [.bool _] [] Tryz.results3 ⟨by rfl, trivial⟩ HSub.nil ?_
          rfl
theorem canMeasured_z (c : Cn) (a1 : Option Addr) (p1 : Nat) (a2 : Option Addr) (p2 : Nat) (ba : Option Addr) (bn bcap : Nat) (by_ : List Int) (n : Int) (w : World) (hG : Gv w) (h1 : Ints w a1 c.n p1 c.sz) (h2 : Ints w a2 c.inn.length p2 c.inn) (hby : U4s w ba bn bcap by_) (hn : 0 ≤ n) (hm : n ≤ 255) : Ct Tryz.prog 3 #[.agg #[.slice a1 c.n p1, .slice a2 c.inn.length p2, .int .i64 c.st], .slice ba bn bcap, .int .u8 n] w fun v _ => v = .bool true := by
 obtain ⟨x, rfl⟩ := Int.eq_ofNat_of_zero_le hn
 exact canMeasured_any c a1 p1 a2 p2 ba bn bcap by_ x w hG om0 h1 h2 hby
end Go.Proofs.YtjekjehgmljbgaaGreatDoor.T
namespace Go.Proofs.YtjekjehgmljbgaaGreatDoor.T
open Go.RowKit Go.Proofs Go.Eng Go.ChangeShapes Go.WideShapes Go.ChangeAt Go.Joins Go.Deep
set_option maxRecDepth 100000
set_option maxHeartbeats 1000000
section
variable {H : Type} {enc : TypeId × Value → H} {w : World} {base : Nat} {spare : Nat → Bool} {held : Bool}
theorem open_intsT {fuel : Nat} {v : Value} {y : DataW H × List MemPlace} (h : DataW.trod enc Tryz.prog w base spare held fuel 22 [v] = some y) (hs : ∀ b, spare b = true) : ∃ a n cap xs, v = .slice a n cap ∧ Ints w a n cap xs := by
 rcases open_ints Tryz.underlying22 Tryz.underlying3 (by kernel_rfl) h with ⟨hcs, _⟩ | ⟨x, l, c, zs, hcs, _, hl, hm, hz, _, hcell, hwz⟩
 ·simp only [List.cons.injEq, and_true] at hcs
  subst hcs
  exact ⟨_, _, _, [], rfl, Ints.nil _ _ _⟩
 ·simp only [List.cons.injEq, and_true] at hcs
  subst hcs
  rw [hs, if_pos rfl] at hz
  refine ⟨_, _, _, zs.take l, rfl, by simp; omega, hl, fun k hk => ?_⟩
  have hc := hcell k om0
  obtain ⟨b, off, spot⟩ := x
  have hspot : spot = none := by
   have := World.cell?_spot (hcell 0 om0)
   simpa [Addr.add] using this
  subst hspot
  have ha : (⟨b, off, none⟩ : Addr).add k = ⟨b, off + k * 1, none⟩ := by unfold Addr.add; split <;> simp_all
  rw [ha] at hc
  refine ⟨b, off, rfl, ?_, trivial⟩
  rw [hc]
  simp [List.getD_eq_getElem?_getD, hk]
theorem open_u8 {P : Program} {r : Reach} {b0 : Nat} {t : TypeId} {v : Value} {d : DataW H} {ps : List MemPlace} (ht : P.underlying t = some (.int .u8)) (hval : Value.okWide P w r b0 t v) (hd : DataW.Trod enc P w base spare held t v d ps) :
  ∃ n : Int, v = .int .u8 n ∧ 0 ≤ n ∧ n ≤ 255 := by
 obtain ⟨n, rfl, _, _, hw⟩ := open_int ht hval hd
 have hw' : (decide ((0 : Int) ≤ n) && decide (n ≤ 255)) = true := hw
 simp only [Bool.and_eq_true, decide_eq_true_eq] at hw'
 exact ⟨n, rfl, hw'⟩
end
theorem own : ownKnob Tryz.prog.godebug = none := by kernel_rfl
theorem laidOut : laidOutB Tryz.prog = true := by kernel_rfl
set_option maxRecDepth 100000
set_option maxHeartbeats 1000000
section
variable {H : Type} {enc : TypeId × Value → H} {w : World} {base : Nat} {spare : Nat → Bool} {held : Bool}
theorem open_cans {r : Reach} {b0 : Nat} {v : Value} {d : DataW H} {p : List MemPlace} (hv : Value.okWide Tryz.prog w r b0 24 v) (h : DataW.Trod enc Tryz.prog w base spare held 24 v d p) (hs : ∀ b, spare b = true) :
  ∃ (c : Cn) (a1 : Option Addr) (p1 : Nat) (a2 : Option Addr) (p2 : Nat), v = .agg #[.slice a1 c.n p1, .slice a2 c.inn.length p2, .int .i64 c.st] ∧ Ints w a1 c.n p1 c.sz ∧ Ints w a2 c.inn.length p2 c.inn := by
 obtain ⟨v0, v1, v2, y0, y1, y2, n, rfl, _, _, h0, h1, h2⟩ := open_agg3 Tryz.underlying24 (by kernel_rfl) (by kernel_rfl) hv h
 obtain ⟨a1, m1, p1, xs, rfl, hx⟩ := open_intsT h0 hs
 obtain ⟨a2, m2, p2, ys, rfl, hy⟩ := open_intsT h1 hs
 obtain ⟨l, hl, _, _⟩ := DataW.trod_int Tryz.underlying3 h2
 simp only [List.cons.injEq, and_true] at hl
 subst hl
 have := hx.len
 subst this
 have := hy.len
 subst this
 exact ⟨⟨xs, ys, l⟩, a1, p1, a2, p2, rfl, hx, hy⟩
end
def laidC : List (String × DataW Unit) := [("oilcake/can.checks", Rows.laid_oilcake_can_checks)]
theorem gChecks : Tryz.prog.globalNamed "oilcake/can.checks" = some 0 := by kernel_rfl
theorem tChecks : (Tryz.prog.globals[0]?).map (·.type) = some 159 := by kernel_rfl
theorem door_met (os : Os) (args : Array Value) : laidMetH Tryz.prog laidC ((World.doorLaid Tryz.prog 400 os).forCall (fun _ _ => 0) ⟨#[], args, []⟩).memory :=
 laidMetH_of_parts3 (fuel := 8) (laidMet_of_run' 8 (by kernel_rfl) (by kernel_rfl)) (by kernel_rfl) (by kernel_rfl)
theorem cellsChk : Tryz.prog.cellsOf 158 = 1 := by kernel_rfl
theorem cellsChk3 : Tryz.prog.cellsOf 159 = 3 := by kernel_rfl
theorem cellsFn : Tryz.prog.cellsOf 27 = 1 := by kernel_rfl
theorem chk_fn {W : World} {sp : Nat → Bool} {fuel : Nat} {v : Value} {x : DataW (List UInt8) × List MemPlace} {b : UInt8} {r : List UInt8} {f0 : FuncId}
  (hone : ((List.range Tryz.prog.funcs.size).filter fun f => (Tryz.prog.funcs[f]?).any (·.name.toUTF8.data.toList == b :: r)) = [f0])
  (h : DataW.trod (funcToken Tryz.prog) Tryz.prog W 0 sp true fuel 158 [v] = some x) (hx : x.1 = .agg [.held (b :: r)]) : v = .func (.func f0) #[] #[] := by
 obtain ⟨y0, n, rfl, _, h0⟩ := trod_struct1 Tryz.underlying158 h
 obtain ⟨y, q⟩ := y0
 simp only [DataW.agg.injEq, List.cons.injEq, and_true] at hx
 subst hx
 simp only [cellsFn, List.drop_zero, List.take_succ_cons, List.take_zero] at h0
 exact func_of_trod Tryz.underlying27 hone h0
theorem of_laid {W : World} (h : laidMetH Tryz.prog laidC W) : Gv W := by
 obtain ⟨g, t, cs, fuel, p, hg, ht, hv, hd⟩ := h.funcs (List.mem_singleton.2 rfl)
 obtain rfl := Option.some.inj (gChecks.symm.trans hg)
 obtain rfl := Option.some.inj (tChecks.symm.trans ht)
 have hd' : DataW.trod (funcToken Tryz.prog) Tryz.prog W 0 (fun _ => true) true fuel 159 cs.toList = some (.agg [.agg [.held [111, 105, 108, 99, 97, 107, 101, 47, 99, 97, 110, 46, 99, 104, 101, 99, 107, 115, 36, 49]], .agg [.held [111, 105, 108, 99, 97, 107, 101, 47, 99, 97, 110, 46, 99, 104, 101, 99, 107, 115, 36, 50]], .agg [.held [111, 105, 108, 99, 97, 107, 101, 47, 99, 97, 110, 46, 99, 104, 101, 99, 107, 115, 36, 51]]], p) := hd
 obtain ⟨xs, m1, rfl, hx1, hlen, hn3, hel⟩ := DataW.trod_array Tryz.underlying159 hd'
 simp only [Prod.mk.injEq, DataW.agg.injEq] at hx1
 rw [cellsChk3] at hlen
 have hc := fun i => World.var?_cell hg hv i
 obtain ⟨cl⟩ := cs
 match xs, hn3, hx1, cl, hlen, hel, hc with
 | [x0, x1, x2], _, hx1, [c0, c1, c2], _, hel, hc =>
  simp only [List.map_cons, List.map_nil, List.cons.injEq, and_true] at hx1
  have e0 := hel 0 dc
  have e1 := hel 1 dc
  have e2 := hel 2 dc
  simp only [cellsChk, Nat.zero_mul, Nat.one_mul, Nat.mul_one, List.drop_zero, List.drop_succ_cons, List.take_succ_cons, List.take_zero, List.getElem?_cons_zero, List.getElem?_cons_succ] at e0 e1 e2
  obtain rfl := chk_fn (f0 := 190) (by kernel_rfl) e0 hx1.1.1.symm
  obtain rfl := chk_fn (f0 := 191) (by kernel_rfl) e1 hx1.1.2.1.symm
  obtain rfl := chk_fn (f0 := 192) (by kernel_rfl) e2 hx1.1.2.2.symm
  exact ⟨hc 0, hc 1, hc 2, trivial⟩
set_option maxRecDepth 100000
set_option maxHeartbeats 1000000
section
variable {H : Type} {enc : TypeId × Value → H} {w : World} {base : Nat} {spare : Nat → Bool} {held : Bool}
theorem open_u32s {r : Reach} {b0 : Nat} {v : Value} {d : DataW H} {p : List MemPlace} (hv : Value.okWide Tryz.prog w r b0 25 v) (hd : DataW.Trod enc Tryz.prog w base spare held 25 v d p) (hs : ∀ b, spare b = true) : ∃ (a : Option Addr) (n cap : Nat) (xs : List Int), v = .slice a n cap ∧ U4s w a n cap xs := by
 obtain ⟨a, n, cap, rfl⟩ := okWide_slice Tryz.underlying25 hv
 obtain ⟨fuel, h⟩ := hd
 rcases open_ints Tryz.underlying25 Tryz.underlying169 (by kernel_rfl) h with ⟨hcs, _⟩ | ⟨x, l, c, zs, hcs, _, hl, hm, hz, _, hcell, hwz⟩
 ·simp only [Value.cells, List.cons.injEq, and_true] at hcs
  cases hcs
  exact ⟨_, _, _, [], rfl, ⟨Rws.nil _ _ _, fun k hk => absurd hk (Nat.not_lt_zero _), Nat.zero_le _⟩⟩
 ·simp only [Value.cells, List.cons.injEq, and_true] at hcs
  cases hcs
  rw [hs, if_pos rfl] at hz
  have hget : ∀ k, k < n → (zs.take n).getD k 0 = zs.getD k 0 := fun k hk => by simp [List.getD_eq_getElem?_getD, hk]
  refine ⟨_, _, _, zs.take n, rfl, ⟨⟨by simp; omega, hl, fun k hk => ?_⟩, fun k hk => ?_, ?_⟩⟩
  ·have hc := hcell k om0
   obtain ⟨b, off, spot⟩ := x
   have hspot : spot = none := by
    have := World.cell?_spot (hcell 0 om0)
    simpa [Addr.add] using this
   subst hspot
   have ha : (⟨b, off, none⟩ : Addr).add k = ⟨b, off + k * 1, none⟩ := by unfold Addr.add; split <;> simp_all
   rw [ha] at hc
   refine ⟨b, off, rfl, ?_, trivial⟩
   rw [hc, hget k hk]
  ·rw [hget k hk]
   have hw := hwz (zs.getD k 0) (by rw [List.getD_eq_getElem?_getD, List.getElem?_eq_getElem om0]; exact List.getElem_mem _)
   have hw' : (decide ((0 : Int) ≤ zs.getD k 0) && decide (zs.getD k 0 ≤ 4294967295)) = true := hw
   simpa only [Bool.and_eq_true, decide_eq_true_eq] using hw'
  ·have : cap ≤ 9223372036854775807 := hm
   omega
end
end Go.Proofs.YtjekjehgmljbgaaGreatDoor.T
namespace Go.Proofs.YtjekjehgmljbgaaGreatDoor.T
open Go.RowKit Go.Proofs Go.Eng Go.ChangeShapes Go.WideShapes Go.ChangeAt Go.Joins
set_option maxRecDepth 100000
set_option maxHeartbeats 1000000
section
variable {H : Type} {enc : TypeId × Value → H} {w : World} {base : Nat} {spare : Nat → Bool} {held : Bool}
end
end Go.Proofs.YtjekjehgmljbgaaGreatDoor.T
namespace Go.Proofs.YtjekjehgmljbgaaGreatDoor.T
open Go.RowKit Go.Proofs Go.Eng Go.ChangeShapes Go.WideShapes Go.ChangeAt Go.Joins Go.Deep
set_option maxRecDepth 100000
set_option maxHeartbeats 1000000
section
variable {H : Type} {enc : TypeId × Value → H} {w : World} {base : Nat} {spare : Nat → Bool} {held : Bool}
end
end Go.Proofs.YtjekjehgmljbgaaGreatDoor.T
namespace Go.Proofs.YtjekjehgmljbgaaGreatDoor
open Go.RowKit Go.Proofs Go.Eng Go.ChangeShapes Go.WideShapes Go.ChangeAt Go.Joins T
set_option maxRecDepth 100000
set_option maxHeartbeats 1000000
theorem walkCanMeasured (v0 v1 v2 : Value) (W : World) (hG : Gv W) (h0 : ∃ (c0 : Cn) (a0 : Option Addr) (p0 : Nat) (b0 : Option Addr) (q0 : Nat), v0 = .agg #[.slice a0 c0.n p0, .slice b0 c0.inn.length q0, .int .i64 c0.st] ∧ Ints W a0 c0.n p0 c0.sz ∧ Ints W b0 c0.inn.length q0 c0.inn) (h1 : ∃ (ta1 : Option Addr) (tn1 tcap1 : Nat) (D1 : List Int), v1 = .slice ta1 tn1 tcap1 ∧ U4s W ta1 tn1 tcap1 D1) (h2 : ∃ n2 : Int, v2 = .int .u8 n2 ∧ 0 ≤ n2 ∧ n2 ≤ 255) :
  Calls Tryz.prog 3 #[v0, v1, v2] W fun e W' => e = .returned (.bool true) ∧ Below W.heap.size W W' := by
 obtain ⟨c0, a0, p0, b0, q0, rfl, hx0, hy0⟩ := h0
 obtain ⟨ta1, tn1, tcap1, D1, rfl, hD1⟩ := h1
 obtain ⟨n2, rfl, hn2, hm2⟩ := h2
 refine Calls.mono (canMeasured_z c0 a0 p0 b0 q0 ta1 tn1 tcap1 D1 n2 W hG hx0 hy0 hD1 hn2 hm2) ?_
 rintro e W' ⟨v, rfl, Hn, hb, _, rfl⟩
 exact ⟨rfl, hb⟩
theorem liftCanMeasured (os : Os) (started : os.Started) (H : Type) (enc : TypeId × Value → H) :
  ReturnsInHanded {} Tryz.checked os 3 .any (fun w args => (Rows.canMeasuredSpec.pre enc Tryz.prog Tryz.f3 [] false w args ∧ laidMetH Tryz.prog laidC w) ∧ sizedMet enc Tryz.prog Tryz.f3 (OpenSpec.ofChange Rows.canMeasuredSpec) false w args) (Rows.canMeasuredSpec.post enc Tryz.prog Tryz.f3 false true false false) := by
 refine returnsInHanded_of_change_and (C := Tryz.checked) (X := fun w _ => laidMetH Tryz.prog laidC w) (fun _ _ _ hh h => h.of_heap hh) own started (by kernel_rfl) Tryz.func3
  (ChangeSpec.witness_shaped (enc := enc) (C := Tryz.checked) (os := os) (X := fun w _ => laidMetH Tryz.prog laidC w) false (World.doorLaid Tryz.prog 400 os) #[.agg #[.slice none 0 0, .slice none 0 0, .int .i64 0], .slice none 0 0, .int .u8 0] 8 rfl (World.shaped_of_RefB (by kernel_rfl) (by kernel_rfl)) (by kernel_rfl) (by kernel_rfl) (by kernel_rfl) (door_met os _)) ?_
 intro W base args ds gs before hval0 hW _ _ hL _
 have hval : ∀ (j : Nat) t v, Tryz.f3.params[j]? = some t → args[j]? = some v → Value.okWide Tryz.prog W .any base t v := hval0
 have hW' := hW
 obtain ⟨p, q, hA0, hV, rfl, hfz, hnd⟩ := hW
 have hA : DataW.TrodAll enc Tryz.prog W 0 (fun _ => true) true Tryz.f3.params.toList args.toList ds p := hA0
 rw [Tryz.params3] at hA hval
 obtain ⟨v0, vs0, d0, ds0, p0, q0, hargs, rfl, rfl, h0, r0⟩ := trodAll_cons hA
 obtain ⟨v1, vs1, d1, ds1, p1, q1, rfl, rfl, rfl, h1, r1⟩ := trodAll_cons r0
 obtain ⟨v2, vs2, d2, ds2, p2, q2, rfl, rfl, rfl, h2, r2⟩ := trodAll_cons r1
 obtain ⟨rfl, rfl, rfl⟩ := trodAll_nil r2
 obtain rfl : args = #[v0, v1, v2] := by cases args; simp_all
 obtain ⟨rfl, rfl⟩ := trodVars_none hV
 have lt0 : ∀ x ∈ p0, x.block < W.heap.size := by obtain ⟨m, hm⟩ := h0; exact DataW.trod_lt m _ _ _ hm
 have lt1 : ∀ x ∈ p1, x.block < W.heap.size := by obtain ⟨m, hm⟩ := h1; exact DataW.trod_lt m _ _ _ hm
 have lt2 : ∀ x ∈ p2, x.block < W.heap.size := by obtain ⟨m, hm⟩ := h2; exact DataW.trod_lt m _ _ _ hm
 have o0 : ∃ (c0 : Cn) (a0 : Option Addr) (p0 : Nat) (b0 : Option Addr) (q0 : Nat), v0 = .agg #[.slice a0 c0.n p0, .slice b0 c0.inn.length q0, .int .i64 c0.st] ∧ Ints W a0 c0.n p0 c0.sz ∧ Ints W b0 c0.inn.length q0 c0.inn := open_cans (hval 0 _ v0 rfl rfl) h0 (fun _ => rfl)
 have o1 : ∃ (ta1 : Option Addr) (tn1 tcap1 : Nat) (D1 : List Int), v1 = .slice ta1 tn1 tcap1 ∧ U4s W ta1 tn1 tcap1 D1 := open_u32s (hval 1 _ v1 rfl rfl) h1 (fun _ => rfl)
 have o2 : ∃ n2 : Int, v2 = .int .u8 n2 ∧ 0 ≤ n2 ∧ n2 ≤ 255 := open_u8 Tryz.underlying5 (hval 2 _ v2 rfl rfl) h2
 clear hA0 hval0
 refine (walkCanMeasured v0 v1 v2 W (of_laid hL) o0 o1 o2).mono fun e W' ⟨he, bel⟩ => ?_
 subst he
 exact ⟨_, rfl, _, _, _, [], _, [], hW', trodAll_mk1 (shut_bool Tryz.underlying4 _),
  (trodAll_cons_mk (Below.trod laidOut (by kernel_rfl) (of_decide_eq_true (by kernel_rfl)) h0 bel lt0) (trodAll_cons_mk (Below.trod laidOut (by kernel_rfl) (of_decide_eq_true (by kernel_rfl)) h1 bel lt1) (trodAll_cons_mk (Below.trod laidOut (by kernel_rfl) (of_decide_eq_true (by kernel_rfl)) h2 bel lt2) trodAll_mk0))), rfl, bel.frame _, fun h => by cases h⟩
theorem canMeasuredH : Rows.CanMeasuredSaid :=
 OpenClaim.holds_of_wide 3 Tryz.f3 rfl rfl rfl rfl rfl rfl rfl ⟨rfl, rfl, rfl, rfl, rfl⟩ rfl rfl rfl rfl rfl (by kernel_rfl) Tryz.func3 (by kernel_rfl)
  (of_decide_eq_true (by kernel_rfl)) (by unfold Func.isWrapper; first | (rw [if_pos dk0]; kernel_rfl) | (rw [if_neg dk0]; exact ⟨rfl, rfl⟩))
  (fun os started H enc _ => liftCanMeasured os started H enc)
theorem canMeasured : Rows.CanMeasuredCardSaid :=
 Claim7.holds_tied_plain_at .later [] [.funcs] true (true, "114ba46d525c684db3e97d3e5daf22351e8b02d0b87f957e3b74fac149e509e6") false
  canMeasuredH (fun _ h => by cases h) (by kernel_rfl) (fun _ h => by cases h) canMeasured_row_tie rfl ⟨rfl, rfl⟩ (by kernel_rfl) rfl
  (fun f fn hf hfn => by
   obtain rfl : f = 3 := Option.some.inj ((show Tryz.prog.funcNamed "oilcake/oilcakelaw08.CanMeasured" = some 3 by kernel_rfl).symm.trans hf) |>.symm
   obtain rfl : fn = Tryz.f3 := (Option.some.inj (Tryz.func3.symm.trans hfn)).symm
   exact ⟨by kernel_rfl, fun j t ht => by
    rw [Tryz.params3] at ht
    have hm : t ∈ [24, 25, 5] := by simpa using Array.mem_of_getElem? ht
    have hall : ([24, 25, 5].all fun u => !Tryz.prog.wantsStandIn u) = true := by kernel_rfl
    exact (show Tryz.prog.wantsStandIn t = false by simpa using List.all_eq_true.1 hall t hm)⟩)
  (by kernel_rfl)
end Go.Proofs.YtjekjehgmljbgaaGreatDoor
