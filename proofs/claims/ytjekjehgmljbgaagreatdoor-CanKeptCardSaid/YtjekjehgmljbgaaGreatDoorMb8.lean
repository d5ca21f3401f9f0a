/- Proved: for every input, with no condition, the law CanKept returns true and the input reads as it did (Rows.CanKeptSaid). -/
import Derived.Test.YtjekjehgmljbgaaGreatDoorMb7
import Derived.Test.YtjekjehgmljbgaaGreatDoorMb6
import Derived.Test.YtjekjehgmljbgaaGreatDoorRows
import Derived.WalkKit
import Derived.ProofKit
import Derived.OpenShut
import Derived.Lib.SmallJoins
import Derived.ChangeOld
import Derived.Below
import Derived.Test.YtjekjehgmljbgaaGreatDoorMb2
import Derived.Test.YtjekjehgmljbgaaGreatDoorMb4
import Derived.Test.YtjekjehgmljbgaaGreatDoorTie
import Derived.Test.YtjekjehgmljbgaaGreatDoorCards
import Derived.LaidMore
import Derived.Stop.Joined
import Derived.SevenTiedAt
set_option linter.unusedVariables false
set_option linter.unusedSimpArgs false
namespace Go.Proofs.YtjekjehgmljbgaaGreatDoor.T
open Go.RowKit Go.Proofs Go.Eng
set_option maxRecDepth 100000
set_option maxHeartbeats 1000000
theorem blRow_cons_snoc (c : Cn) (B0 : Bl) (bs : List Bl) (y : Bl) : blRow c (B0 :: (bs ++ [y])) = blRow c (B0 :: bs) ++ y.cells c := by
 rw [← List.cons_append]; exact blRow_snoc c (B0 :: bs) y
theorem WkS.zero {c : Cn} {B0 : Bl} {bA : Nat} {L : List Value} (h : B0.cells c = L) : WkS c B0 [] [] (some ⟨bA, 0, none⟩) 1 [(bA, CB L 24)] none 0 [] [] := by
 subst h
 refine ⟨rfl, fun j hj => absurd hj (Nat.not_lt_zero _), fun k hk => absurd hk (Nat.not_lt_zero _), ⟨_, _, rfl, Nat.le_refl _, .inl ⟨Nat.zero_lt_one, bA, [], rfl, ?_, ?_⟩⟩, ⟨none, 0, rfl, Nat.le_refl _, .inr ⟨rfl, rfl, rfl⟩⟩, fun b hb => (by cases hb)⟩
 ·unfold blRow rowOf; simp
 ·unfold blRow rowOf; simp [Bl.cells]
theorem HSub.pullL {A M' B : List Blk} (L : List Blk) (hp : A.Perm (L ++ M')) (h : HSub (L ++ M') B) : HSub A B := fun N w hw => h N w (HSub.perm HSub.refl hp.symm N w hw)
theorem HSub.pull1 {A M' B : List Blk} (x : Blk) (hp : A.Perm (x :: M')) (h : HSub (x :: M') B) : HSub A B := fun N w hw => h N w (HSub.perm HSub.refl hp.symm N w hw)
theorem lwalk_any (c : Cn) (a1 : Option Addr) (p1 : Nat) (a2 : Option Addr) (p2 : Nat) (ba : Option Addr) (bn bcap : Nat) (by_ : List Int) (many : Nat) (w : World) (hok : c.Ok) (hn : c.n ≤ 1000000) (hm : c.inn.length ≤ 1000000) (h1 : Ints w a1 c.n p1 c.sz) (h2 : Ints w a2 c.inn.length p2 c.inn) (hmy : many ≤ 100) (hby : U4s w ba bn bcap by_) : Ct Tryz.prog 17 #[.agg #[.slice a1 c.n p1, .slice a2 c.inn.length p2, .int .i64 c.st], .slice ba bn bcap, .int .i64 (many : Int)] w (WalkV c (c.b0 a1 p1 a2 p2) many) := by
 have hn1 := hok.n1
 have hn3 := hok.n3
 have hco := hok.co_of
 have hi2 : (c.of (c.b0 a1 p1 a2 p2).x).inn = c.inn := by show (c.of c.co).inn = _; rw [hco]
 have hB2 : Ints w (c.b0 a1 p1 a2 p2).i (c.of (c.b0 a1 p1 a2 p2).x).inn.length (c.b0 a1 p1 a2 p2).ki (c.of (c.b0 a1 p1 a2 p2).x).inn := by rw [hi2]; exact h2
 have hB0 : (c.b0 a1 p1 a2 p2).cells c = [.slice a1 c.n p1, .slice a2 c.inn.length p2, .int .i64 c.st] := by
  show [Value.slice a1 c.n p1, .slice a2 (c.of (c.b0 a1 p1 a2 p2).x).inn.length p2, .int .i64 c.st] = _
  rw [hi2]
 obtain ⟨B0, hBB⟩ : ∃ B0, B0 = c.b0 a1 p1 a2 p2 := ⟨_, rfl⟩
 have hBx : B0.x = c.co := by rw [hBB]; rfl
 rw [← hBB] at hB2 hB0
 have hB1 : Ints w B0.s c.n B0.ks c.sz := by rw [hBB]; exact h1
 rw [← hBB]
 obtain ⟨N, hN⟩ : ∃ N, N = c.n + 1 := ⟨_, rfl⟩
 obtain ⟨M, hM⟩ : ∃ M, M = N * N := ⟨_, rfl⟩
 have hMI : (M : Int) = (N : Int) * (N : Int) := by rw [hM]; push_cast; rfl
 have hM4 : 4 ≤ M ∧ M ≤ 16 := by
  obtain h | h | h : N = 2 ∨ N = 3 ∨ N = 4 := by omega
  all_goals subst h; omega
 have hF := wide_wide
 refine Ct_start (args := [_, _, _]) Tryz.func17 rf Tryz.ntmps17 rf ?_
 refine zR fun ds => ?_
 refine WS_new hF rf (y_box rf) (fun b1 => ?_)
 refine za (.slice _ _ _) hF ?_
 refine za (.slice _ _ _) hF ?_
 refine zP fun ds => ?_
 refine zD hF (y_loadN rf Tryz.isAgg24 Tryz.sizeOf24 (Mem.own (us := [.slice _ _ _, .slice _ _ _, .int .i64 _]) 0 rf rf) rf) ?_
 refine WS_newS hF rf (y_buildSliceL bs34_1_0 rf) (fun bA => ?_)
 refine za (.slice _ _ _) hF ?_
 refine za (.slice _ _ _) hF ?_
 refine zP fun ds => ?_
 refine zD hF (y_fieldAddr rf fa24_0) ?_
 refine zD hF (y_load1 rf Tryz.isAgg22 (Mem.own1 1 rf rf)) ?_
 refine zD hF (y_len rf Tryz.runUnderlying22) ?_
 refine zD hF (y_add rf rf ui) ?_
 refine za (.int .i64 _) hF ?_
 refine zO ?_
 refine W_seq ?_
 rw [show ((c.n : Int) + 1) = (N : Int) by rw [hN]; push_cast; rfl]
 refine W_pull (b1, CB [.slice a1 c.n p1, .slice a2 c.inn.length p2, .int .i64 c.st] 24) zu ?_
 refine W_region_lit (fun ds => ?_)
 refine zm (.int .i64 _) hF ?_
 refine zm (.int .i64 _) hF ?_
 refine zN ?_
 refine W_block ?_
 refine W_loop (γ := Nat × List Po × List Bl × (Option Addr × Nat × List Blk) × (Option Addr × Nat × List Blk) × List Blk) (fun q => q.1 ≤ many ∧ q.2.1.length ≤ q.1 ∧ WkS c B0 q.2.1 q.2.2.1 q.2.2.2.1.1 q.2.2.2.1.2.1 q.2.2.2.1.2.2 q.2.2.2.2.1.1 q.2.2.2.2.1.2.1 q.2.2.2.2.1.2.2 q.2.2.2.2.2) (fun q => [(1, .slice ba bn bcap), (3, .pointer (some ⟨b1, 0, none⟩)), (8, .slice q.2.2.2.1.1 (B0 :: q.2.2.1).length q.2.2.2.1.2.1), (9, .slice q.2.2.2.2.1.1 q.2.1.length q.2.2.2.2.1.2.1), (10, .int .i64 (N : Int)), (23, .int .i64 (many : Int)), (24, .int .i64 (q.1 : Int))]) (fun q => (b1, CB [.slice a1 c.n p1, .slice a2 c.inn.length p2, .int .i64 c.st] 24) :: (q.2.2.2.2.2 ++ (q.2.2.2.1.2.2 ++ q.2.2.2.2.1.2.2))) (fun q => many - q.1) ((0, [], [], (some ⟨bA, 0, none⟩, 1, [(bA, CB [.slice a1 c.n p1, .slice a2 c.inn.length p2, .int .i64 c.st] 24)]), (none, 0, []), [])) ⟨Nat.zero_le _, Nat.le_refl _, WkS.zero hB0⟩ s10 ((by simp only [List.append_nil, List.nil_append]; exact List.Sublist.refl _)) ?_
 rintro ⟨i, ps, bs, ⟨aA, kA, HA⟩, ⟨aL, kL, HL⟩, HX⟩ e ⟨(hi : i ≤ many), (hpl : ps.length ≤ i), (hS : WkS c B0 ps bs aA kA HA aL kL HL HX)⟩
 refine zR fun ds => ?_
 refine zD hF (y_lss rf rf) ?_
 refine zO ?_
 refine W_cond rf (fun c4 => ?_) (fun c4 => ?_)
 ·
  try simp only [qz1, qz2, qz3, qz4, qz5, qz6, qz7, qz8] at c4
  have hBl := hS.len
  have hbl : bs.length ≤ 100 := by omega
  have hcl : (B0 :: bs).length = bs.length + 1 := rfl
  refine zU ?_
  refine W_seq ?_
  refine W_block ?_
  refine zR fun ds => ?_
  refine zm (.int .i64 _) hF ?_
  refine za (.int .i64 _) hF ?_
  refine zP fun ds => ?_
  refine zm (.int .i64 _) hF ?_
  refine zm (.int .i64 _) hF ?_
  refine zD hF (y_mul rf rf (by rw [← hMI]; unfold I64; omega)) ?_
  rw [← hMI]
  refine zm (.int .i64 _) hF ?_
  refine zN ?_
  refine W_block ?_
  refine W_loop (γ := Nat) (fun k => k ≤ M) (fun k => [(1, .slice ba bn bcap), (3, .pointer (some ⟨b1, 0, none⟩)), (8, .slice aA (B0 :: bs).length kA), (9, .slice aL ps.length kL), (10, .int .i64 (N : Int)), (11, .int .i64 (i : Int)), (23, .int .i64 (many : Int)), (24, .int .i64 (i : Int)), (29, .int .i64 (M : Int)), (30, .int .i64 (k : Int))]) (fun _ => (b1, CB [.slice a1 c.n p1, .slice a2 c.inn.length p2, .int .i64 c.st] 24) :: (HX ++ (HA ++ HL))) (fun k => M - k) (0) (Nat.zero_le _) s10 (sbA) ?_
  rintro k e hk
  refine zR fun ds => ?_
  refine zD hF (y_lss rf rf) ?_
  refine zO ?_
  refine W_cond rf (fun c7 => ?_) (fun c7 => ?_)
  ·
   try simp only [qz1, qz2, qz3, qz4, qz5, qz6, qz7, qz8] at c7
   refine zU ?_
   refine W_seq ?_
   refine W_block ?_
   refine zR fun ds => ?_
   refine zm (.int .i64 _) hF ?_
   refine za (.int .i64 _) hF ?_
   refine zP fun ds => ?_
   refine zm (.slice _ _ _) hF ?_
   refine zm (.int .i64 _) hF ?_
   refine WS_gen hF rf (y_callL rf rf Tryz.call51 (fun w hw => lchoose_any ba bn bcap by_ i w hby.le om0 (hby.st w hw))) ?_
   rintro _ Hd ⟨m, rfl, hm⟩
   refine WS_sub (HSub.sub (List.sublist_append_right _ _)) ?_
   refine zm (.int .i64 _) hF ?_
   refine zD hF (y_add rf rf ui) ?_
   refine zm (.int .i64 _) hF ?_
   refine zm (.int .i64 _) hF ?_
   refine zD hF (y_mul rf rf (by rw [← hMI]; unfold I64; omega)) ?_
   rw [← hMI]
   refine zD hF (y_rem rf rf om0 om0) ?_
   refine za (.int .i64 _) hF ?_
   refine zO ?_
   obtain ⟨Z, hZ, hZM⟩ : ∃ Z : Nat, ((m : Int) + (k : Int)) % (M : Int) = (Z : Int) ∧ Z < M := ⟨(m + k) % M, by push_cast; rfl, Nat.mod_lt _ om0⟩
   rw [hZ]
   obtain ⟨f, hf⟩ : ∃ f, f = Z / N := ⟨_, rfl⟩
   obtain ⟨t, ht⟩ : ∃ t, t = Z % N := ⟨_, rfl⟩
   have hfN : f < N := by rw [hf]; exact Nat.div_lt_of_lt_mul om0
   have htN : t < N := by rw [ht]; exact Nat.mod_lt _ om0
   have hfI : (Z : Int) / (N : Int) = (f : Int) := by rw [hf]; push_cast; rfl
   have htI : (Z : Int) % (N : Int) = (t : Int) := by rw [ht]; push_cast; rfl
   refine W_draw0 hF Tryzmixed [13] dk0 (fun ds => ?_)
   refine P_det rf (Over_nil (y_move (c := .int .i64 _) rf)) ?_
   refine P_det rf (Over_nil (y_move (c := .int .i64 _) rf)) ?_
   refine P_det rf (Over_nil (y_quo rf rf om0 om0 ui)) ?_
   refine P_det rf (Over_nil (y_move (c := .int .i64 _) rf)) ?_
   refine P_det rf (Over_nil (y_move (c := .int .i64 _) rf)) ?_
   refine P_det rf (Over_nil (y_rem rf rf om0 om0)) ?_
   refine P_det rf (Over_nil (y_buildL bd47_0_1 rf)) ?_
   apply P_newS _ rf rf rf (Over_nil (y_alloc Tryz.zeroValue47 rf))
   refine P_st 13 0 rf rf rf rf rf (Over_nil (st_new (fun _ => by rfl) Tryz.sizeOf47 rf rf d20)) ?_
   refine PW_end rf ?_
   refine OverAll_cons (fun w13 l13 => ?_)
   refine OverAll_nil ?_
   rintro ⟨-, h13⟩
   obtain ⟨bx, rfl, rfl⟩ := h13
   refine Then_normal ?_
   refine W_seq ?_
   refine W_seq ?_
   rw [hfI, htI]
   refine W_region_lit (fun ds => ?_)
   refine zD hF (y_fieldAddr rf fa47_0) ?_
   refine zD hF (y_load1 rf Tryz.isAgg3 (Mem.own1 0 rf rf)) ?_
   refine zD hF (y_fieldAddr rf fa47_1) ?_
   refine zD hF (y_load1 rf Tryz.isAgg3 (Mem.own1 0 rf rf)) ?_
   refine zD hF (y_eql rf rf) ?_
   refine zN ?_
   refine W_cond rf (fun c11 => ?_) (fun c11 => ?_)
   ·
    try simp only [qz1, qz2, qz3, qz4, qz5, qz6, qz7, qz8] at c11
    have hft : f = t := by omega
    refine W_exit ?_
    refine Then_exit ?_
    refine InB_same ?_
    refine zT fun ds => ?_
    refine zD hF (y_add rf rf ui) ?_
    refine zm (.int .i64 _) hF ?_
    refine WS_nil ?_
    exact Loop_next (k + 1) om0 s10 sbA om0
   ·
    try simp only [qz1, qz2, qz3, qz4, qz5, qz6, qz7, qz8] at c11
    have hft : f ≠ t := by omega
    obtain ⟨y, hy⟩ : ∃ y, y = (B0 :: bs).getD bs.length Bl.z := ⟨_, rfl⟩
    have hyx : y.x = c.runK ps ps.length := by rw [hy, hS.at hBx (Nat.le_refl _), hBl]
    have hyr : y = B0 ∨ y.RdH c HX := by
     rw [hy]
     cases bs with
     | nil => exact .inl rfl
     | cons b bs =>
      refine .inr (hS.rd _ ?_)
      show (b :: bs).getD bs.length Bl.z ∈ _
      rw [List.getD_eq_getElem?_getD, List.getElem?_eq_getElem (by simp)]
      exact List.getElem_mem _
    have hin : c.In y.x := by rw [hyx]; exact hok.run_in fun j hj => hS.run j hj
    have hoc := hok.of_co hin
    have hok2 := hok.of hin
    obtain ⟨br, hbr⟩ := NewRow.adr hS.rowA (by simp)
    subst hbr
    refine zU ?_
    refine W_seq ?_
    refine W_draw0 hF Tryzmixed [14] dk0 (fun ds => ?_)
    refine P_det rf (Over_nil (y_move (c := .slice _ _ _) rf)) ?_
    refine P_det rf (Over_nil (y_move (c := .slice _ _ _) rf)) ?_
    refine P_det rf (Over_nil (y_len rf Tryz.runUnderlying34)) ?_
    refine P_det rf (Over_nil (y_sub rf rf ui)) ?_
    refine P_det rf (Over_nil (y_index (k := bs.length) rf rf r10 d10 Tryz.runUnderlying34 Tryz.sizeOf24)) ?_
    refine P_det rf (Over_nil (y_loadN rf Tryz.isAgg24 Tryz.sizeOf24 (fun w hw => (show At w br (0 + bs.length * 3) [.slice y.s c.n y.ks, .slice y.i (c.of y.x).inn.length y.ki, .int .i64 y.x.a] by rw [hy]; exact (NewRow.rws (bl_len c) hS.rowA rfl sbA w hw).at (k := bs.length) (by simp))) rf)) ?_
    refine P_det rf (Over_nil (y_loadN rf Tryz.isAgg47 Tryz.sizeOf47 (Mem.own (us := [.int .i64 _, .int .i64 _]) 0 rf rf) rf)) ?_
    refine P_new rf rf (Over_nil (y_callL rf rf Tryz.call24 (fun w hw => lstep_any (c.of y.x) y.s y.ks y.i y.ki f t w hok2 hn (by rw [c.of_len y.x hn3]; omega) (Bl.ints hyr hB1 hB2 sbA w hw).1 (Bl.ints hyr hB1 hB2 sbA w hw).2 (by show f ≤ c.n; omega) (by show t ≤ c.n; omega) hft))) ?_
    refine P_ali [62] (fun e => e 62) rf rf rf (fun _ _ h => h 62 (List.mem_singleton.2 rfl)) (Over_in rf (Over_nil (by intro vb3 l62 hb3; obtain ⟨d, n, _, rfl, ⟨z1, q1, z2, q2, H1, H2, rfl, hr1, hr2, hJ⟩, hd⟩ := hb3; obtain ⟨JJ, rfl⟩ : ∃ JJ, JJ = l62 := ⟨_, rfl⟩; exact (YD0_of (y_move (c := .tuple _) rf))))) ?_
    refine P_ali [54] (fun e => tupAt (e 54) 0) rf rf rf (fun _ _ h => congrArg (tupAt · 0) (h 54 (List.mem_singleton.2 rfl))) (Over_in rf (Over_in rf (Over_nil (by intro vb5 l62 hb5; obtain ⟨d, n, _, rfl, ⟨z1, q1, z2, q2, H1, H2, rfl, hr1, hr2, hJ⟩, hd⟩ := hb5; obtain ⟨JJ, rfl⟩ : ∃ JJ, JJ = l62 := ⟨_, rfl⟩; rintro vb6 _ ⟨hvb6, rfl⟩; replace hvb6 : vb6 = .tuple _ := hvb6; subst hvb6; exact (YD0_of (y_extract (c := .agg _) rf rf)))))) ?_
    refine P_ali [54] (fun e => tupAt (e 54) 1) rf rf rf (fun _ _ h => congrArg (tupAt · 1) (h 54 (List.mem_singleton.2 rfl))) (Over_out rf (Over_in rf (Over_in rf (Over_nil (by intro vb8 l62 hb8; obtain ⟨d, n, _, rfl, ⟨z1, q1, z2, q2, H1, H2, rfl, hr1, hr2, hJ⟩, hd⟩ := hb8; obtain ⟨JJ, rfl⟩ : ∃ JJ, JJ = l62 := ⟨_, rfl⟩; rintro vb9 _ ⟨hvb9, rfl⟩; replace hvb9 : vb9 = .tuple _ := hvb9; subst hvb9; exact (YD0_of (y_extract (c := .int .i64 _) rf rf))))))) ?_
    refine P_ali [54] (fun e => tupAt (e 54) 2) rf rf rf (fun _ _ h => congrArg (tupAt · 2) (h 54 (List.mem_singleton.2 rfl))) (Over_out rf (Over_out rf (Over_in rf (Over_in rf (Over_nil (by intro vb11 l62 hb11; obtain ⟨d, n, _, rfl, ⟨z1, q1, z2, q2, H1, H2, rfl, hr1, hr2, hJ⟩, hd⟩ := hb11; obtain ⟨JJ, rfl⟩ : ∃ JJ, JJ = l62 := ⟨_, rfl⟩; rintro vb12 _ ⟨hvb12, rfl⟩; replace hvb12 : vb12 = .tuple _ := hvb12; subst hvb12; exact (YD0_of (y_extract (c := .bool _) rf rf)))))))) ?_
    refine P_newSD 63 rf rf rf (Over_out rf (Over_out rf (Over_out rf (Over_out rf (Over_out rf (Over_nil (y_alloc Tryz.zeroValue24 rf))))))) ?_
    refine P_st 14 0 rf rf rf rf rf (Over_out rf (Over_out rf (Over_in rf (Over_in rf (Over_in rf (Over_nil (by intro vb14 l62 hb14; obtain ⟨d, n, _, rfl, ⟨z1, q1, z2, q2, H1, H2, rfl, hr1, hr2, hJ⟩, hd⟩ := hb14; obtain ⟨JJ, rfl⟩ : ∃ JJ, JJ = l62 := ⟨_, rfl⟩; rintro vb15 _ ⟨hvb15, rfl⟩; replace hvb15 : vb15 = .tuple _ := hvb15; subst hvb15; rintro vb16 _ ⟨hvb16, rfl⟩; replace hvb16 : vb16 = .agg _ := hvb16; subst hvb16; exact (st_newD rf rf Tryz.sizeOf24 rf rf d20)))))))) ?_
    refine P_ali [64] (fun e => e 64) rf rf rf (fun _ _ h => h 64 (List.mem_singleton.2 rfl)) (Over_out rf (Over_out rf (Over_in rf (Over_out rf (Over_in rf (Over_in rf (Over_nil (by intro vb17 l62 hb17; obtain ⟨d, n, _, rfl, ⟨z1, q1, z2, q2, H1, H2, rfl, hr1, hr2, hJ⟩, hd⟩ := hb17; obtain ⟨JJ, rfl⟩ : ∃ JJ, JJ = l62 := ⟨_, rfl⟩; rintro vb18 _ ⟨hvb18, rfl⟩; replace hvb18 : vb18 = .tuple _ := hvb18; subst hvb18; rintro vb19 _ ⟨hvb19, rfl⟩; replace hvb19 : vb19 = .int .i64 _ := hvb19; subst hvb19; exact (YD0_of (y_assign (c := .int .i64 _) rf)))))))))) ?_
    refine P_ali [65] (fun e => e 65) rf rf rf (fun _ _ h => h 65 (List.mem_singleton.2 rfl)) (Over_out rf (Over_out rf (Over_in rf (Over_out rf (Over_out rf (Over_in rf (Over_in rf (Over_nil (by intro vb21 l62 hb21; obtain ⟨d, n, _, rfl, ⟨z1, q1, z2, q2, H1, H2, rfl, hr1, hr2, hJ⟩, hd⟩ := hb21; obtain ⟨JJ, rfl⟩ : ∃ JJ, JJ = l62 := ⟨_, rfl⟩; rintro vb22 _ ⟨hvb22, rfl⟩; replace hvb22 : vb22 = .tuple _ := hvb22; subst hvb22; rintro vb23 _ ⟨hvb23, rfl⟩; replace hvb23 : vb23 = .bool _ := hvb23; subst hvb23; exact (YD0_of (y_assign (c := .bool _) rf))))))))))) ?_
    refine PW_end rf ?_
    refine OverAll_cons (fun w16 l16 => ?_)
    refine OverAll_cons (fun w15 l15 => ?_)
    refine OverAll_cons (fun w14 l14 => ?_)
    refine OverAll_cons (fun w65 l65 => ?_)
    refine OverAll_cons (fun w64 l64 => ?_)
    refine OverAll_cons (fun w63 l63 => ?_)
    refine OverAll_cons (fun w54 l54 => ?_)
    refine OverAll_cons (fun w62 l62 => ?_)
    refine OverAll_nil ?_
    rintro ⟨⟨⟨⟨⟨⟨⟨⟨-, h16⟩, h15⟩, h14⟩, h65⟩, h64⟩, h63⟩, h54⟩, h62⟩
    obtain ⟨d, n, _, rfl, ⟨z1, q1, z2, q2, H1, H2, rfl, hr1, hr2, hJ⟩, hd⟩ := h62
    obtain ⟨JJ, rfl⟩ : ∃ JJ, JJ = l62 := ⟨_, rfl⟩
    obtain ⟨h54, rfl⟩ := h54
    replace h54 : w54 = .tuple _ := h54
    subst h54
    obtain ⟨h63, rfl⟩ := h63
    replace h63 : w63 = .agg _ := h63
    subst h63
    obtain ⟨h64, rfl⟩ := h64
    replace h64 : w64 = .int .i64 _ := h64
    subst h64
    obtain ⟨h65, rfl⟩ := h65
    replace h65 : w65 = .bool _ := h65
    subst h65
    obtain ⟨h15, rfl⟩ := h15
    replace h15 : w15 = .int .i64 _ := h15
    subst h15
    obtain ⟨h16, rfl⟩ := h16
    replace h16 : w16 = .bool _ := h16
    subst h16
    obtain ⟨bd, rfl, rfl⟩ := h14
    refine zS fun ds => ?_
    refine zm (.bool _) hF ?_
    refine zN ?_
    refine W_cond rf (fun c13 => ?_) (fun c13 => ?_)
    ·
     try simp only [qz1, qz2, qz3, qz4, qz5, qz6, qz7, qz8] at c13
     rw [hoc] at hd
     have hcan : c.canB y.x f t = true := by
      have : (c.of y.x).canB (c.of y.x).co f t = true := c13
      rw [hoc] at this; exact this
     obtain ⟨rfl, rfl⟩ := hd hcan
     obtain ⟨X2, hX2⟩ : ∃ X2, X2 = c.to y.x f t := ⟨_, rfl⟩
     have hxx : (c.of y.x).of ((c.of y.x).to y.x f t) = c.of X2 := by rw [hX2]; rfl
     rw [hxx] at hr1 hr2
     rw [hxx]
     obtain ⟨hf9, ht9⟩ : f ≤ c.n ∧ t ≤ c.n := by omega
     have hpe : c.pE (c.runK ps ps.length) (⟨(f : Int), (t : Int)⟩ : Po) = 0 := by
      rw [← hyx]
      exact Cn.pE_zero.2 ⟨Cn.vld_iff.2 ⟨⟨by simp only; omega, by simp only; omega⟩, ⟨by simp only; omega, by simp only; omega⟩, by simp only; omega⟩, hcan⟩
     refine W_seq ?_
     refine W_pull (b1, CB [.slice a1 c.n p1, .slice a2 c.inn.length p2, .int .i64 c.st] 24) zu ?_
     refine W_pull (bx, CB [.int .i64 (f : Int), .int .i64 (t : Int)] 47) zu ?_
     refine W_pull (bd, CB (Bl.cells c (⟨X2, z1, q1, z2, q2⟩ : Bl)) 24) zu ?_
     refine W_tailH0 ((bd, CB (Bl.cells c (⟨X2, z1, q1, z2, q2⟩ : Bl)) 24) :: (bx, CB [.int .i64 (f : Int), .int .i64 (t : Int)] 47) :: (b1, CB [.slice a1 c.n p1, .slice a2 c.inn.length p2, .int .i64 c.st] 24) :: []) 8 Tryzmixed (fun e2 H2 => ∃ aA3 kA3 HA3 aL3 kL3 HL3, NewRow 24 3 (B0 :: (bs ++ [(⟨X2, z1, q1, z2, q2⟩ : Bl)])).length (blRow c (B0 :: (bs ++ [(⟨X2, z1, q1, z2, q2⟩ : Bl)]))) (.slice aA3 (B0 :: (bs ++ [(⟨X2, z1, q1, z2, q2⟩ : Bl)])).length kA3) HA3 ∧ NewRow 47 2 (ps ++ [(⟨(f : Int), (t : Int)⟩ : Po)]).length (pRow (ps ++ [(⟨(f : Int), (t : Int)⟩ : Po)])) (.slice aL3 (ps ++ [(⟨(f : Int), (t : Int)⟩ : Po)]).length kL3) HL3 ∧ Slots e2 [(1, .slice ba bn bcap), (3, .pointer (some ⟨b1, 0, none⟩)), (10, .int .i64 (N : Int)), (23, .int .i64 (many : Int)), (24, .int .i64 (i : Int)), (70, .slice aA3 (B0 :: (bs ++ [(⟨X2, z1, q1, z2, q2⟩ : Bl)])).length kA3), (74, .slice aL3 (ps ++ [(⟨(f : Int), (t : Int)⟩ : Po)]).length kL3)] ∧ HSub H2 ((b1, CB [.slice a1 c.n p1, .slice a2 c.inn.length p2, .int .i64 c.st] 24) :: (JJ ++ (HX ++ (HA3 ++ HL3))))) dk0 (fun ds e2 H2 hmid => ?_) (fun ds => ?_)
     ·
      obtain ⟨aA3, kA3, HA3, aL3, kL3, HL3, hA3, hL3, hsl, hsb⟩ := hmid
      rw [← hsl.sets]
      refine WS_sub hsb ?_
      have hS3 : WkS c B0 (ps ++ [(⟨(f : Int), (t : Int)⟩ : Po)]) (bs ++ [(⟨X2, z1, q1, z2, q2⟩ : Bl)]) aA3 kA3 HA3 aL3 kL3 HL3 (JJ ++ HX) := hS.push hpe (by rw [← hyx]; exact hX2) hA3 hL3 (Bl.RdH.two hr1 hr2 (by rw [hJ]; exact List.sublist_append_left _ _)) (List.sublist_append_right _ _)
      refine za (.slice _ _ _) hF ?_
      refine za (.slice _ _ _) hF ?_
      refine zN ?_
      refine W_exit ?_
      refine InB_other rf ?_
      refine Then_exit ?_
      refine Loop_exit ?_
      refine InB_same ?_
      refine InB_normal ?_
      refine zT fun ds => ?_
      refine zD hF (y_add rf rf ui) ?_
      refine zm (.int .i64 _) hF ?_
      refine WS_nil ?_
      exact Loop_next (i + 1, ps ++ [⟨(f : Int), (t : Int)⟩], bs ++ [⟨X2, z1, q1, z2, q2⟩], (aA3, kA3, HA3), (aL3, kL3, HL3), JJ ++ HX) ⟨by simp only; omega, by simp only [List.length_append, List.length_singleton]; omega, hS3⟩ s10 sbA (by simp only; omega)
     ·
      refine WH_as (fun X hX => ?_)
      have J2_3_6 : ∀ (aA3 : Option Addr) (kA3 : Nat) (HA3 : List Blk) (bv : Nat) (hA3 : NewRow 24 3 (B0 :: (bs ++ [(⟨X2, z1, q1, z2, q2⟩ : Bl)])).length (blRow c (B0 :: (bs ++ [(⟨X2, z1, q1, z2, q2⟩ : Bl)]))) (.slice aA3 (B0 :: (bs ++ [(⟨X2, z1, q1, z2, q2⟩ : Bl)])).length kA3) HA3) (e2 : Env) (H2 : List Blk), Slots e2 [(1, .slice ba bn bcap), (3, .pointer (some ⟨b1, 0, none⟩)), (10, .int .i64 (N : Int)), (23, .int .i64 (many : Int)), (24, .int .i64 (i : Int)), (13, .pointer (some ⟨bx, 0, none⟩)), (14, .pointer (some ⟨bd, 0, none⟩)), (67, .slice (some ⟨br, 0, none⟩) (B0 :: bs).length kA), (68, .agg (Bl.cells c (⟨X2, z1, q1, z2, q2⟩ : Bl)).toArray), (71, .slice aL ps.length kL), (72, .agg #[.int .i64 (f : Int), .int .i64 (t : Int)]), (70, .slice aA3 (B0 :: (bs ++ [(⟨X2, z1, q1, z2, q2⟩ : Bl)])).length kA3), (73, .slice (some ⟨bv, 0, none⟩) 1 1)] → HSub H2 ((bv, CB [.int .i64 (f : Int), .int .i64 (t : Int)] 47) :: (bd, CB (Bl.cells c (⟨X2, z1, q1, z2, q2⟩ : Bl)) 24) :: (bx, CB [.int .i64 (f : Int), .int .i64 (t : Int)] 47) :: (b1, CB [.slice a1 c.n p1, .slice a2 c.inn.length p2, .int .i64 c.st] 24) :: HA3 ++ (JJ ++ (HX ++ (HL)))) → X 1 #[true, true, true, true, true, true, true, false] e2 H2 := by
       intro aA3 kA3 HA3 bv hA3 e2 H2 hsl hsb
       rw [← hsl.sets, hX]
       refine WH_sub hsb (HSub.sub sbA) ?_
       refine WH_step1 7 dk0 (fun _ h => St.sub h sbA) rf ?_
       ·
        refine WS_pull (bv, _) zu ?_
        refine WS_pullE HL (by repeat (first | exact PulE.hd | exact PulE.snd | exact PulE.one | apply PulE.cons | apply PulE.app)) ?_
        refine WS_appendN hF (H1 := (_ :: _ :: _ :: _ :: (HA3 ++ (JJ ++ (HX))))) (Hn := HL) (news := Po.cells (⟨(f : Int), (t : Int)⟩ : Po)) rf rf rf Tryz.underlying35 infPo rf rf hS.rowL (rowOf_len po_len _ _) (.inr ⟨bv, 0, rfl, Mem.own (us := Po.cells (⟨(f : Int), (t : Int)⟩ : Po)) 0 rf rf⟩) rf rf om0 om0 om0 ?_
        intro aL3 kL3 HL3 hr3
        have hL3 : NewRow 47 2 (ps ++ [(⟨(f : Int), (t : Int)⟩ : Po)]).length (pRow (ps ++ [(⟨(f : Int), (t : Int)⟩ : Po)])) (.slice aL3 (ps ++ [(⟨(f : Int), (t : Int)⟩ : Po)]).length kL3) HL3 := by
         rw [pRow_snoc, List.length_append]; exact hr3
        rw [show ps.length + 1 = (ps ++ [(⟨(f : Int), (t : Int)⟩ : Po)]).length by simp]
        simp only [List.append_assoc, List.cons_append, List.append_eq]
        refine WS_nil ?_
        refine WH_done dk0 (fun _ h => St.sub h sbA) ?_
        refine ⟨_, _, _, _, _, _, hA3, hL3, s30, ?_⟩
        refine HSub.pullL HL3 (by repeat (first | exact PulL.base | exact PulL.base1 | apply PulL.cons | apply PulL.app)) ?_
        refine HSub.pullL HA3 (by repeat (first | exact PulL.base | exact PulL.base1 | apply PulL.cons | apply PulL.app)) ?_
        refine HSub.pullL HX (by repeat (first | exact PulL.base | exact PulL.base1 | apply PulL.cons | apply PulL.app)) ?_
        refine HSub.pullL JJ (by repeat (first | exact PulL.base | exact PulL.base1 | apply PulL.cons | apply PulL.app)) ?_
        refine HSub.pull1 (b1, CB [.slice a1 c.n p1, .slice a2 c.inn.length p2, .int .i64 c.st] 24) zu ?_
        exact HSub.sub sbA
      have J2_3 : ∀ (aA3 : Option Addr) (kA3 : Nat) (HA3 : List Blk) (hA3 : NewRow 24 3 (B0 :: (bs ++ [(⟨X2, z1, q1, z2, q2⟩ : Bl)])).length (blRow c (B0 :: (bs ++ [(⟨X2, z1, q1, z2, q2⟩ : Bl)]))) (.slice aA3 (B0 :: (bs ++ [(⟨X2, z1, q1, z2, q2⟩ : Bl)])).length kA3) HA3) (e2 : Env) (H2 : List Blk), Slots e2 [(1, .slice ba bn bcap), (3, .pointer (some ⟨b1, 0, none⟩)), (10, .int .i64 (N : Int)), (23, .int .i64 (many : Int)), (24, .int .i64 (i : Int)), (13, .pointer (some ⟨bx, 0, none⟩)), (14, .pointer (some ⟨bd, 0, none⟩)), (67, .slice (some ⟨br, 0, none⟩) (B0 :: bs).length kA), (68, .agg (Bl.cells c (⟨X2, z1, q1, z2, q2⟩ : Bl)).toArray), (71, .slice aL ps.length kL), (72, .agg #[.int .i64 (f : Int), .int .i64 (t : Int)]), (70, .slice aA3 (B0 :: (bs ++ [(⟨X2, z1, q1, z2, q2⟩ : Bl)])).length kA3)] → HSub H2 ((bd, CB (Bl.cells c (⟨X2, z1, q1, z2, q2⟩ : Bl)) 24) :: (bx, CB [.int .i64 (f : Int), .int .i64 (t : Int)] 47) :: (b1, CB [.slice a1 c.n p1, .slice a2 c.inn.length p2, .int .i64 c.st] 24) :: HA3 ++ (JJ ++ (HX ++ (HL)))) → X 2 #[true, true, true, true, true, true, false, false] e2 H2 := by
       intro aA3 kA3 HA3 hA3 e2 H2 hsl hsb
       rw [← hsl.sets, hX]
       refine WH_sub hsb (HSub.sub sbA) ?_
       refine WH_step1 6 dk0 (fun _ h => St.sub h sbA) rf ?_
       ·
        refine WS_newS hF rf (y_buildSliceL bs35_1_0 rf) (fun bv => ?_)
        refine WS_nil ?_
        refine WH_pullL HL (by repeat (first | exact PulL.base | exact PulL.base1 | apply PulL.cons | apply PulL.app)) ?_
        refine WH_pullL HX (by repeat (first | exact PulL.base | exact PulL.base1 | apply PulL.cons | apply PulL.app)) ?_
        refine WH_pullL JJ (by repeat (first | exact PulL.base | exact PulL.base1 | apply PulL.cons | apply PulL.app)) ?_
        refine WH_pullL HA3 (by repeat (first | exact PulL.base | exact PulL.base1 | apply PulL.cons | apply PulL.app)) ?_
        refine WH_pull (b1, CB [.slice a1 c.n p1, .slice a2 c.inn.length p2, .int .i64 c.st] 24) zu ?_
        refine WH_pull (bx, CB [.int .i64 (f : Int), .int .i64 (t : Int)] 47) zu ?_
        refine WH_pull (bd, CB (Bl.cells c (⟨X2, z1, q1, z2, q2⟩ : Bl)) 24) zu ?_
        refine WH_pull (bv, CB [.int .i64 (f : Int), .int .i64 (t : Int)] 47) zu ?_
        exact WH_of hX rf dk0 (J2_3_6 aA3 kA3 HA3 bv hA3 _ _ s10 (HSub.sub (by repeat (first | exact List.nil_sublist _ | exact List.Sublist.refl _ | exact List.sublist_append_left _ _ | apply List.Sublist.cons_cons | apply List.Sublist.append_left))))
      have J2_6 : ∀ (bu : Nat) (bv : Nat) (e2 : Env) (H2 : List Blk), Slots e2 [(1, .slice ba bn bcap), (3, .pointer (some ⟨b1, 0, none⟩)), (10, .int .i64 (N : Int)), (23, .int .i64 (many : Int)), (24, .int .i64 (i : Int)), (13, .pointer (some ⟨bx, 0, none⟩)), (14, .pointer (some ⟨bd, 0, none⟩)), (67, .slice (some ⟨br, 0, none⟩) (B0 :: bs).length kA), (68, .agg (Bl.cells c (⟨X2, z1, q1, z2, q2⟩ : Bl)).toArray), (71, .slice aL ps.length kL), (72, .agg #[.int .i64 (f : Int), .int .i64 (t : Int)]), (69, .slice (some ⟨bu, 0, none⟩) 1 1), (73, .slice (some ⟨bv, 0, none⟩) 1 1)] → HSub H2 ((bu, CB (Bl.cells c (⟨X2, z1, q1, z2, q2⟩ : Bl)) 24) :: (bv, CB [.int .i64 (f : Int), .int .i64 (t : Int)] 47) :: (bd, CB (Bl.cells c (⟨X2, z1, q1, z2, q2⟩ : Bl)) 24) :: (bx, CB [.int .i64 (f : Int), .int .i64 (t : Int)] 47) :: (b1, CB [.slice a1 c.n p1, .slice a2 c.inn.length p2, .int .i64 c.st] 24) :: JJ ++ (HX ++ (HA ++ (HL)))) → X 2 #[true, true, true, false, true, true, true, false] e2 H2 := by
       intro bu bv e2 H2 hsl hsb
       rw [← hsl.sets, hX]
       refine WH_sub hsb (HSub.sub sbA) ?_
       refine WH_step1 3 dk0 (fun _ h => St.sub h sbA) rf ?_
       ·
        refine WS_pull (bu, _) zu ?_
        refine WS_pullE HA (by repeat (first | exact PulE.hd | exact PulE.snd | exact PulE.one | apply PulE.cons | apply PulE.app)) ?_
        refine WS_appendN hF (H1 := (_ :: _ :: _ :: _ :: _ :: (JJ ++ (HX ++ (HL))))) (Hn := HA) (news := Bl.cells c (⟨X2, z1, q1, z2, q2⟩ : Bl)) rf rf rf Tryz.underlying34 infCans rf rf hS.rowA (blRow_len c _) (.inr ⟨bu, 0, rfl, Mem.own (us := Bl.cells c (⟨X2, z1, q1, z2, q2⟩ : Bl)) 0 rf rf⟩) rf rf om0 om0 om0 ?_
        intro aA3 kA3 HA3 hr3
        have hA3 : NewRow 24 3 (B0 :: (bs ++ [(⟨X2, z1, q1, z2, q2⟩ : Bl)])).length (blRow c (B0 :: (bs ++ [(⟨X2, z1, q1, z2, q2⟩ : Bl)]))) (.slice aA3 (B0 :: (bs ++ [(⟨X2, z1, q1, z2, q2⟩ : Bl)])).length kA3) HA3 := by
         rw [blRow_cons_snoc, show (B0 :: (bs ++ [(⟨X2, z1, q1, z2, q2⟩ : Bl)])).length = (B0 :: bs).length + 1 by simp]; exact hr3
        rw [show (B0 :: bs).length + 1 = (B0 :: (bs ++ [(⟨X2, z1, q1, z2, q2⟩ : Bl)])).length by simp]
        simp only [List.append_assoc, List.cons_append, List.append_eq]
        refine WS_nil ?_
        refine WH_pullL HL (by repeat (first | exact PulL.base | exact PulL.base1 | apply PulL.cons | apply PulL.app)) ?_
        refine WH_pullL HX (by repeat (first | exact PulL.base | exact PulL.base1 | apply PulL.cons | apply PulL.app)) ?_
        refine WH_pullL JJ (by repeat (first | exact PulL.base | exact PulL.base1 | apply PulL.cons | apply PulL.app)) ?_
        refine WH_pullL HA3 (by repeat (first | exact PulL.base | exact PulL.base1 | apply PulL.cons | apply PulL.app)) ?_
        refine WH_pull (b1, CB [.slice a1 c.n p1, .slice a2 c.inn.length p2, .int .i64 c.st] 24) zu ?_
        refine WH_pull (bx, CB [.int .i64 (f : Int), .int .i64 (t : Int)] 47) zu ?_
        refine WH_pull (bd, CB (Bl.cells c (⟨X2, z1, q1, z2, q2⟩ : Bl)) 24) zu ?_
        refine WH_pull (bv, CB [.int .i64 (f : Int), .int .i64 (t : Int)] 47) zu ?_
        exact WH_of hX rf dk0 (J2_3_6 aA3 kA3 HA3 bv hA3 _ _ s10 (HSub.sub (by repeat (first | exact List.nil_sublist _ | exact List.Sublist.refl _ | exact List.sublist_append_left _ _ | apply List.Sublist.cons_cons | apply List.Sublist.append_left))))
      have J2 : ∀ (bu : Nat) (e2 : Env) (H2 : List Blk), Slots e2 [(1, .slice ba bn bcap), (3, .pointer (some ⟨b1, 0, none⟩)), (10, .int .i64 (N : Int)), (23, .int .i64 (many : Int)), (24, .int .i64 (i : Int)), (13, .pointer (some ⟨bx, 0, none⟩)), (14, .pointer (some ⟨bd, 0, none⟩)), (67, .slice (some ⟨br, 0, none⟩) (B0 :: bs).length kA), (68, .agg (Bl.cells c (⟨X2, z1, q1, z2, q2⟩ : Bl)).toArray), (71, .slice aL ps.length kL), (72, .agg #[.int .i64 (f : Int), .int .i64 (t : Int)]), (69, .slice (some ⟨bu, 0, none⟩) 1 1)] → HSub H2 ((bu, CB (Bl.cells c (⟨X2, z1, q1, z2, q2⟩ : Bl)) 24) :: (bd, CB (Bl.cells c (⟨X2, z1, q1, z2, q2⟩ : Bl)) 24) :: (bx, CB [.int .i64 (f : Int), .int .i64 (t : Int)] 47) :: (b1, CB [.slice a1 c.n p1, .slice a2 c.inn.length p2, .int .i64 c.st] 24) :: JJ ++ (HX ++ (HA ++ (HL)))) → X 3 #[true, true, true, false, true, true, false, false] e2 H2 := by
       intro bu e2 H2 hsl hsb
       rw [← hsl.sets, hX]
       refine WH_sub hsb (HSub.sub sbA) ?_
       refine WH_step2 3 6 dk0 (fun _ h => St.sub h sbA) rf rf ?_ ?_
       ·
        refine WS_pull (bu, _) zu ?_
        refine WS_pullE HA (by repeat (first | exact PulE.hd | exact PulE.snd | exact PulE.one | apply PulE.cons | apply PulE.app)) ?_
        refine WS_appendN hF (H1 := (_ :: _ :: _ :: _ :: (JJ ++ (HX ++ (HL))))) (Hn := HA) (news := Bl.cells c (⟨X2, z1, q1, z2, q2⟩ : Bl)) rf rf rf Tryz.underlying34 infCans rf rf hS.rowA (blRow_len c _) (.inr ⟨bu, 0, rfl, Mem.own (us := Bl.cells c (⟨X2, z1, q1, z2, q2⟩ : Bl)) 0 rf rf⟩) rf rf om0 om0 om0 ?_
        intro aA3 kA3 HA3 hr3
        have hA3 : NewRow 24 3 (B0 :: (bs ++ [(⟨X2, z1, q1, z2, q2⟩ : Bl)])).length (blRow c (B0 :: (bs ++ [(⟨X2, z1, q1, z2, q2⟩ : Bl)]))) (.slice aA3 (B0 :: (bs ++ [(⟨X2, z1, q1, z2, q2⟩ : Bl)])).length kA3) HA3 := by
         rw [blRow_cons_snoc, show (B0 :: (bs ++ [(⟨X2, z1, q1, z2, q2⟩ : Bl)])).length = (B0 :: bs).length + 1 by simp]; exact hr3
        rw [show (B0 :: bs).length + 1 = (B0 :: (bs ++ [(⟨X2, z1, q1, z2, q2⟩ : Bl)])).length by simp]
        simp only [List.append_assoc, List.cons_append, List.append_eq]
        refine WS_nil ?_
        refine WH_pullL HL (by repeat (first | exact PulL.base | exact PulL.base1 | apply PulL.cons | apply PulL.app)) ?_
        refine WH_pullL HX (by repeat (first | exact PulL.base | exact PulL.base1 | apply PulL.cons | apply PulL.app)) ?_
        refine WH_pullL JJ (by repeat (first | exact PulL.base | exact PulL.base1 | apply PulL.cons | apply PulL.app)) ?_
        refine WH_pullL HA3 (by repeat (first | exact PulL.base | exact PulL.base1 | apply PulL.cons | apply PulL.app)) ?_
        refine WH_pull (b1, CB [.slice a1 c.n p1, .slice a2 c.inn.length p2, .int .i64 c.st] 24) zu ?_
        refine WH_pull (bx, CB [.int .i64 (f : Int), .int .i64 (t : Int)] 47) zu ?_
        refine WH_pull (bd, CB (Bl.cells c (⟨X2, z1, q1, z2, q2⟩ : Bl)) 24) zu ?_
        exact WH_of hX rf dk0 (J2_3 aA3 kA3 HA3 hA3 _ _ s10 (HSub.sub (by repeat (first | exact List.nil_sublist _ | exact List.Sublist.refl _ | exact List.sublist_append_left _ _ | apply List.Sublist.cons_cons | apply List.Sublist.append_left))))
       ·
        refine WS_newS hF rf (y_buildSliceL bs35_1_0 rf) (fun bv => ?_)
        refine WS_nil ?_
        refine WH_pullL HL (by repeat (first | exact PulL.base | exact PulL.base1 | apply PulL.cons | apply PulL.app)) ?_
        refine WH_pullL HA (by repeat (first | exact PulL.base | exact PulL.base1 | apply PulL.cons | apply PulL.app)) ?_
        refine WH_pullL HX (by repeat (first | exact PulL.base | exact PulL.base1 | apply PulL.cons | apply PulL.app)) ?_
        refine WH_pullL JJ (by repeat (first | exact PulL.base | exact PulL.base1 | apply PulL.cons | apply PulL.app)) ?_
        refine WH_pull (b1, CB [.slice a1 c.n p1, .slice a2 c.inn.length p2, .int .i64 c.st] 24) zu ?_
        refine WH_pull (bx, CB [.int .i64 (f : Int), .int .i64 (t : Int)] 47) zu ?_
        refine WH_pull (bd, CB (Bl.cells c (⟨X2, z1, q1, z2, q2⟩ : Bl)) 24) zu ?_
        refine WH_pull (bv, CB [.int .i64 (f : Int), .int .i64 (t : Int)] 47) zu ?_
        refine WH_pull (bu, CB (Bl.cells c (⟨X2, z1, q1, z2, q2⟩ : Bl)) 24) zu ?_
        exact WH_of hX rf dk0 (J2_6 bu bv _ _ s10 (HSub.sub (by repeat (first | exact List.nil_sublist _ | exact List.Sublist.refl _ | exact List.sublist_append_left _ _ | apply List.Sublist.cons_cons | apply List.Sublist.append_left))))
      have J6 : ∀ (bv : Nat) (e2 : Env) (H2 : List Blk), Slots e2 [(1, .slice ba bn bcap), (3, .pointer (some ⟨b1, 0, none⟩)), (10, .int .i64 (N : Int)), (23, .int .i64 (many : Int)), (24, .int .i64 (i : Int)), (13, .pointer (some ⟨bx, 0, none⟩)), (14, .pointer (some ⟨bd, 0, none⟩)), (67, .slice (some ⟨br, 0, none⟩) (B0 :: bs).length kA), (68, .agg (Bl.cells c (⟨X2, z1, q1, z2, q2⟩ : Bl)).toArray), (71, .slice aL ps.length kL), (72, .agg #[.int .i64 (f : Int), .int .i64 (t : Int)]), (73, .slice (some ⟨bv, 0, none⟩) 1 1)] → HSub H2 ((bv, CB [.int .i64 (f : Int), .int .i64 (t : Int)] 47) :: (bd, CB (Bl.cells c (⟨X2, z1, q1, z2, q2⟩ : Bl)) 24) :: (bx, CB [.int .i64 (f : Int), .int .i64 (t : Int)] 47) :: (b1, CB [.slice a1 c.n p1, .slice a2 c.inn.length p2, .int .i64 c.st] 24) :: JJ ++ (HX ++ (HA ++ (HL)))) → X 3 #[true, true, false, false, true, true, true, false] e2 H2 := by
       intro bv e2 H2 hsl hsb
       rw [← hsl.sets, hX]
       refine WH_sub hsb (HSub.sub sbA) ?_
       refine WH_step1 2 dk0 (fun _ h => St.sub h sbA) rf ?_
       ·
        refine WS_newS hF rf (y_buildSliceL bs34_1_0 rf) (fun bu => ?_)
        refine WS_nil ?_
        refine WH_pullL HL (by repeat (first | exact PulL.base | exact PulL.base1 | apply PulL.cons | apply PulL.app)) ?_
        refine WH_pullL HA (by repeat (first | exact PulL.base | exact PulL.base1 | apply PulL.cons | apply PulL.app)) ?_
        refine WH_pullL HX (by repeat (first | exact PulL.base | exact PulL.base1 | apply PulL.cons | apply PulL.app)) ?_
        refine WH_pullL JJ (by repeat (first | exact PulL.base | exact PulL.base1 | apply PulL.cons | apply PulL.app)) ?_
        refine WH_pull (b1, CB [.slice a1 c.n p1, .slice a2 c.inn.length p2, .int .i64 c.st] 24) zu ?_
        refine WH_pull (bx, CB [.int .i64 (f : Int), .int .i64 (t : Int)] 47) zu ?_
        refine WH_pull (bd, CB (Bl.cells c (⟨X2, z1, q1, z2, q2⟩ : Bl)) 24) zu ?_
        refine WH_pull (bv, CB [.int .i64 (f : Int), .int .i64 (t : Int)] 47) zu ?_
        refine WH_pull (bu, CB (Bl.cells c (⟨X2, z1, q1, z2, q2⟩ : Bl)) 24) zu ?_
        exact WH_of hX rf dk0 (J2_6 bu bv _ _ s10 (HSub.sub (by repeat (first | exact List.nil_sublist _ | exact List.Sublist.refl _ | exact List.sublist_append_left _ _ | apply List.Sublist.cons_cons | apply List.Sublist.append_left))))
      have J : ∀  (e2 : Env) (H2 : List Blk), Slots e2 [(1, .slice ba bn bcap), (3, .pointer (some ⟨b1, 0, none⟩)), (10, .int .i64 (N : Int)), (23, .int .i64 (many : Int)), (24, .int .i64 (i : Int)), (13, .pointer (some ⟨bx, 0, none⟩)), (14, .pointer (some ⟨bd, 0, none⟩)), (67, .slice (some ⟨br, 0, none⟩) (B0 :: bs).length kA), (68, .agg (Bl.cells c (⟨X2, z1, q1, z2, q2⟩ : Bl)).toArray), (71, .slice aL ps.length kL), (72, .agg #[.int .i64 (f : Int), .int .i64 (t : Int)])] → HSub H2 ((bd, CB (Bl.cells c (⟨X2, z1, q1, z2, q2⟩ : Bl)) 24) :: (bx, CB [.int .i64 (f : Int), .int .i64 (t : Int)] 47) :: (b1, CB [.slice a1 c.n p1, .slice a2 c.inn.length p2, .int .i64 c.st] 24) :: JJ ++ (HX ++ (HA ++ (HL)))) → X 4 #[true, true, false, false, true, true, false, false] e2 H2 := by
       intro  e2 H2 hsl hsb
       rw [← hsl.sets, hX]
       refine WH_sub hsb (HSub.sub sbA) ?_
       refine WH_step2 2 6 dk0 (fun _ h => St.sub h sbA) rf rf ?_ ?_
       ·
        refine WS_newS hF rf (y_buildSliceL bs34_1_0 rf) (fun bu => ?_)
        refine WS_nil ?_
        refine WH_pullL HL (by repeat (first | exact PulL.base | exact PulL.base1 | apply PulL.cons | apply PulL.app)) ?_
        refine WH_pullL HA (by repeat (first | exact PulL.base | exact PulL.base1 | apply PulL.cons | apply PulL.app)) ?_
        refine WH_pullL HX (by repeat (first | exact PulL.base | exact PulL.base1 | apply PulL.cons | apply PulL.app)) ?_
        refine WH_pullL JJ (by repeat (first | exact PulL.base | exact PulL.base1 | apply PulL.cons | apply PulL.app)) ?_
        refine WH_pull (b1, CB [.slice a1 c.n p1, .slice a2 c.inn.length p2, .int .i64 c.st] 24) zu ?_
        refine WH_pull (bx, CB [.int .i64 (f : Int), .int .i64 (t : Int)] 47) zu ?_
        refine WH_pull (bd, CB (Bl.cells c (⟨X2, z1, q1, z2, q2⟩ : Bl)) 24) zu ?_
        refine WH_pull (bu, CB (Bl.cells c (⟨X2, z1, q1, z2, q2⟩ : Bl)) 24) zu ?_
        exact WH_of hX rf dk0 (J2 bu _ _ s10 (HSub.sub (by repeat (first | exact List.nil_sublist _ | exact List.Sublist.refl _ | exact List.sublist_append_left _ _ | apply List.Sublist.cons_cons | apply List.Sublist.append_left))))
       ·
        refine WS_newS hF rf (y_buildSliceL bs35_1_0 rf) (fun bv => ?_)
        refine WS_nil ?_
        refine WH_pullL HL (by repeat (first | exact PulL.base | exact PulL.base1 | apply PulL.cons | apply PulL.app)) ?_
        refine WH_pullL HA (by repeat (first | exact PulL.base | exact PulL.base1 | apply PulL.cons | apply PulL.app)) ?_
        refine WH_pullL HX (by repeat (first | exact PulL.base | exact PulL.base1 | apply PulL.cons | apply PulL.app)) ?_
        refine WH_pullL JJ (by repeat (first | exact PulL.base | exact PulL.base1 | apply PulL.cons | apply PulL.app)) ?_
        refine WH_pull (b1, CB [.slice a1 c.n p1, .slice a2 c.inn.length p2, .int .i64 c.st] 24) zu ?_
        refine WH_pull (bx, CB [.int .i64 (f : Int), .int .i64 (t : Int)] 47) zu ?_
        refine WH_pull (bd, CB (Bl.cells c (⟨X2, z1, q1, z2, q2⟩ : Bl)) 24) zu ?_
        refine WH_pull (bv, CB [.int .i64 (f : Int), .int .i64 (t : Int)] 47) zu ?_
        exact WH_of hX rf dk0 (J6 bv _ _ s10 (HSub.sub (by repeat (first | exact List.nil_sublist _ | exact List.Sublist.refl _ | exact List.sublist_append_left _ _ | apply List.Sublist.cons_cons | apply List.Sublist.append_left))))
      rw [hX]
      refine WH_take 0 dk0 rf dk0 dk0 rf (ye_move (c := .slice _ _ _) rf) ?_
      refine WH_take 1 dk0 rf dk0 dk0 rf (ye_loadN rf Tryz.isAgg24 Tryz.sizeOf24 (Mem.own (us := Bl.cells c (⟨X2, z1, q1, z2, q2⟩ : Bl)) 0 rf rf) rf) ?_
      refine WH_take 4 dk0 rf dk0 dk0 rf (ye_move (c := .slice _ _ _) rf) ?_
      refine WH_take 5 dk0 rf dk0 dk0 rf (ye_loadN rf Tryz.isAgg47 Tryz.sizeOf47 (Mem.own (us := [.int .i64 _, .int .i64 _]) 1 rf rf) rf) ?_
      refine WH_pullL HL (by repeat (first | exact PulL.base | exact PulL.base1 | apply PulL.cons | apply PulL.app)) ?_
      refine WH_pullL HA (by repeat (first | exact PulL.base | exact PulL.base1 | apply PulL.cons | apply PulL.app)) ?_
      refine WH_pullL HX (by repeat (first | exact PulL.base | exact PulL.base1 | apply PulL.cons | apply PulL.app)) ?_
      refine WH_pullL JJ (by repeat (first | exact PulL.base | exact PulL.base1 | apply PulL.cons | apply PulL.app)) ?_
      refine WH_pull (b1, CB [.slice a1 c.n p1, .slice a2 c.inn.length p2, .int .i64 c.st] 24) zu ?_
      refine WH_pull (bx, CB [.int .i64 (f : Int), .int .i64 (t : Int)] 47) zu ?_
      refine WH_pull (bd, CB (Bl.cells c (⟨X2, z1, q1, z2, q2⟩ : Bl)) 24) zu ?_
      exact WH_of hX rf dk0 (J  _ _ s10 (HSub.sub (by repeat (first | exact List.nil_sublist _ | exact List.Sublist.refl _ | exact List.sublist_append_left _ _ | apply List.Sublist.cons_cons | apply List.Sublist.append_left))))
    ·
     try simp only [qz1, qz2, qz3, qz4, qz5, qz6, qz7, qz8] at c13
     refine W_skip ?_
     refine InB_normal ?_
     refine zT fun ds => ?_
     refine zD hF (y_add rf rf ui) ?_
     refine zm (.int .i64 _) hF ?_
     refine WS_nil ?_
     exact Loop_next (k + 1) om0 s10 sbA om0
  ·
   try simp only [qz1, qz2, qz3, qz4, qz5, qz6, qz7, qz8] at c7
   refine W_exit ?_
   refine Then_exit ?_
   refine Loop_exit ?_
   refine InB_same ?_
   refine InB_normal ?_
   refine zT fun ds => ?_
   refine zD hF (y_add rf rf ui) ?_
   refine zm (.int .i64 _) hF ?_
   refine WS_nil ?_
   exact Loop_next (i + 1, ps, bs, (aA, kA, HA), (aL, kL, HL), HX) ⟨by simp only; omega, by simp only; omega, hS⟩ s10 sbA (by simp only; omega)
 ·
  try simp only [qz1, qz2, qz3, qz4, qz5, qz6, qz7, qz8] at c4
  refine W_exit ?_
  refine Then_exit ?_
  refine Loop_exit ?_
  refine InB_same ?_
  refine zS fun ds => ?_
  refine zm (.slice _ _ _) hF ?_
  refine zm (.slice _ _ _) hF ?_
  refine za (.slice _ _ _) hF ?_
  refine za (.slice _ _ _) hF ?_
  refine zN ?_
  refine W_ret ?_
  refine Fin_ret [.slice _ _ _, .slice _ _ _] (HX ++ (HA ++ HL)) Tryz.results17 ⟨by rfl, by rfl, trivial⟩ (HSub.sub sbA) ?_
  exact ⟨ps, bs, aA, kA, HA, aL, kL, HL, HX, rfl, by omega, hS, rfl⟩
set_option maxHeartbeats 4000000
theorem a_ep59_0 {x_0 : Int} {x_1 : Int} : ∀ w, (part 3 #[.int .i64 x_0, .int .i64 x_1] 0).run Tryz.prog w = .ok (.int .i64 x_0) w := fun w => by kernel_rfl
theorem a_ep59_1 {x_0 : Int} {x_1 : Int} : ∀ w, (part 3 #[.int .i64 x_0, .int .i64 x_1] 1).run Tryz.prog w = .ok (.int .i64 x_1) w := fun w => by kernel_rfl
theorem a_ep90_0 {x_0 : Int} {x_1 : Int} {x_2 : Int} {x_3 : Int} : ∀ w, (part 3 #[.int .i64 x_0, .int .i64 x_1, .int .i64 x_2, .int .i64 x_3] 0).run Tryz.prog w = .ok (.int .i64 x_0) w := fun w => by kernel_rfl
theorem a_ep90_1 {x_0 : Int} {x_1 : Int} {x_2 : Int} {x_3 : Int} : ∀ w, (part 3 #[.int .i64 x_0, .int .i64 x_1, .int .i64 x_2, .int .i64 x_3] 1).run Tryz.prog w = .ok (.int .i64 x_1) w := fun w => by kernel_rfl
theorem a_ep90_2 {x_0 : Int} {x_1 : Int} {x_2 : Int} {x_3 : Int} : ∀ w, (part 59 #[.int .i64 x_0, .int .i64 x_1, .int .i64 x_2, .int .i64 x_3] 2).run Tryz.prog w = .ok (.agg #[.int .i64 x_2, .int .i64 x_3]) w := fun w => by kernel_rfl
theorem a_gneqA90 {x y : Operand} {x_0 : Int} {x_1 : Int} {x_2 : Int} {x_3 : Int} {y_0 : Int} {y_1 : Int} {y_2 : Int} {y_3 : Int} : ∀ w, (eqGuard .neq 90 x y (.agg #[.int .i64 x_0, .int .i64 x_1, .int .i64 x_2, .int .i64 x_3]) (.agg #[.int .i64 y_0, .int .i64 y_1, .int .i64 y_2, .int .i64 y_3])).run Tryz.prog w = .ok () w := fun w => by kernel_rfl
theorem a_st59 : Tryz.prog.stoodInHeld 59 = false := by kernel_rfl
theorem a_st90 : Tryz.prog.stoodInHeld 90 = false := by kernel_rfl
theorem eq59_9999 {x_0 : Int} {x_1 : Int} {y_0 : Int} {y_1 : Int} : ∀ w, (Op.equalIn 9999 59 (.agg #[.int .i64 x_0, .int .i64 x_1]) (.agg #[.int .i64 y_0, .int .i64 y_1])).run Tryz.prog w = .ok (ieq x_0 y_0 && ieq x_1 y_1) w := fun w => by
 unfold Op.equalIn
 rw [Sem.run_bind, Tryz.runUnderlying59]
 simp [a_st59, a_ep59_0, eq_int (d := 9997) Tryz.runUnderlying3, a_ep59_1, eq_int (d := 9997) Tryz.runUnderlying3]
 generalize ieq x_0 y_0 = b0
 generalize ieq x_1 y_1 = b1
 cases b0 <;> cases b1 <;> simp
theorem eq90 {x_0 : Int} {x_1 : Int} {x_2 : Int} {x_3 : Int} {y_0 : Int} {y_1 : Int} {y_2 : Int} {y_3 : Int} : ∀ w, (Op.equalIn Op.maxDepth 90 (.agg #[.int .i64 x_0, .int .i64 x_1, .int .i64 x_2, .int .i64 x_3]) (.agg #[.int .i64 y_0, .int .i64 y_1, .int .i64 y_2, .int .i64 y_3])).run Tryz.prog w = .ok (ieq x_0 y_0 && ieq x_1 y_1 && ieq x_2 y_2 && ieq x_3 y_3) w := fun w => by
 unfold Op.maxDepth Op.equalIn
 rw [Sem.run_bind, Tryz.runUnderlying90]
 simp [a_st90, a_ep90_0, eq_int (d := 9998) Tryz.runUnderlying3, a_ep90_1, eq_int (d := 9998) Tryz.runUnderlying3, a_ep90_2, eq59_9999]
 generalize ieq x_0 y_0 = b0
 generalize ieq x_1 y_1 = b1
 generalize ieq x_2 y_2 = b2
 generalize ieq x_3 y_3 = b3
 cases b0 <;> cases b1 <;> cases b2 <;> cases b3 <;> simp
theorem bs22_12_0_1_2_3_4_5_6_7_8_9_10_11 {x0 : Int} {x1 : Int} {x2 : Int} {x3 : Int} {x4 : Int} {x5 : Int} {x6 : Int} {x7 : Int} {x8 : Int} {x9 : Int} {x10 : Int} {x11 : Int} : ∀ w, (Instr.buildSlice 22 12 #[(0, .int .i64 x0), (1, .int .i64 x1), (2, .int .i64 x2), (3, .int .i64 x3), (4, .int .i64 x4), (5, .int .i64 x5), (6, .int .i64 x6), (7, .int .i64 x7), (8, .int .i64 x8), (9, .int .i64 x9), (10, .int .i64 x10), (11, .int .i64 x11)]).run Tryz.prog w = .ok (.slice (some ⟨w.heap.size, 0, none⟩) 12 12) (w.alloc (CB [.int .i64 x0, .int .i64 x1, .int .i64 x2, .int .i64 x3, .int .i64 x4, .int .i64 x5, .int .i64 x6, .int .i64 x7, .int .i64 x8, .int .i64 x9, .int .i64 x10, .int .i64 x11] 3)) := fun w => by kernel_rfl
theorem bs22_4_0_1_2_3 {x0 : Int} {x1 : Int} {x2 : Int} {x3 : Int} : ∀ w, (Instr.buildSlice 22 4 #[(0, .int .i64 x0), (1, .int .i64 x1), (2, .int .i64 x2), (3, .int .i64 x3)]).run Tryz.prog w = .ok (.slice (some ⟨w.heap.size, 0, none⟩) 4 4) (w.alloc (CB [.int .i64 x0, .int .i64 x1, .int .i64 x2, .int .i64 x3] 3)) := fun w => by kernel_rfl
theorem bs22_6_0_1_2_3_4_5 {x0 : Int} {x1 : Int} {x2 : Int} {x3 : Int} {x4 : Int} {x5 : Int} : ∀ w, (Instr.buildSlice 22 6 #[(0, .int .i64 x0), (1, .int .i64 x1), (2, .int .i64 x2), (3, .int .i64 x3), (4, .int .i64 x4), (5, .int .i64 x5)]).run Tryz.prog w = .ok (.slice (some ⟨w.heap.size, 0, none⟩) 6 6) (w.alloc (CB [.int .i64 x0, .int .i64 x1, .int .i64 x2, .int .i64 x3, .int .i64 x4, .int .i64 x5] 3)) := fun w => by kernel_rfl
theorem bs22_8_0_1_2_3_4_5_6_7 {x0 : Int} {x1 : Int} {x2 : Int} {x3 : Int} {x4 : Int} {x5 : Int} {x6 : Int} {x7 : Int} : ∀ w, (Instr.buildSlice 22 8 #[(0, .int .i64 x0), (1, .int .i64 x1), (2, .int .i64 x2), (3, .int .i64 x3), (4, .int .i64 x4), (5, .int .i64 x5), (6, .int .i64 x6), (7, .int .i64 x7)]).run Tryz.prog w = .ok (.slice (some ⟨w.heap.size, 0, none⟩) 8 8) (w.alloc (CB [.int .i64 x0, .int .i64 x1, .int .i64 x2, .int .i64 x3, .int .i64 x4, .int .i64 x5, .int .i64 x6, .int .i64 x7] 3)) := fun w => by kernel_rfl
theorem neqA90 {x y : Operand} {x_0 : Int} {x_1 : Int} {x_2 : Int} {x_3 : Int} {y_0 : Int} {y_1 : Int} {y_2 : Int} {y_3 : Int} : ∀ w, ((do eqGuard .neq 90 x y (.agg #[.int .i64 x_0, .int .i64 x_1, .int .i64 x_2, .int .i64 x_3]) (.agg #[.int .i64 y_0, .int .i64 y_1, .int .i64 y_2, .int .i64 y_3]); binOp .neq 90 (.agg #[.int .i64 x_0, .int .i64 x_1, .int .i64 x_2, .int .i64 x_3]) (.agg #[.int .i64 y_0, .int .i64 y_1, .int .i64 y_2, .int .i64 y_3])) : Sem Value).run Tryz.prog w = .ok (.bool (!(ieq x_0 y_0 && ieq x_1 y_1 && ieq x_2 y_2 && ieq x_3 y_3))) w := eq_topN a_gneqA90 eq90
theorem k_farv : Value.tuple #[.int .i64 (if b35.okB then (b35.farT b35.madeL.length).1 else 0), .int .i64 (if b35.okB then (b35.farT b35.madeL.length).2 else 0), .int .i64 b35.err] = .tuple #[.int .i64 4, .int .i64 6, .int .i64 0] := by
 rw [if_pos dc, if_pos dc, k_far]; rfl
theorem k_hlpv : Value.tuple #[.int .i64 (if b35.hpE 4 = 0 then (minH (b35.hpL 4 20)).s else 0), .int .i64 (if b35.hpE 4 = 0 then (minH (b35.hpL 4 20)).m else 0), .int .i64 (b35.hpE 4)] = .tuple #[.int .i64 1, .int .i64 2, .int .i64 0] := by
 rw [if_pos k_help.1, if_pos k_help.1, k_help.1, k_help.2]
theorem AskA.lit {e : Int} {o : Option Wy} {w : Wy} {v : Value} {Hn : List Blk} (h : AskA e o v Hn) (he : e = 0) (ho : o = some w) : ∃ a k, v = .tuple #[.slice a w.l.length k, .int .i64 w.back, .int .i64 0] ∧ ∀ (C : Ctx) (H : List Blk) (u : World), Hn.Sublist H → St C H u → Pos u a w.l.length k w.l := by
 subst he ho
 obtain ⟨v0, rfl, a, k, rfl, h⟩ := h
 exact ⟨a, k, rfl, h⟩
def bg0 : Cn := ⟨[3, 5], [0, 0], 10⟩
theorem k_begE : begE logL [3, 5] = 0 := by kernel_rfl
theorem k_begC : begC logL [3, 5] = bg0 := by kernel_rfl
def wp2 : List Po := [⟨0, 2⟩, ⟨2, 1⟩]
def wrtL : Lg := ⟨tunT, ⟨20, 40⟩, [⟨0, 1, ⟨10, 15⟩⟩, ⟨3, 3, ⟨18, 20⟩⟩, ⟨5, 2, ⟨10, 20⟩⟩, ⟨5, 3, ⟨12, 16⟩⟩, ⟨5, 2, ⟨5, 5⟩⟩]⟩
theorem k_wtE : wtE logL bg0 wp2 = 0 := by kernel_rfl
theorem k_wtL : wtL logL bg0 wp2 = wrtL := by kernel_rfl
theorem bef_three {bs : List Bl} (h : bs.map Bl.x = befL) : ∃ y0 y1 y2, bs = [y0, y1, y2] ∧ y2.x = ⟨18, 2, 0, 0⟩ := by
 have hl : bs.length = 3 := by have := congrArg List.length h; simpa [befL] using this
 obtain ⟨y0, y1, y2, rfl⟩ : ∃ y0 y1 y2, bs = [y0, y1, y2] := by
  match bs, hl with
  | [a, b, c], _ => exact ⟨a, b, c, rfl⟩
 unfold befL at h
 simp only [List.map_cons, List.map_nil, List.cons.injEq, and_true] at h
 exact ⟨y0, y1, y2, rfl, h.2.2⟩
theorem calive_any (w : World) (hG : Gv w) : Ct Tryz.prog 13 #[] w fun v _ => v = .bool true := by
 have hF := wide_wide
 refine Ct_start (args := []) Tryz.func13 rf Tryz.ntmps13 rf ?_
 refine zR fun ds => ?_
 refine za (.bool _) hF ?_
 refine zP fun ds => ?_
 refine WS_newS hF rf (y_buildSliceL bs22_2_0_1 rf) (fun sz => ?_)
 refine WS_gen hF rf (y_callL rf rf Tryz.call43 (fun w hw => l8bench_any 20 [3, 5] _ _ w dc)) ?_
 rintro _ Hz ⟨z, q, rfl, hz⟩
 refine WS_back ?_
 refine zD hF (y_callL rf rf Tryz.call16 (fun w hw => Ct_eq (many_any b35 _ _ _ _ w (hG.st w hw) dc dc (Ints.mem (rest := []) 0 rf rf dc w hw) (NewRow.ints hz rfl sbA w hw)) k_many)) ?_
 refine zm (.tuple _) hF ?_
 refine zD hF (y_extract (c := .int .i64 _) rf rf) ?_
 refine zD hF (y_extract (c := .int .i64 _) rf rf) ?_
 refine za (.int .i64 _) hF ?_
 refine za (.int .i64 _) hF ?_
 refine zO ?_
 refine W_sub HSub.nil ?_
 refine W_region_lit (fun ds => ?_)
 refine WS_newS hF rf (y_buildSliceL bs22_2_0_1 rf) (fun sz => ?_)
 refine WS_gen hF rf (y_callL rf rf Tryz.call43 (fun w hw => l8bench_any 20 [4, 6] _ _ w dc)) ?_
 rintro _ Hz ⟨z, q, rfl, hz⟩
 refine WS_back ?_
 refine WS_gen hF rf (y_callL rf rf Tryz.call15 (fun w hw => made_any b46 _ _ _ _ w (hG.st w hw) dc dc (Ints.mem (rest := []) 0 rf rf dc w hw) (NewRow.ints hz rfl sbA w hw))) ?_
 rintro _ Hm ⟨ma, mc, rfl, hm⟩
 rw [k_made] at hm ⊢
 rw [show b46.err = 0 from rfl]
 refine WS_back ?_
 refine zm (.tuple _) hF ?_
 refine zD hF (y_extract (c := .slice _ _ _) rf rf) ?_
 refine zD hF (y_extract (c := .int .i64 _) rf rf) ?_
 refine za (.slice _ _ _) hF ?_
 refine za (.int .i64 _) hF ?_
 refine zO ?_
 refine W_sub (HSub.sub (Hn := Hm) sbA) ?_
 refine W_region_lit (fun ds => ?_)
 refine WS_newS hF rf (y_buildSliceL bs22_2_0_1 rf) (fun sz => ?_)
 refine WS_gen hF rf (y_callL rf rf Tryz.call43 (fun w hw => l8bench_any 20 [4, 6] _ _ w dc)) ?_
 rintro _ Hz ⟨z, q, rfl, hz⟩
 refine WS_back ?_
 refine zD hF (y_callL rf rf Tryz.call21 (fun w hw => Ct_eq (measure_any b46 _ _ _ _ w (hG.st w hw) dc dc (Ints.mem (rest := []) 0 rf rf dc w hw) (NewRow.ints hz rfl sbA w hw)) k_meas)) ?_
 refine zm (.tuple _) hF ?_
 refine zD hF (y_extract (c := .int .i64 _) rf rf) ?_
 refine zD hF (y_extract (c := .int .i64 _) rf rf) ?_
 refine za (.int .i64 _) hF ?_
 refine za (.int .i64 _) hF ?_
 refine zO ?_
 refine W_sub (HSub.sub (Hn := Hm) sbA) ?_
 refine W_region_lit (fun ds => ?_)
 refine WS_newS hF rf (y_buildSliceL bs22_2_0_1 rf) (fun sz => ?_)
 refine WS_gen hF rf (y_callL rf rf Tryz.call43 (fun w hw => l8bench_any 20 [3, 5] _ _ w dc)) ?_
 rintro _ Hz ⟨z, q, rfl, hz⟩
 refine WS_back ?_
 refine WS_gen hF rf (y_callL rf rf Tryz.call19 (fun w hw => cleast_any b35 _ _ _ _ 4 w (hG.st w hw) dc dc (Ints.mem (rest := []) 0 rf rf dc w hw) (NewRow.ints hz rfl sbA w hw))) ?_
 rintro _ L4 hA
 obtain ⟨la, lk, rfl, hP4⟩ := hA.lit k_e4 k_l4
 refine WS_back ?_
 refine zm (.tuple _) hF ?_
 refine zD hF (y_extract (c := .slice _ _ _) rf rf) ?_
 refine zD hF (y_extract (c := .int .i64 _) rf rf) ?_
 refine zD hF (y_extract (c := .int .i64 _) rf rf) ?_
 refine za (.slice _ _ _) hF ?_
 refine za (.int .i64 _) hF ?_
 refine za (.int .i64 _) hF ?_
 refine zO ?_
 refine W_sub (HSub.sub (Hn := Hm ++ L4) sbA) ?_
 refine W_region_lit (fun ds => ?_)
 refine WS_newS hF rf (y_buildSliceL bs22_2_0_1 rf) (fun sz => ?_)
 refine WS_gen hF rf (y_callL rf rf Tryz.call43 (fun w hw => l8bench_any 20 [3, 5] _ _ w dc)) ?_
 rintro _ Hz ⟨z, q, rfl, hz⟩
 refine WS_back ?_
 refine WS_gen hF rf (y_callL rf rf Tryz.call19 (fun w hw => cleast_any b35 _ _ _ _ 1 w (hG.st w hw) dc dc (Ints.mem (rest := []) 0 rf rf dc w hw) (NewRow.ints hz rfl sbA w hw))) ?_
 rintro _ L1 hA
 obtain ⟨la1, lk1, rfl, hP1⟩ := hA.lit k_e1 k_l1
 refine WS_back ?_
 refine zm (.tuple _) hF ?_
 refine zD hF (y_extract (c := .slice _ _ _) rf rf) ?_
 refine zD hF (y_extract (c := .int .i64 _) rf rf) ?_
 refine zD hF (y_extract (c := .int .i64 _) rf rf) ?_
 refine za (.slice _ _ _) hF ?_
 refine za (.int .i64 _) hF ?_
 refine za (.int .i64 _) hF ?_
 refine zO ?_
 refine W_sub (HSub.sub (Hn := Hm ++ (L4 ++ L1)) sbA) ?_
 refine W_region_lit (fun ds => ?_)
 refine WS_newS hF rf (y_buildSliceL bs22_2_0_1 rf) (fun sz => ?_)
 refine WS_gen hF rf (y_callL rf rf Tryz.call43 (fun w hw => l8bench_any 20 [3, 5] _ _ w dc)) ?_
 rintro _ Hz ⟨z, q, rfl, hz⟩
 refine WS_back ?_
 refine WS_gen hF rf (y_callL rf rf Tryz.call40 (fun w hw => ctotal_any b35 _ _ _ _ 6 w (hG.st w hw) dc dc (Ints.mem (rest := []) 0 rf rf dc w hw) (NewRow.ints hz rfl sbA w hw))) ?_
 rintro _ L6 hA
 obtain ⟨la6, lk6, rfl, hP6⟩ := hA.lit k_e6 k_t6
 refine WS_back ?_
 refine zm (.tuple _) hF ?_
 refine zD hF (y_extract (c := .slice _ _ _) rf rf) ?_
 refine zD hF (y_extract (c := .int .i64 _) rf rf) ?_
 refine zD hF (y_extract (c := .int .i64 _) rf rf) ?_
 refine za (.slice _ _ _) hF ?_
 refine za (.int .i64 _) hF ?_
 refine za (.int .i64 _) hF ?_
 refine zO ?_
 refine W_sub (HSub.sub (Hn := Hm ++ (L4 ++ (L1 ++ L6))) sbA) ?_
 refine W_region_lit (fun ds => ?_)
 refine WS_newS hF rf (y_buildSliceL bs22_2_0_1 rf) (fun sz => ?_)
 refine WS_gen hF rf (y_callL rf rf Tryz.call43 (fun w hw => l8bench_any 20 [3, 5] _ _ w dc)) ?_
 rintro _ Hz ⟨z, q, rfl, hz⟩
 refine WS_back ?_
 refine zD hF (y_callL rf rf Tryz.call26 (fun w hw => Ct_eq (far_any b35 _ _ _ _ w (hG.st w hw) dc dc (Ints.mem (rest := []) 0 rf rf dc w hw) (NewRow.ints hz rfl sbA w hw)) k_farv)) ?_
 refine zm (.tuple _) hF ?_
 refine zD hF (y_extract (c := .int .i64 _) rf rf) ?_
 refine zD hF (y_extract (c := .int .i64 _) rf rf) ?_
 refine zD hF (y_extract (c := .int .i64 _) rf rf) ?_
 refine za (.int .i64 _) hF ?_
 refine za (.int .i64 _) hF ?_
 refine za (.int .i64 _) hF ?_
 refine zO ?_
 refine W_sub (HSub.sub (Hn := Hm ++ (L4 ++ (L1 ++ L6))) sbA) ?_
 refine W_region_lit (fun ds => ?_)
 refine WS_newS hF rf (y_buildSliceL bs22_2_0_1 rf) (fun sz => ?_)
 refine WS_gen hF rf (y_callL rf rf Tryz.call43 (fun w hw => l8bench_any 20 [3, 5] _ _ w dc)) ?_
 rintro _ Hz ⟨z, q, rfl, hz⟩
 refine WS_back ?_
 refine zD hF (y_callL rf rf Tryz.call36 (fun w hw => Ct_eq (help_any b35 _ _ _ _ 4 w (hG.st w hw) dc dc (Ints.mem (rest := []) 0 rf rf dc w hw) (NewRow.ints hz rfl sbA w hw)) k_hlpv)) ?_
 refine zm (.tuple _) hF ?_
 refine zD hF (y_extract (c := .int .i64 _) rf rf) ?_
 refine zD hF (y_extract (c := .int .i64 _) rf rf) ?_
 refine zD hF (y_extract (c := .int .i64 _) rf rf) ?_
 refine za (.int .i64 _) hF ?_
 refine za (.int .i64 _) hF ?_
 refine za (.int .i64 _) hF ?_
 refine zO ?_
 refine W_sub (HSub.sub (Hn := Hm ++ (L4 ++ (L1 ++ L6))) sbA) ?_
 refine W_region_lit (fun ds => ?_)
 refine WS_newS hF rf (y_buildSliceL bs22_2_0_1 rf) (fun sz => ?_)
 refine WS_gen hF rf (y_callL rf rf Tryz.call43 (fun w hw => l8bench_any 17 [3, 5] _ _ w dc)) ?_
 rintro _ _ ⟨z, q, rfl, hz⟩
 obtain ⟨pb, pj, rfl, rfl, pl, ple⟩ := NewRow.head hz dc
 refine WS_back ?_
 refine WS_new hF rf (y_alloc Tryz.zeroValue24 rf) (fun bc => ?_)
 refine WS_store hF (us := [.slice _ _ _, .slice _ _ _, .int .i64 _]) (i := 0) rf rf Tryz.sizeOf24 rf rf rf d20 ?_
 refine zO ?_
 refine W_pull (pb, CB (iv (List.replicate [3, 5].length 0) ++ pj) 3) zu ?_
 refine W_region_lit (fun ds => ?_)
 refine zD hF (y_fieldAddr rf fa24_1) ?_
 refine zD hF (y_load1 rf Tryz.isAgg22 (Mem.own1 1 rf rf)) ?_
 refine zD hF (y_index (k := 0) rf rf r10 d10 Tryz.runUnderlying22 Tryz.sizeOf3) ?_
 refine WS_store hF (us := [.int .i64 _]) (i := 0) rf rf Tryz.sizeOf3 rf rf rf (fit_iv dc) ?_
 refine zO ?_
 rw [show splice (iv (List.replicate [3, 5].length 0) ++ pj) 0 [.int .i64 3] = iv [3, 0] ++ pj from splice_iv _ _ _ 0 dc]
 refine W_region_lit (fun ds => ?_)
 refine zD hF (y_loadN rf Tryz.isAgg24 Tryz.sizeOf24 (Mem.own (us := [.slice _ _ _, .slice _ _ _, .int .i64 _]) 1 rf rf) rf) ?_
 refine zD hF (y_buildL bd47_1 rf) ?_
 refine WS_gen hF rf (y_callL rf rf Tryz.call22 (fun w hw => cbefore_any bef0 _ _ _ _ ⟨0, 1⟩ w (hG.st w hw) dc dc (Ints.mem (rest := []) 2 rf rf dc w hw) (Ints.mem (rest := pj) 0 rf rf (by exact ple) w hw))) ?_
 rintro _ _ ⟨e0, bs, ba, bk, Hr, HX, rfl, hbf, hrow, hrd, hsh, rfl⟩
 obtain ⟨rfl, hbx⟩ := Cn.Bef.uniq hbf k_bef
 obtain ⟨y0, y1, ⟨x2, s2, ks2, i2, ki2⟩, rfl, rfl⟩ := bef_three hbx
 have hrd2 := hrd ⟨⟨18, 2, 0, 0⟩, s2, ks2, i2, ki2⟩ (by simp)
 obtain ⟨bb, rfl⟩ := NewRow.adr hrow (by simp)
 obtain ⟨bi, rfl⟩ : ∃ bi, i2 = some ⟨bi, 0, none⟩ := by
  rcases hrd2.oi with h | ⟨b, vs, h, _⟩
  ·cases (show (2 : Nat) = 0 from h)
  ·exact ⟨b, h⟩
 have hl3 : [y0, y1, (⟨⟨18, 2, 0, 0⟩, s2, ks2, some ⟨bi, 0, none⟩, ki2⟩ : Bl)].length = 3 := rfl
 have hl2 : (bef0.of (⟨⟨18, 2, 0, 0⟩, s2, ks2, some ⟨bi, 0, none⟩, ki2⟩ : Bl).x).inn.length = 2 := rfl
 refine WS_back ?_
 refine zm (.tuple _) hF ?_
 refine zD hF (y_extract (c := .slice _ _ _) rf rf) ?_
 refine zD hF (y_extract (c := .int .i64 _) rf rf) ?_
 refine za (.slice _ _ _) hF ?_
 refine za (.int .i64 _) hF ?_
 refine zO ?_
 refine W_sub (HSub.sub (Hn := Hm ++ (L4 ++ (L1 ++ (L6 ++ (HX ++ Hr))))) sbA) ?_
 refine W_region_lit (fun ds => ?_)
 refine WS_gen hF rf (y_callL rf rf Tryz.call46 (fun w hw => l8log_any w)) ?_
 rintro _ _ ⟨a1, cap1, ae1, cape1, Hp, He, rfl, hrp, hre, rfl⟩
 refine WS_back ?_
 refine WS_newS hF rf (y_buildSliceL bs22_2_0_1 rf) (fun s12 => ?_)
 refine WS_gen hF rf (y_callL rf rf Tryz.call29 (fun w hw => begin_any logL _ _ _ _ _ 2 2 [3, 5] w (hG.st w hw) dc dc (NewRow.ints hrp rfl sbA w hw) (NewRow.rws en_len hre rfl sbA w hw) (Ints.mem (rest := []) 0 rf rf dc w hw))) ?_
 rintro _ _ ⟨_, rfl, hT⟩
 rw [k_begC] at hT
 rw [k_begE]
 obtain ⟨z1, q1, z2, q2, G1, G2, rfl, g1, g2, rfl⟩ := hT
 refine WS_back ?_
 refine zm (.tuple _) hF ?_
 refine zD hF (y_extract (c := .agg _) rf rf) ?_
 refine zD hF (y_extract (c := .int .i64 _) rf rf) ?_
 refine WS_new hF rf (y_alloc Tryz.zeroValue24 rf) (fun bg => ?_)
 refine WS_store hF (us := [.slice _ _ _, .slice _ _ _, .int .i64 _]) (i := 0) rf rf Tryz.sizeOf24 rf rf rf d20 ?_
 refine za (.int .i64 _) hF ?_
 refine zO ?_
 refine W_sub (HSub.sub (Hn := (bg, _) :: (Hm ++ (L4 ++ (L1 ++ (L6 ++ (HX ++ (Hr ++ (G1 ++ G2)))))))) sbA) ?_
 refine W_draw0 hF Tryzmixed [27] dk0 (fun ds => ?_)
 refine P_new rf rf (Over_nil (y_callL rf rf Tryz.call46 (fun w hw => l8log_any w))) ?_
 refine P_det rf (Over_out rf (Over_nil (y_loadN rf Tryz.isAgg24 Tryz.sizeOf24 (Mem.own (us := [.slice _ _ _, .slice _ _ _, .int .i64 _]) 0 rf rf) rf))) ?_
 refine P_new rf rf (Over_out rf (Over_nil (y_buildSliceL bs22_4_0_1_2_3 rf))) ?_
 refine P_new rf rf (Over_in rf (Over_out rf (Over_nil (by rintro _ _ ⟨b2, rfl, rfl⟩; exact (y_callL rf rf Tryz.call44 (fun w hw => l8pours_any wp2 _ _ w dc (Ints.mem (rest := []) 0 rf rf dc w hw))))))) ?_
 refine P_new rf rf (Over_in rf (Over_out rf (Over_in rf (Over_nil (by intro vb4 l100 hb4; obtain ⟨c1, d1, c2, d2, Hp, He, rfl, hrp, hre, rfl⟩ := hb4; intro vb5 l103 hb5; obtain ⟨pa, pk, rfl, hpp⟩ := hb5; obtain ⟨HP, rfl⟩ : ∃ HP, HP = l103 := ⟨_, rfl⟩; exact (y_callL rf rf Tryz.call32 (fun w hw => written_any logL _ _ _ _ bg0 _ _ _ _ wp2 _ _ w (hG.st w hw) dc dc dc (NewRow.ints hrp rfl sbA w hw) (NewRow.rws en_len hre rfl sbA w hw) dc dc (NewRow.ints g1 rfl sbA w hw) (NewRow.ints g2 rfl sbA w hw) (NewRow.rws po_len hpp rfl sbA w hw)))))))) ?_
 refine P_ali [104] (fun e => e 104) rf rf rf (fun _ _ h => h 104 (List.mem_singleton.2 rfl)) (Over_in rf (Over_out rf (Over_out rf (Over_out rf (Over_nil (by intro vb7 l104 hb7; obtain ⟨_, rfl, hTW⟩ := hb7; rw [k_wtL] at hTW; rw [k_wtE]; obtain ⟨e1, f1, e2, f2, U1, U2, rfl, hu1, hu2, rfl⟩ := hTW; obtain ⟨bu, rfl⟩ := NewRow.adr hu2 dc; exact (YD0_of (y_move (c := .tuple _) rf)))))))) ?_
 refine P_ali [99] (fun e => tupAt (e 99) 0) rf rf rf (fun _ _ h => congrArg (tupAt · 0) (h 99 (List.mem_singleton.2 rfl))) (Over_in rf (Over_in rf (Over_out rf (Over_out rf (Over_out rf (Over_nil (by intro vb9 l104 hb9; obtain ⟨_, rfl, hTW⟩ := hb9; rw [k_wtL] at hTW; rw [k_wtE]; obtain ⟨e1, f1, e2, f2, U1, U2, rfl, hu1, hu2, rfl⟩ := hTW; obtain ⟨bu, rfl⟩ := NewRow.adr hu2 dc; rintro vb10 _ ⟨hvb10, rfl⟩; replace hvb10 : vb10 = .tuple _ := hvb10; subst hvb10; exact (YD0_of (y_extract (c := .agg _) rf rf))))))))) ?_
 refine P_ali [99] (fun e => tupAt (e 99) 1) rf rf rf (fun _ _ h => congrArg (tupAt · 1) (h 99 (List.mem_singleton.2 rfl))) (Over_out rf (Over_in rf (Over_in rf (Over_out rf (Over_out rf (Over_out rf (Over_nil (by intro vb12 l104 hb12; obtain ⟨_, rfl, hTW⟩ := hb12; rw [k_wtL] at hTW; rw [k_wtE]; obtain ⟨e1, f1, e2, f2, U1, U2, rfl, hu1, hu2, rfl⟩ := hTW; obtain ⟨bu, rfl⟩ := NewRow.adr hu2 dc; rintro vb13 _ ⟨hvb13, rfl⟩; replace hvb13 : vb13 = .tuple _ := hvb13; subst hvb13; exact (YD0_of (y_extract (c := .int .i64 _) rf rf)))))))))) ?_
 refine P_newSD 105 rf rf rf (Over_out rf (Over_out rf (Over_out rf (Over_out rf (Over_out rf (Over_out rf (Over_out rf (Over_nil (y_alloc Tryz.zeroValue62 rf))))))))) ?_
 refine P_st 27 0 rf rf rf rf rf (Over_out rf (Over_in rf (Over_in rf (Over_in rf (Over_out rf (Over_out rf (Over_out rf (Over_nil (by intro vb15 l104 hb15; obtain ⟨_, rfl, hTW⟩ := hb15; rw [k_wtL] at hTW; rw [k_wtE]; obtain ⟨e1, f1, e2, f2, U1, U2, rfl, hu1, hu2, rfl⟩ := hTW; obtain ⟨bu, rfl⟩ := NewRow.adr hu2 dc; rintro vb16 _ ⟨hvb16, rfl⟩; replace hvb16 : vb16 = .tuple _ := hvb16; subst hvb16; rintro vb17 _ ⟨hvb17, rfl⟩; replace hvb17 : vb17 = .agg _ := hvb17; subst hvb17; exact (st_newD rf rf Tryz.sizeOf62 rf rf d20)))))))))) ?_
 refine P_ali [106] (fun e => e 106) rf rf rf (fun _ _ h => h 106 (List.mem_singleton.2 rfl)) (Over_out rf (Over_in rf (Over_out rf (Over_in rf (Over_in rf (Over_out rf (Over_out rf (Over_out rf (Over_nil (by intro vb18 l104 hb18; obtain ⟨_, rfl, hTW⟩ := hb18; rw [k_wtL] at hTW; rw [k_wtE]; obtain ⟨e1, f1, e2, f2, U1, U2, rfl, hu1, hu2, rfl⟩ := hTW; obtain ⟨bu, rfl⟩ := NewRow.adr hu2 dc; rintro vb19 _ ⟨hvb19, rfl⟩; replace hvb19 : vb19 = .tuple _ := hvb19; subst hvb19; rintro vb20 _ ⟨hvb20, rfl⟩; replace hvb20 : vb20 = .int .i64 _ := hvb20; subst hvb20; exact (YD0_of (y_assign (c := .int .i64 _) rf)))))))))))) ?_
 refine PW_end rf ?_
 refine OverAll_cons (fun w28 l28 => ?_)
 refine OverAll_cons (fun w27 l27 => ?_)
 refine OverAll_cons (fun w106 l106 => ?_)
 refine OverAll_cons (fun w105 l105 => ?_)
 refine OverAll_cons (fun w99 l99 => ?_)
 refine OverAll_cons (fun w104 l104 => ?_)
 refine OverAll_cons (fun w103 l103 => ?_)
 refine OverAll_cons (fun w102 l102 => ?_)
 refine OverAll_cons (fun w100 l100 => ?_)
 refine OverAll_nil ?_
 rintro ⟨⟨⟨⟨⟨⟨⟨⟨⟨-, h28⟩, h27⟩, h106⟩, h105⟩, h99⟩, h104⟩, h103⟩, h102⟩, h100⟩
 obtain ⟨c1, d1, c2, d2, Hp, He, rfl, hrp, hre, rfl⟩ := h100
 obtain ⟨bw, rfl, rfl⟩ := h102
 obtain ⟨pa, pk, rfl, hpp⟩ := h103
 obtain ⟨HP, rfl⟩ : ∃ HP, HP = l103 := ⟨_, rfl⟩
 obtain ⟨_, rfl, hTW⟩ := h104
 rw [k_wtL] at hTW
 rw [k_wtE]
 obtain ⟨e1, f1, e2, f2, U1, U2, rfl, hu1, hu2, rfl⟩ := hTW
 obtain ⟨bu, rfl⟩ := NewRow.adr hu2 dc
 obtain ⟨h99, rfl⟩ := h99
 replace h99 : w99 = .tuple _ := h99
 subst h99
 obtain ⟨h105, rfl⟩ := h105
 replace h105 : w105 = .agg _ := h105
 subst h105
 obtain ⟨h106, rfl⟩ := h106
 replace h106 : w106 = .int .i64 _ := h106
 subst h106
 obtain ⟨h28, rfl⟩ := h28
 replace h28 : w28 = .int .i64 _ := h28
 subst h28
 obtain ⟨bl, rfl, rfl⟩ := h27
 refine Then_normal ?_
 refine W_seq ?_
 refine W_seq ?_
 refine W_pull (bg, CB [.slice z1 bg0.n q1, .slice z2 bg0.inn.length q2, .int .i64 10] 24) zu ?_
 refine W_pull (bl, CB [.slice e1 wrtL.tk.n f1, .int .i64 2, .int .i64 8, .int .i64 20, .int .i64 40, .slice (some ⟨bu, 0, none⟩) wrtL.es.length f2] 62) zu ?_
 refine W_sub (HSub.sub (Hn := (bl, _) :: (bg, _) :: (U2 ++ (Hm ++ (L4 ++ (L1 ++ (L6 ++ (HX ++ Hr))))))) sbA) ?_
 refine W_draw0 hF Tryzmixed [] dk0 (fun ds => ?_)
 refine P_det rf (Over_nil (y_move (c := .int .i64 _) rf)) ?_
 refine P_det rf (Over_nil (y_neqF rf rf)) ?_
 refine P_det rf (Over_nil (y_move (c := .bool _) rf)) ?_
 refine P_det rf (Over_nil (y_fieldAddr rf fa62_2)) ?_
 refine P_det rf (Over_nil (y_load1 rf Tryz.isAgg60 (Mem.own1 0 rf rf))) ?_
 refine P_det rf (Over_nil (y_len rf Tryz.runUnderlying60)) ?_
 refine P_det rf (Over_nil (y_neqF rf rf)) ?_
 refine P_det rf (Over_nil (by first | exact y_pick_t (c := .bool _) rf rf | exact y_pick_f (c := .bool _) rf rf)) ?_
 refine P_det rf (Over_nil (y_move (c := .bool _) rf)) ?_
 refine P_det rf (Over_nil (y_fieldAddr rf fa62_2)) ?_
 refine P_det rf (Over_nil (y_load1 rf Tryz.isAgg60 (Mem.own1 0 rf rf))) ?_
 refine P_det rf (Over_nil (y_index (k := 4) rf rf r10 d10 Tryz.runUnderlying60 Tryz.sizeOf90)) ?_
 refine P_det rf (Over_nil (y_loadN rf Tryz.isAgg90 Tryz.sizeOf90 (fun w hw => (show At w bu (0 + 4 * 4) [.int .i64 5, .int .i64 2, .int .i64 5, .int .i64 5] from (NewRow.rws en_len hu2 rfl sbA w hw).at (k := 4) dc)) rf)) ?_
 refine P_det rf (Over_nil (y_callL rf rf Tryz.call35 (fun w hw => l8span_any _ _ w))) ?_
 refine P_det rf (Over_nil (y_buildL bd90_0_1_2 rf)) ?_
 refine P_det rf (Over_nil (y_neqlAF rf rf neqA90 (by simp only [ieq_self, Bool.and_self, Bool.not_true]))) ?_
 refine P_det rf (Over_nil (by first | exact y_pick_t (c := .bool _) rf rf | exact y_pick_f (c := .bool _) rf rf)) ?_
 refine PW_end rf ?_
 refine OverAll_nil ?_
 rintro -
 refine Then_normal ?_
 refine W_cond rf (fun c14 => ?_) (fun c14 => ?_)
 ·cases c14
 ·
  try simp only [qz1, qz2, qz3, qz4, qz5, qz6, qz7, qz8] at c14
  refine W_skip ?_
  refine zS fun ds => ?_
  refine zm (.int .i64 _) hF ?_
  refine zD hF (y_eqlT rf rf) ?_
  refine zm (.bool _) hF ?_
  refine zm (.int .i64 _) hF ?_
  refine zD hF (y_eqlT rf rf) ?_
  refine zD hF (zpk (.bool _)) ?_
  refine zm (.bool _) hF ?_
  refine zm (.int .i64 _) hF ?_
  refine zD hF (y_eqlT rf rf) ?_
  refine zD hF (zpk (.bool _)) ?_
  refine zm (.bool _) hF ?_
  refine zm (.slice _ _ _) hF ?_
  refine WS_newS hF rf (y_buildSliceL bs22_4_0_1_2_3 rf) (fun k1 => ?_)
  refine zD hF (y_callL rf rf Tryz.call23 (fun w hw => Ct_eq (c' := .bool true) (sameInts2_any _ _ _ _ _ _ [0, 2, 4, 6] [0, 2, 4, 6] w dc (NewRow.ints hm rfl sbA w hw) (Ints.mem (rest := []) 0 rf rf dc w hw)) (by simp))) ?_
  refine zD hF (zpk (.bool _)) ?_
  refine zm (.bool _) hF ?_
  refine zm (.int .i64 _) hF ?_
  refine zD hF (y_eqlT rf rf) ?_
  refine zD hF (zpk (.bool _)) ?_
  refine zm (.bool _) hF ?_
  refine zm (.int .i64 _) hF ?_
  refine zD hF (y_eqlT rf rf) ?_
  refine zD hF (zpk (.bool _)) ?_
  refine zm (.bool _) hF ?_
  refine zm (.int .i64 _) hF ?_
  refine zD hF (y_eqlT rf rf) ?_
  refine zD hF (zpk (.bool _)) ?_
  refine zm (.bool _) hF ?_
  refine zm (.int .i64 _) hF ?_
  refine zD hF (y_eqlT rf rf) ?_
  refine zD hF (zpk (.bool _)) ?_
  refine zm (.bool _) hF ?_
  refine zm (.slice _ _ _) hF ?_
  refine WS_newS hF rf (y_buildSliceL bs22_12_0_1_2_3_4_5_6_7_8_9_10_11 rf) (fun k2 => ?_)
  refine WS_gen hF rf (y_callL rf rf Tryz.call44 (fun w hw => l8pours_any w4.l _ _ w dc (Ints.mem (rest := []) 0 rf rf dc w hw))) ?_
  rintro _ HP ⟨p9, q9, rfl, hpp⟩
  refine WS_back ?_
  refine zD hF (y_callL rf rf Tryz.call45 (fun w hw => samePo_any w4.l _ _ _ _ w dc (hP4 _ _ w sbA hw) (NewRow.rws po_len hpp rfl sbA w hw))) ?_
  refine zD hF (zpk (.bool _)) ?_
  refine zm (.bool _) hF ?_
  refine zm (.int .i64 _) hF ?_
  refine zD hF (y_eqlT rf rf) ?_
  refine zD hF (zpk (.bool _)) ?_
  refine zm (.bool _) hF ?_
  refine zm (.int .i64 _) hF ?_
  refine zD hF (y_eqlT rf rf) ?_
  refine zD hF (zpk (.bool _)) ?_
  refine zm (.bool _) hF ?_
  refine zm (.slice _ _ _) hF ?_
  refine WS_newS hF rf (y_buildSliceL bs22_8_0_1_2_3_4_5_6_7 rf) (fun k3 => ?_)
  refine WS_gen hF rf (y_callL rf rf Tryz.call44 (fun w hw => l8pours_any w1.l _ _ w dc (Ints.mem (rest := []) 0 rf rf dc w hw))) ?_
  rintro _ HP ⟨p9, q9, rfl, hpp⟩
  refine WS_back ?_
  refine zD hF (y_callL rf rf Tryz.call45 (fun w hw => samePo_any w1.l _ _ _ _ w dc (hP1 _ _ w sbA hw) (NewRow.rws po_len hpp rfl sbA w hw))) ?_
  refine zD hF (zpk (.bool _)) ?_
  refine zm (.bool _) hF ?_
  refine zm (.int .i64 _) hF ?_
  refine zD hF (y_eqlT rf rf) ?_
  refine zD hF (zpk (.bool _)) ?_
  refine zm (.bool _) hF ?_
  refine zm (.slice _ _ _) hF ?_
  refine WS_newS hF rf (y_buildSliceL bs22_6_0_1_2_3_4_5 rf) (fun k4 => ?_)
  refine WS_gen hF rf (y_callL rf rf Tryz.call44 (fun w hw => l8pours_any w6.l _ _ w dc (Ints.mem (rest := []) 0 rf rf dc w hw))) ?_
  rintro _ HP ⟨p9, q9, rfl, hpp⟩
  refine WS_back ?_
  refine zD hF (y_callL rf rf Tryz.call45 (fun w hw => samePo_any w6.l _ _ _ _ w dc (hP6 _ _ w sbA hw) (NewRow.rws po_len hpp rfl sbA w hw))) ?_
  refine zD hF (zpk (.bool _)) ?_
  refine zm (.bool _) hF ?_
  refine zm (.int .i64 _) hF ?_
  refine zD hF (y_eqlT rf rf) ?_
  refine zD hF (zpk (.bool _)) ?_
  refine zm (.bool _) hF ?_
  refine zm (.int .i64 _) hF ?_
  refine zD hF (y_eqlT rf rf) ?_
  refine zD hF (zpk (.bool _)) ?_
  refine zm (.bool _) hF ?_
  refine zm (.int .i64 _) hF ?_
  refine zD hF (y_eqlT rf rf) ?_
  refine zD hF (zpk (.bool _)) ?_
  refine zm (.bool _) hF ?_
  refine zm (.int .i64 _) hF ?_
  refine zD hF (y_eqlT rf rf) ?_
  refine zD hF (zpk (.bool _)) ?_
  refine zm (.bool _) hF ?_
  refine zm (.int .i64 _) hF ?_
  refine zD hF (y_eqlT rf rf) ?_
  refine zD hF (zpk (.bool _)) ?_
  refine zm (.bool _) hF ?_
  refine zm (.int .i64 _) hF ?_
  refine zD hF (y_eqlT rf rf) ?_
  refine zD hF (zpk (.bool _)) ?_
  refine zm (.bool _) hF ?_
  refine zm (.int .i64 _) hF ?_
  refine zD hF (y_eqlT rf rf) ?_
  refine zD hF (zpk (.bool _)) ?_
  refine zm (.bool _) hF ?_
  refine zm (.slice _ _ _) hF ?_
  refine zD hF (y_len rf Tryz.runUnderlying34) ?_
  refine zD hF (y_eqlT rf rf) ?_
  refine zD hF (zpk (.bool _)) ?_
  refine zm (.bool _) hF ?_
  refine zm (.slice _ _ _) hF ?_
  refine zD hF (y_index (k := 2) rf rf r10 d10 Tryz.runUnderlying34 Tryz.sizeOf24) ?_
  refine zD hF (y_fieldAddr rf fa24_2) ?_
  refine zD hF (y_load1 rf Tryz.isAgg3 (fun w hw => ⟨((NewRow.rws (bl_len bef0) hrow rfl sbA w hw).at (k := 2) (by simp)).2.2.1, trivial⟩)) ?_
  refine zD hF (y_eqlT rf rf) ?_
  refine zD hF (zpk (.bool _)) ?_
  refine zm (.bool _) hF ?_
  refine zm (.slice _ _ _) hF ?_
  refine zD hF (y_index (k := 2) rf rf r10 d10 Tryz.runUnderlying34 Tryz.sizeOf24) ?_
  refine zD hF (y_fieldAddr rf fa24_1) ?_
  refine zD hF (y_load1 rf Tryz.isAgg22 (fun w hw => ⟨((NewRow.rws (bl_len bef0) hrow rfl sbA w hw).at (k := 2) (by simp)).2.1, trivial⟩)) ?_
  refine zD hF (y_index (k := 0) rf rf rf (show 0 < 2 by decide) Tryz.runUnderlying22 Tryz.sizeOf3) ?_
  refine zD hF (y_load1 rf Tryz.isAgg3 (fun w hw => (hrd2.i _ _ w sbA hw).at (k := 0) om0)) ?_
  refine zD hF (y_eqlT rf rf) ?_
  refine zD hF (zpk (.bool _)) ?_
  refine zm (.bool _) hF ?_
  refine zm (.int .i64 _) hF ?_
  refine zD hF (y_eqlT rf rf) ?_
  refine zD hF (zpk (.bool _)) ?_
  refine zm (.bool _) hF ?_
  refine zD hF (y_fieldAddr rf fa24_2) ?_
  refine zD hF (y_load1 rf Tryz.isAgg3 (Mem.own1 5 rf rf)) ?_
  refine zD hF (y_eqlT rf rf) ?_
  refine zD hF (zpk (.bool _)) ?_
  refine za (.bool _) hF ?_
  refine zN ?_
  refine W_ret ?_
  refine Fin_ret [.bool _] [] Tryz.results13 ⟨by rfl, trivial⟩ HSub.nil ?_
  rfl
set_option maxHeartbeats 1000000
section
variable {c : Cn} {B0 : Bl} {ps : List Po} {bs : List Bl} {aA : Option Addr} {kA : Nat} {HA : List Blk} {aL : Option Addr} {kL : Nat} {HL HX : List Blk}
theorem WkS.get (h : WkS c B0 ps bs aA kA HA aL kL HL HX) (h0 : B0.x = c.co) {k : Nat} (hk : k ≤ bs.length) : ∃ y : Bl, y = (B0 :: bs).getD k Bl.z ∧ y.x = c.runK ps k ∧ (y = B0 ∨ y.RdH c HX) := by
 refine ⟨_, rfl, h.at h0 hk, ?_⟩
 cases k with
 | zero => exact .inl rfl
 | succ k =>
  refine .inr (h.rd _ ?_)
  show bs.getD k Bl.z ∈ _
  rw [List.getD_eq_getElem?_getD, List.getElem?_eq_getElem om0]
  exact List.getElem_mem _
theorem WkS.cell {br : Nat} (h : WkS c B0 ps bs (some ⟨br, 0, none⟩) kA HA aL kL HL HX) {k : Nat} (hk : k ≤ bs.length) {y : Bl} (hy : y = (B0 :: bs).getD k Bl.z) {C : Ctx} {H : List Blk} (hs : HA.Sublist H) (w : World) (hw : St C H w) : At w br (0 + k * 3) [.slice y.s c.n y.ks, .slice y.i (c.of y.x).inn.length y.ki, .int .i64 y.x.a] := by
 rw [hy]; exact (NewRow.rws (bl_len c) h.rowA rfl hs w hw).at (k := k) (by simp; omega)
theorem WkS.pcell {bl : Nat} (h : WkS c B0 ps bs aA kA HA (some ⟨bl, 0, none⟩) kL HL HX) {k : Nat} (hk : k < ps.length) {C : Ctx} {H : List Blk} (hs : HL.Sublist H) (w : World) (hw : St C H w) : At w bl (0 + k * 2) (ps.getD k Po.z).cells :=
 (NewRow.rws po_len h.rowL rfl hs w hw).at (k := k) hk
theorem WkS.pos (h : WkS c B0 ps bs aA kA HA aL kL HL HX) {C : Ctx} {H : List Blk} (hs : HL.Sublist H) (w : World) (hw : St C H w) : Pos w aL ps.length kL ps := NewRow.rws po_len h.rowL rfl hs w hw
end
theorem Cn.b0x (c : Cn) (a1 : Option Addr) (p1 : Nat) (a2 : Option Addr) (p2 : Nat) : (c.b0 a1 p1 a2 p2).x = c.co := rfl
theorem Cn.b0i {c : Cn} (hok : c.Ok) {a1 : Option Addr} {p1 : Nat} {a2 : Option Addr} {p2 : Nat} {w : World} (h2 : Ints w a2 c.inn.length p2 c.inn) : Ints w (c.b0 a1 p1 a2 p2).i (c.of (c.b0 a1 p1 a2 p2).x).inn.length (c.b0 a1 p1 a2 p2).ki (c.of (c.b0 a1 p1 a2 p2).x).inn := by
 rw [show (c.of (c.b0 a1 p1 a2 p2).x).inn = c.inn by show (c.of c.co).inn = _; rw [hok.co_of]]; exact h2
theorem Cn.sum_sm {c : Cn} (hok : c.Ok) {x : Co} (hx : c.In x) : x.a + sumL (c.of x).inn = x.sm := by
 rw [Cn.sum_of hok hx]; unfold Co.sm; omega
theorem Cn.RunOk.sm {c : Cn} (hok : c.Ok) {l : List Po} {k : Nat} (h : c.RunOk l l.length) (hk : k ≤ l.length) : (c.runK l k).sm = c.co.sm := by
 have hw : c.Way ⟨l.take k, c.backK l k⟩ (c.runK l k) := Cn.RunOk.way (fun j hj => h j om0) hk
 exact (hw.in hok).2
theorem Cn.runK_take (c : Cn) (l : List Po) {k : Nat} (hk : k ≤ l.length) : ∀ j, j ≤ k → c.runK (l.take k) j = c.runK l j ∧ c.backK (l.take k) j = c.backK l j
 | 0, _ => ⟨rfl, rfl⟩
 | j + 1, h => by
  have ih := Cn.runK_take c l hk j om0
  have e : c.runK (l.take k) (j + 1) = c.runK l (j + 1) := by
   unfold Cn.runK
   rw [ih.1]
   congr 1
   simp [List.getD_eq_getElem?_getD, show j < k by omega]
  refine ⟨e, ?_⟩
  unfold Cn.backK
  rw [e, ih.1, ih.2]
theorem Cn.RunOk.take {c : Cn} {l : List Po} {k : Nat} (h : c.RunOk l l.length) (hk : k ≤ l.length) : c.RunOk (l.take k) (l.take k).length := fun j hj => by
 rw [List.length_take] at hj
 rw [(Cn.runK_take c l hk j om0).1, show (l.take k).getD j Po.z = l.getD j Po.z by simp [List.getD_eq_getElem?_getD, show j < k by omega]]
 exact h j om0
theorem Cn.runK_drop {c : Cn} (hok : c.Ok) {l : List Po} (h : c.RunOk l l.length) {k : Nat} (hk : k ≤ l.length) : ∀ j, k + j ≤ l.length → (c.of (c.runK l k)).runK (l.drop k) j = c.runK l (k + j) ∧ (c.of (c.runK l k)).backK (l.drop k) j + c.backK l k = c.backK l (k + j)
 | 0, _ => by
  have hin : c.In (c.runK l k) := hok.run_in fun j hj => h j om0
  refine ⟨hok.of_co hin, ?_⟩
  show (0 : Int) + _ = _
  rw [Int.zero_add]; rfl
 | j + 1, hj => by
  have ih := Cn.runK_drop hok h hk j om0
  have e : (c.of (c.runK l k)).runK (l.drop k) (j + 1) = c.runK l (k + (j + 1)) := by
   show (c.of (c.runK l k)).stp ((c.of (c.runK l k)).runK (l.drop k) j) ((l.drop k).getD j Po.z) = c.stp (c.runK l (k + j)) (l.getD (k + j) Po.z)
   rw [ih.1, show (l.drop k).getD j Po.z = l.getD (k + j) Po.z by simp [List.getD_eq_getElem?_getD]]
   rfl
  refine ⟨e, ?_⟩
  show (c.of (c.runK l k)).backK (l.drop k) j + bk ((c.of (c.runK l k)).runK (l.drop k) j) ((c.of (c.runK l k)).runK (l.drop k) (j + 1)) + c.backK l k = c.backK l (k + j) + bk (c.runK l (k + j)) (c.runK l (k + j + 1))
  rw [e, ih.1, ← ih.2, show k + (j + 1) = k + j + 1 from rfl]
  omega
theorem Cn.RunOk.drop {c : Cn} (hok : c.Ok) {l : List Po} {k : Nat} (h : c.RunOk l l.length) (hk : k ≤ l.length) : (c.of (c.runK l k)).RunOk (l.drop k) (l.drop k).length := fun j hj => by
 rw [List.length_drop] at hj
 rw [(Cn.runK_drop hok h hk j om0).1, show (l.drop k).getD j Po.z = l.getD (k + j) Po.z by simp [List.getD_eq_getElem?_getD]]
 exact h (k + j) om0
theorem PlayV.run {c : Cn} (hok : c.Ok) {l : List Po} (h : c.RunOk l l.length) {v : Value} {Hn : List Blk} (hv : PlayV c l v Hn) : ∃ v0, v = .tuple #[v0, .int .i64 (c.backK l l.length), .int .i64 0, .int .i64 0] ∧ TwinC (c.of (c.runK l l.length)) v0 Hn := by
 have hb : c.bad l = none := Cn.badK_none fun j _ hj => h j om0
 have hB := Cn.ok_iff.2 hok
 obtain ⟨v0, rfl, hT⟩ := hv
 unfold Cn.plC at hT
 unfold Cn.plB Cn.plA Cn.plE
 rw [if_pos hB, hb] at hT
 rw [if_pos hB, if_pos hB, if_pos hB, hb]
 exact ⟨v0, rfl, hT⟩
theorem play_n (c : Cn) (a1 : Option Addr) (p1 : Nat) (a2 : Option Addr) (p2 : Nat) (l : List Po) (la : Option Addr) (lcap m : Nat) (w : World) (hG : Gv w) (hlm : l.length = m) (hl : m ≤ 1000000) (hn : c.n ≤ 1000000) (hm : c.inn.length ≤ 1000000) (h1 : Ints w a1 c.n p1 c.sz) (h2 : Ints w a2 c.inn.length p2 c.inn) (hp : Pos w la m lcap l) : Ct Tryz.prog 39 #[.agg #[.slice a1 c.n p1, .slice a2 c.inn.length p2, .int .i64 c.st], .slice la m lcap] w (PlayV c l) := by
 subst hlm
 exact play_any c a1 p1 a2 p2 l la lcap w hG hl hn hm h1 h2 hp
theorem Cn.pour_run {c : Cn} (hok : c.Ok) {l : List Po} (h : c.RunOk l l.length) {k : Nat} (hk : k < l.length) : (c.of (c.runK l k)).poE (l.getD k Po.z) = 0 ∧ (c.of (c.runK l k)).poC (l.getD k Po.z) = c.of (c.runK l (k + 1)) := by
 have hin : c.In (c.runK l k) := hok.run_in fun j hj => h j om0
 have hoc := hok.of_co hin
 have hB := Cn.ok_iff.2 (hok.of hin)
 have hp : (c.of (c.runK l k)).pE (c.of (c.runK l k)).co (l.getD k Po.z) = 0 := by rw [Cn.of_pE hoc]; exact h k hk
 unfold Cn.poE Cn.poC
 rw [if_pos hB, if_pos hB, hp, if_pos rfl, hoc]
 exact ⟨rfl, rfl⟩
set_option maxRecDepth 100000
set_option maxHeartbeats 4000000
theorem same_true {c d : Cn} (h : c = d) : Value.bool (decide (c.sz = d.sz) && decide (c.inn = d.inn) && decide (c.st = d.st)) = .bool true := by
 subst h; simp
theorem PlayV.take {c : Cn} (hok : c.Ok) {l : List Po} (h : c.RunOk l l.length) {k : Nat} (hk : k ≤ l.length) {v : Value} {Hn : List Blk} (hv : PlayV c (l.take k) v Hn) : ∃ v0, v = .tuple #[v0, .int .i64 (c.backK l k), .int .i64 0, .int .i64 0] ∧ TwinC (c.of (c.runK l k)) v0 Hn := by
 obtain ⟨v0, rfl, hT⟩ := PlayV.run hok (h.take hk) hv
 have hl : (l.take k).length = k := by rw [List.length_take]; omega
 rw [hl] at hT ⊢
 rw [(Cn.runK_take c l hk k (Nat.le_refl _)).1] at hT
 rw [(Cn.runK_take c l hk k (Nat.le_refl _)).2]
 exact ⟨v0, rfl, hT⟩
theorem PlayV.drop {c : Cn} (hok : c.Ok) {l : List Po} (h : c.RunOk l l.length) {k : Nat} (hk : k ≤ l.length) {v : Value} {Hn : List Blk} (hv : PlayV (c.of (c.runK l k)) (l.drop k) v Hn) : ∃ v0 n, v = .tuple #[v0, .int .i64 n, .int .i64 0, .int .i64 0] ∧ n + c.backK l k = c.backK l l.length ∧ TwinC (c.of (c.runK l l.length)) v0 Hn := by
 have hin : c.In (c.runK l k) := hok.run_in fun j hj => h j om0
 obtain ⟨v0, rfl, hT⟩ := PlayV.run (hok.of hin) (h.drop hok hk) hv
 have hd := Cn.runK_drop hok h hk (l.drop k).length (by rw [List.length_drop]; omega)
 have hkl : k + (l.drop k).length = l.length := by rw [List.length_drop]; omega
 rw [hkl] at hd
 rw [hd.1] at hT
 exact ⟨v0, _, rfl, hd.2, hT⟩
theorem NewRow.cap_le {T : TypeId} {sz m cap : Nat} {us : List Value} {a : Option Addr} {Hn : List Blk} (h : NewRow T sz m us (.slice a m cap) Hn) : m ≤ cap := by
 obtain ⟨a', cap', he, hle, _⟩ := h
 cases he; exact hle
theorem canKept_any (c : Cn) (a1 : Option Addr) (p1 : Nat) (a2 : Option Addr) (p2 : Nat) (ba : Option Addr) (bn bcap : Nat) (by_ : List Int) (x : Nat) (w : World) (hG : Gv w) (hx : x ≤ 255) (h1 : Ints w a1 c.n p1 c.sz) (h2 : Ints w a2 c.inn.length p2 c.inn) (hby : U4s w ba bn bcap by_) : Ct Tryz.prog 9 #[.agg #[.slice a1 c.n p1, .slice a2 c.inn.length p2, .int .i64 c.st], .slice ba bn bcap, .int .u8 (x : Int)] w fun v _ => v = .bool true := by
 have hF := wide_wide
 refine Ct_start (args := [_, _, _]) Tryz.func9 rf Tryz.ntmps9 rf ?_
 refine zR fun ds => ?_
 refine WS_new hF rf (y_box rf) (fun b1 => ?_)
 refine za (.bool _) hF ?_
 refine zP fun ds => ?_
 refine zD hF (y_callL rf rf Tryz.call13 (fun w hw => calive_any w (hG.st w hw))) ?_
 refine za (.bool _) hF ?_
 refine zO ?_
 refine zR fun ds => ?_
 refine zD hF (y_loadN rf Tryz.isAgg24 Tryz.sizeOf24 (Mem.own (us := [.slice _ _ _, .slice _ _ _, .int .i64 _]) 0 rf rf) rf) ?_
 refine zD hF (y_callL rf rf Tryz.call14 (fun w hw => lrdy_any c a1 p1 a2 p2 w (h1.st w hw) (h2.st w hw))) ?_
 refine zD hF (y_not rf) ?_
 refine zm (.bool _) hF ?_
 refine WS_split 31 rf (fun g2_3 => ?_) (fun g2_3 => ?_)
 ·
  try simp only [qz1, qz2, qz3, qz4, qz5, qz6, qz7, qz8] at g2_3
  refine zno hF ?_
  refine zno hF ?_
  refine zD hF (zpk (.bool _)) ?_
  refine zN ?_
  refine W_cond rf (fun c2 => ?_) (fun c2 => ?_)
  ·
   try simp only [qz1, qz2, qz3, qz4, qz5, qz6, qz7, qz8] at c2
   refine zR fun ds => ?_
   refine zm (.bool _) hF ?_
   refine za (.bool _) hF ?_
   refine zN ?_
   refine W_ret ?_
   refine Then_ret ?_
   refine Fin_ret [.bool _] [] Tryz.results9 ⟨by rfl, trivial⟩ HSub.nil ?_
   rfl
  ·cases c2
 ·
  try simp only [qz1, qz2, qz3, qz4, qz5, qz6, qz7, qz8] at g2_3
  have hokB : c.okB = true := by simpa using g2_3
  have hok := Cn.ok_iff.1 hokB
  have hn1 := hok.n1
  have hn3 := hok.n3
  have hlen := hok.len
  have hn : c.n ≤ 1000000 := by omega
  have hm : c.inn.length ≤ 1000000 := by omega
  have hB2 := Cn.b0i hok (a1 := a1) (p1 := p1) h2
  refine zm (.bool _) hF ?_
  refine zD hF (y_not rf) ?_
  refine zD hF (zpk (.bool _)) ?_
  refine zN ?_
  refine W_cond rf (fun c2 => ?_) (fun c2 => ?_)
  ·cases c2
  ·
   try simp only [qz1, qz2, qz3, qz4, qz5, qz6, qz7, qz8] at c2
   refine W_skip ?_
   refine zS fun ds => ?_
   refine zD hF (y_loadN rf Tryz.isAgg24 Tryz.sizeOf24 (Mem.own (us := [.slice _ _ _, .slice _ _ _, .int .i64 _]) 0 rf rf) rf) ?_
   refine zm (.slice _ _ _) hF ?_
   refine WS_gen hF rf (y_callL rf rf Tryz.call17 (fun w hw => lwalk_any c a1 p1 a2 p2 ba bn bcap by_ 15 w hok hn hm (h1.st w hw) (h2.st w hw) om0 (hby.st w hw))) ?_
   rintro _ _ ⟨ps, bs, aA, kA, HA, aL, kL, HL, HX, rfl, hpl, hS, rfl⟩
   obtain ⟨br, rfl⟩ := NewRow.adr hS.rowA (by simp)
   have hBl := hS.len
   have hcl : (c.b0 a1 p1 a2 p2 :: bs).length = bs.length + 1 := rfl
   refine WS_back ?_
   refine zm (.tuple _) hF ?_
   refine zD hF (y_extract (c := .slice _ _ _) rf rf) ?_
   refine zD hF (y_extract (c := .slice _ _ _) rf rf) ?_
   refine za (.slice _ _ _) hF ?_
   refine za (.slice _ _ _) hF ?_
   refine zO ?_
   refine zR fun ds => ?_
   refine zm (.slice _ _ _) hF ?_
   refine zD hF (y_len rf Tryz.runUnderlying35) ?_
   refine zm (.int .i64 _) hF ?_
   refine zN ?_
   refine W_block ?_
   refine W_loop (γ := Nat) (fun i => i ≤ ps.length) (fun i => [(2, .int .u8 (x : Int)), (3, .pointer (some ⟨b1, 0, none⟩)), (7, .bool true), (8, .slice (some ⟨br, 0, none⟩) (c.b0 a1 p1 a2 p2 :: bs).length kA), (9, .slice aL ps.length kL), (42, .slice aL ps.length kL), (43, .int .i64 (ps.length : Int)), (44, .int .i64 (i : Int))]) (fun i => (b1, CB [.slice a1 c.n p1, .slice a2 c.inn.length p2, .int .i64 c.st] 24) :: (HX ++ (HA ++ HL))) (fun i => ps.length - i) (0) (Nat.zero_le _) s10 (sbA) ?_
   rintro i e hi
   refine zR fun ds => ?_
   refine zD hF (y_lss rf rf) ?_
   refine zO ?_
   refine W_cond rf (fun c6 => ?_) (fun c6 => ?_)
   ·
    try simp only [qz1, qz2, qz3, qz4, qz5, qz6, qz7, qz8] at c6
    have hil : i < ps.length := by omega
    obtain ⟨bl, rfl⟩ := NewRow.adr hS.rowL om0
    obtain ⟨y, hy, hyx, hyr⟩ := hS.get (c.b0x a1 p1 a2 p2) (k := i) om0
    obtain ⟨y2, hy2, hyx2, hyr2⟩ := hS.get (c.b0x a1 p1 a2 p2) (k := i + 1) om0
    have hin : c.In y.x := by rw [hyx]; exact hok.run_in fun j hj => hS.run j om0
    have hin2 : c.In y2.x := by rw [hyx2]; exact hok.run_in fun j hj => hS.run j om0
    have hpr := Cn.pour_run hok hS.run hil
    rw [← hyx, ← hyx2] at hpr
    obtain ⟨⟨pf, pt⟩, hp⟩ : ∃ p, p = ps.getD i Po.z := ⟨_, rfl⟩
    rw [← hp] at hpr
    have hs1 : (c.of y2.x).st + sumL (c.of y2.x).inn = c.co.sm := by
     show y2.x.a + sumL (c.of y2.x).inn = _
     rw [Cn.sum_sm hok hin2, hyx2, hS.run.sm hok om0]
    have hs2 : c.st + sumL c.inn = c.co.sm := by
     have := Cn.sum_sm hok hok.co_in
     rw [hok.co_of] at this; exact this
    have hok3 := hok.of hin2
    have hl3 := c.of_len y.x hn3
    have hl4 := c.of_len y2.x hn3
    refine zU ?_
    refine W_seq ?_
    refine W_block ?_
    refine zR fun ds => ?_
    refine zm (.int .i64 _) hF ?_
    refine zD hF (y_index (k := i) rf rf r10 d10 Tryz.runUnderlying35 Tryz.sizeOf47) ?_
    refine zD hF (y_loadN rf Tryz.isAgg47 Tryz.sizeOf47 (fun w hw => (show At w bl (0 + i * 2) [.int .i64 pf, .int .i64 pt] by have h := hS.pcell hil sbA w hw; rw [← hp] at h; exact h)) rf) ?_
    refine WS_new hF rf (y_alloc Tryz.zeroValue47 rf) (fun bp => ?_)
    refine za (.int .i64 _) hF ?_
    refine WS_store hF (us := [.int .i64 _, .int .i64 _]) (i := 0) rf rf Tryz.sizeOf47 rf rf rf d20 ?_
    refine zO ?_
    refine W_draw0 hF Tryzmixed [12] dk0 (fun ds => ?_)
    refine P_det rf (Over_nil (y_move (c := .slice _ _ _) rf)) ?_
    refine P_det rf (Over_nil (y_move (c := .int .i64 _) rf)) ?_
    refine P_det rf (Over_nil (y_index (k := i) rf rf r10 d10 Tryz.runUnderlying34 Tryz.sizeOf24)) ?_
    refine P_det rf (Over_nil (y_loadN rf Tryz.isAgg24 Tryz.sizeOf24 (hS.cell om0 hy sbA) rf)) ?_
    refine P_det rf (Over_nil (y_loadN rf Tryz.isAgg47 Tryz.sizeOf47 (Mem.own (us := [.int .i64 _, .int .i64 _]) 0 rf rf) rf)) ?_
    refine P_new rf rf (Over_nil (y_callL rf rf Tryz.call38 (fun w hw => pour_any (c.of y.x) y.s y.ks y.i y.ki ⟨pf, pt⟩ w (hG.st w hw) hn om0 (Bl.ints hyr h1 hB2 sbA w hw).1 (Bl.ints hyr h1 hB2 sbA w hw).2))) ?_
    refine P_ali [55] (fun e => e 55) rf rf rf (fun _ _ h => h 55 (List.mem_singleton.2 rfl)) (Over_in rf (Over_nil (by intro vb3 l55 hb3; obtain ⟨_, rfl, hT⟩ := hb3; rw [hpr.2] at hT; rw [hpr.1]; obtain ⟨z1, q1, z2, q2, H1, H2, rfl, hr1, hr2, hJ⟩ := hT; obtain ⟨JJ, rfl⟩ : ∃ JJ, JJ = l55 := ⟨_, rfl⟩; exact (YD0_of (y_move (c := .tuple _) rf))))) ?_
    refine P_ali [49] (fun e => tupAt (e 49) 0) rf rf rf (fun _ _ h => congrArg (tupAt · 0) (h 49 (List.mem_singleton.2 rfl))) (Over_in rf (Over_in rf (Over_nil (by intro vb5 l55 hb5; obtain ⟨_, rfl, hT⟩ := hb5; rw [hpr.2] at hT; rw [hpr.1]; obtain ⟨z1, q1, z2, q2, H1, H2, rfl, hr1, hr2, hJ⟩ := hT; obtain ⟨JJ, rfl⟩ : ∃ JJ, JJ = l55 := ⟨_, rfl⟩; rintro vb6 _ ⟨hvb6, rfl⟩; replace hvb6 : vb6 = .tuple _ := hvb6; subst hvb6; exact (YD0_of (y_extract (c := .agg _) rf rf)))))) ?_
    refine P_ali [49] (fun e => tupAt (e 49) 1) rf rf rf (fun _ _ h => congrArg (tupAt · 1) (h 49 (List.mem_singleton.2 rfl))) (Over_out rf (Over_in rf (Over_in rf (Over_nil (by intro vb8 l55 hb8; obtain ⟨_, rfl, hT⟩ := hb8; rw [hpr.2] at hT; rw [hpr.1]; obtain ⟨z1, q1, z2, q2, H1, H2, rfl, hr1, hr2, hJ⟩ := hT; obtain ⟨JJ, rfl⟩ : ∃ JJ, JJ = l55 := ⟨_, rfl⟩; rintro vb9 _ ⟨hvb9, rfl⟩; replace hvb9 : vb9 = .tuple _ := hvb9; subst hvb9; exact (YD0_of (y_extract (c := .int .i64 _) rf rf))))))) ?_
    refine P_newSD 56 rf rf rf (Over_out rf (Over_out rf (Over_out rf (Over_out rf (Over_nil (y_alloc Tryz.zeroValue24 rf)))))) ?_
    refine P_st 12 0 rf rf rf rf rf (Over_out rf (Over_in rf (Over_in rf (Over_in rf (Over_nil (by intro vb11 l55 hb11; obtain ⟨_, rfl, hT⟩ := hb11; rw [hpr.2] at hT; rw [hpr.1]; obtain ⟨z1, q1, z2, q2, H1, H2, rfl, hr1, hr2, hJ⟩ := hT; obtain ⟨JJ, rfl⟩ : ∃ JJ, JJ = l55 := ⟨_, rfl⟩; rintro vb12 _ ⟨hvb12, rfl⟩; replace hvb12 : vb12 = .tuple _ := hvb12; subst hvb12; rintro vb13 _ ⟨hvb13, rfl⟩; replace hvb13 : vb13 = .agg _ := hvb13; subst hvb13; exact (st_newD rf rf Tryz.sizeOf24 rf rf d20))))))) ?_
    refine P_ali [57] (fun e => e 57) rf rf rf (fun _ _ h => h 57 (List.mem_singleton.2 rfl)) (Over_out rf (Over_in rf (Over_out rf (Over_in rf (Over_in rf (Over_nil (by intro vb14 l55 hb14; obtain ⟨_, rfl, hT⟩ := hb14; rw [hpr.2] at hT; rw [hpr.1]; obtain ⟨z1, q1, z2, q2, H1, H2, rfl, hr1, hr2, hJ⟩ := hT; obtain ⟨JJ, rfl⟩ : ∃ JJ, JJ = l55 := ⟨_, rfl⟩; rintro vb15 _ ⟨hvb15, rfl⟩; replace hvb15 : vb15 = .tuple _ := hvb15; subst hvb15; rintro vb16 _ ⟨hvb16, rfl⟩; replace hvb16 : vb16 = .int .i64 _ := hvb16; subst hvb16; exact (YD0_of (y_assign (c := .int .i64 _) rf))))))))) ?_
    refine PW_end rf ?_
    refine OverAll_cons (fun w13 l13 => ?_)
    refine OverAll_cons (fun w12 l12 => ?_)
    refine OverAll_cons (fun w57 l57 => ?_)
    refine OverAll_cons (fun w56 l56 => ?_)
    refine OverAll_cons (fun w49 l49 => ?_)
    refine OverAll_cons (fun w55 l55 => ?_)
    refine OverAll_nil ?_
    rintro ⟨⟨⟨⟨⟨⟨-, h13⟩, h12⟩, h57⟩, h56⟩, h49⟩, h55⟩
    obtain ⟨_, rfl, hT⟩ := h55
    rw [hpr.2] at hT
    rw [hpr.1]
    obtain ⟨z1, q1, z2, q2, H1, H2, rfl, hr1, hr2, hJ⟩ := hT
    obtain ⟨JJ, rfl⟩ : ∃ JJ, JJ = l55 := ⟨_, rfl⟩
    obtain ⟨h49, rfl⟩ := h49
    replace h49 : w49 = .tuple _ := h49
    subst h49
    obtain ⟨h56, rfl⟩ := h56
    replace h56 : w56 = .agg _ := h56
    subst h56
    obtain ⟨h57, rfl⟩ := h57
    replace h57 : w57 = .int .i64 _ := h57
    subst h57
    obtain ⟨h13, rfl⟩ := h13
    replace h13 : w13 = .int .i64 _ := h13
    subst h13
    obtain ⟨bd, rfl, rfl⟩ := h12
    refine Then_normal ?_
    refine W_seq ?_
    refine W_pull (b1, CB [.slice a1 c.n p1, .slice a2 c.inn.length p2, .int .i64 c.st] 24) zu ?_
    refine W_pull (bd, CB [.slice z1 (c.of y2.x).n q1, .slice z2 (c.of y2.x).inn.length q2, .int .i64 (c.of y2.x).st] 24) zu ?_
    refine W_sub (HSub.sub (Hn := (bd, _) :: (b1, _) :: (JJ ++ (HX ++ (HA ++ HL)))) sbA) ?_
    have hq1 : (H1 ++ H2).Sublist JJ := by rw [hJ]; exact List.Sublist.refl _
    have hq2 := (List.sublist_append_left H1 H2).trans hq1
    have hq3 := (List.sublist_append_right H1 H2).trans hq1
    refine W_draw0 hF Tryzmixed [] dk0 (fun ds => ?_)
    refine P_det rf (Over_nil (y_move (c := .int .i64 _) rf)) ?_
    refine P_det rf (Over_nil (YD_no (y_neq rf rf) dect)) ?_
    refine P_det rf (Over_nil (y_move (c := .bool _) rf)) ?_
    refine P_det rf (Over_nil (y_loadN rf Tryz.isAgg24 Tryz.sizeOf24 (Mem.own (us := [.slice _ _ _, .slice _ _ _, .int .i64 _]) 0 rf rf) rf)) ?_
    refine P_det rf (Over_nil (y_move (c := .slice _ _ _) rf)) ?_
    refine P_det rf (Over_nil (y_move (c := .int .i64 _) rf)) ?_
    refine P_det rf (Over_nil (y_add rf rf ui)) ?_
    refine P_det rf (Over_nil (y_index (k := i + 1) rf rf r10 d10 Tryz.runUnderlying34 Tryz.sizeOf24)) ?_
    refine P_det rf (Over_nil (y_loadN rf Tryz.isAgg24 Tryz.sizeOf24 (hS.cell om0 hy2 sbA) rf)) ?_
    refine P_det rf (Over_nil (y_callL rf rf Tryz.call25 (fun w hw => Ct_eq (rcsame_any (c.of y2.x) z1 q1 z2 q2 (c.of y2.x) y2.s y2.ks y2.i y2.ki w hn om0 (NewRow.ints hr1 rfl (hq2.trans sbA) w hw) (NewRow.ints hr2 rfl (hq3.trans sbA) w hw) (Bl.ints hyr2 h1 hB2 sbA w hw).1 (Bl.ints hyr2 h1 hB2 sbA w hw).2) (same_true rfl)))) ?_
    refine P_det rf (Over_nil (y_not rf)) ?_
    refine P_det rf (Over_nil (by first | exact y_pick_t (c := .bool _) rf rf | exact y_pick_f (c := .bool _) rf rf)) ?_
    refine P_det rf (Over_nil (y_move (c := .bool _) rf)) ?_
    refine P_det rf (Over_nil (y_loadN rf Tryz.isAgg24 Tryz.sizeOf24 (Mem.own (us := [.slice _ _ _, .slice _ _ _, .int .i64 _]) 0 rf rf) rf)) ?_
    refine P_det rf (Over_nil (y_callL rf rf Tryz.call33 (fun w hw => rcsum_any (c.of y2.x) z1 q1 z2 q2 w hok3.inn_bd.1 ⟨hok3.st0, hok3.st1⟩ hok3.inn_bd.2 (NewRow.ints hr2 rfl (hq3.trans sbA) w hw)))) ?_
    refine P_det rf (Over_nil (y_loadN rf Tryz.isAgg24 Tryz.sizeOf24 (Mem.own (us := [.slice _ _ _, .slice _ _ _, .int .i64 _]) 1 rf rf) rf)) ?_
    refine P_det rf (Over_nil (y_callL rf rf Tryz.call33 (fun w hw => rcsum_any c a1 p1 a2 p2 w hok.inn_bd.1 ⟨hok.st0, hok.st1⟩ hok.inn_bd.2 (h2.st w hw)))) ?_
    refine P_det rf (Over_nil (YD_no (y_neq rf rf) dect)) ?_
    refine P_det rf (Over_nil (by first | exact y_pick_t (c := .bool _) rf rf | exact y_pick_f (c := .bool _) rf rf)) ?_
    refine PW_end rf ?_
    refine OverAll_nil ?_
    rintro -
    refine Then_normal ?_
    refine W_cond rf (fun c9 => ?_) (fun c9 => ?_)
    ·cases c9
    ·
     try simp only [qz1, qz2, qz3, qz4, qz5, qz6, qz7, qz8] at c9
     refine W_skip ?_
     refine InB_normal ?_
     refine zT fun ds => ?_
     refine zD hF (y_add rf rf ui) ?_
     refine zm (.int .i64 _) hF ?_
     refine WS_nil ?_
     exact Loop_next (i + 1) om0 s10 sbA om0
   ·
    try simp only [qz1, qz2, qz3, qz4, qz5, qz6, qz7, qz8] at c6
    obtain rfl : i = ps.length := by omega
    have hkl := NewRow.cap_le hS.rowL
    have hbb := hok.back_bd (l := ps) (k := ps.length) fun j hj => hS.run j hj
    refine W_exit ?_
    refine Then_exit ?_
    refine Loop_exit ?_
    refine InB_same ?_
    refine zS fun ds => ?_
    refine zm (.int .u8 _) hF ?_
    refine zD hF (y_conv_iu rf Tryz.runUnderlying5 Tryz.runUnderlying3 (by first | exact IntWalk.i64_in _ om0 | exact IntWalk.u64_in _ om0)) ?_
    refine zm (.slice _ _ _) hF ?_
    refine zD hF (y_len rf Tryz.runUnderlying35) ?_
    refine zD hF (y_add rf rf ui) ?_
    refine zD hF (y_rem rf rf om0 om0) ?_
    refine za (.int .i64 _) hF ?_
    refine zO ?_
    obtain ⟨K, hK0, hK⟩ : ∃ K : Nat, (x : Int) % ((ps.length : Int) + 1) = (K : Int) ∧ K ≤ ps.length := ⟨x % (ps.length + 1), by push_cast; rfl, by have := Nat.mod_lt x (show ps.length + 1 > 0 by omega); omega⟩
    rw [hK0]
    obtain ⟨yk, hyk, hykx, hykr⟩ := hS.get (c.b0x a1 p1 a2 p2) (k := K) om0
    obtain ⟨ye, hye, hyex, hyer⟩ := hS.get (c.b0x a1 p1 a2 p2) (k := ps.length) om0
    have hin1 : c.In (c.runK ps K) := hok.run_in fun j hj => hS.run j om0
    have hin2 : c.In (c.runK ps ps.length) := hok.run_in fun j hj => hS.run j om0
    have hl1 := c.of_len (c.runK ps K) hn3
    have hl2 := c.of_len (c.runK ps ps.length) hn3
    have hbk := hok.back_bd (l := ps) (k := K) fun j hj => hS.run j om0
    refine W_region_lit (fun ds => ?_)
    refine zD hF (y_loadN rf Tryz.isAgg24 Tryz.sizeOf24 (Mem.own (us := [.slice _ _ _, .slice _ _ _, .int .i64 _]) 0 rf rf) rf) ?_
    refine zm (.slice _ _ _) hF ?_
    refine WS_gen hF rf (y_callL rf rf Tryz.call39 (fun w hw => play_any c a1 p1 a2 p2 ps aL kL w (hG.st w hw) om0 hn hm (h1.st w hw) (h2.st w hw) (hS.pos sbA w hw))) ?_
    rintro _ _ hv
    obtain ⟨_, rfl, u1, v1, u2, v2, G1, G2, rfl, g1, g2, rfl⟩ := PlayV.run hok hS.run hv
    refine WS_back ?_
    refine zm (.tuple _) hF ?_
    refine zD hF (y_extract (c := .agg _) rf rf) ?_
    refine zD hF (y_extract (c := .int .i64 _) rf rf) ?_
    refine zD hF (y_extract (c := .int .i64 _) rf rf) ?_
    refine zD hF (y_extract (c := .int .i64 _) rf rf) ?_
    refine WS_new hF rf (y_alloc Tryz.zeroValue24 rf) (fun bX => ?_)
    refine WS_store hF (us := [.slice _ _ _, .slice _ _ _, .int .i64 _]) (i := 0) rf rf Tryz.sizeOf24 rf rf rf d20 ?_
    refine za (.int .i64 _) hF ?_
    refine za (.int .i64 _) hF ?_
    refine za (.int .i64 _) hF ?_
    refine zO ?_
    refine W_draw0 hF Tryzmixed [19] dk0 (fun ds => ?_)
    refine P_det rf (Over_nil (y_loadN rf Tryz.isAgg24 Tryz.sizeOf24 (Mem.own (us := [.slice _ _ _, .slice _ _ _, .int .i64 _]) 1 rf rf) rf)) ?_
    refine P_det rf (Over_nil (y_move (c := .slice _ _ _) rf)) ?_
    refine P_det rf (Over_nil (y_move (c := .int .i64 _) rf)) ?_
    refine P_det rf (Over_nil (y_slice_hi (h := K) rf rf r10 d10 Tryz.runUnderlying35 Tryz.sizeOf47)) ?_
    refine P_new rf rf (Over_nil (y_callL rf rf Tryz.call39 (fun w hw => play_n c a1 p1 a2 p2 (ps.take K) (shiftA aL 0 2 kL) kL K w (hG.st w hw) (by rw [List.length_take]; omega) om0 hn hm (h1.st w hw) (h2.st w hw) (Rws.pre (hS.pos sbA w hw) hK)))) ?_
    refine P_ali [97] (fun e => e 97) rf rf rf (fun _ _ h => h 97 (List.mem_singleton.2 rfl)) (Over_in rf (Over_nil (by intro vb19 l97 hb19; obtain ⟨_, rfl, hT⟩ := PlayV.take hok hS.run hK hb19; obtain ⟨e1, f1, e2, f2, E1, E2, rfl, k1, k2, hJ⟩ := hT; obtain ⟨JJ, rfl⟩ : ∃ JJ, JJ = l97 := ⟨_, rfl⟩; exact (YD0_of (y_move (c := .tuple _) rf))))) ?_
    refine P_ali [92] (fun e => tupAt (e 92) 0) rf rf rf (fun _ _ h => congrArg (tupAt · 0) (h 92 (List.mem_singleton.2 rfl))) (Over_in rf (Over_in rf (Over_nil (by intro vb21 l97 hb21; obtain ⟨_, rfl, hT⟩ := PlayV.take hok hS.run hK hb21; obtain ⟨e1, f1, e2, f2, E1, E2, rfl, k1, k2, hJ⟩ := hT; obtain ⟨JJ, rfl⟩ : ∃ JJ, JJ = l97 := ⟨_, rfl⟩; rintro vb22 _ ⟨hvb22, rfl⟩; replace hvb22 : vb22 = .tuple _ := hvb22; subst hvb22; exact (YD0_of (y_extract (c := .agg _) rf rf)))))) ?_
    refine P_ali [92] (fun e => tupAt (e 92) 1) rf rf rf (fun _ _ h => congrArg (tupAt · 1) (h 92 (List.mem_singleton.2 rfl))) (Over_out rf (Over_in rf (Over_in rf (Over_nil (by intro vb24 l97 hb24; obtain ⟨_, rfl, hT⟩ := PlayV.take hok hS.run hK hb24; obtain ⟨e1, f1, e2, f2, E1, E2, rfl, k1, k2, hJ⟩ := hT; obtain ⟨JJ, rfl⟩ : ∃ JJ, JJ = l97 := ⟨_, rfl⟩; rintro vb25 _ ⟨hvb25, rfl⟩; replace hvb25 : vb25 = .tuple _ := hvb25; subst hvb25; exact (YD0_of (y_extract (c := .int .i64 _) rf rf))))))) ?_
    refine P_ali [92] (fun e => tupAt (e 92) 2) rf rf rf (fun _ _ h => congrArg (tupAt · 2) (h 92 (List.mem_singleton.2 rfl))) (Over_out rf (Over_out rf (Over_in rf (Over_in rf (Over_nil (by intro vb27 l97 hb27; obtain ⟨_, rfl, hT⟩ := PlayV.take hok hS.run hK hb27; obtain ⟨e1, f1, e2, f2, E1, E2, rfl, k1, k2, hJ⟩ := hT; obtain ⟨JJ, rfl⟩ : ∃ JJ, JJ = l97 := ⟨_, rfl⟩; rintro vb28 _ ⟨hvb28, rfl⟩; replace hvb28 : vb28 = .tuple _ := hvb28; subst hvb28; exact (YD0_of (y_extract (c := .int .i64 _) rf rf)))))))) ?_
    refine P_ali [92] (fun e => tupAt (e 92) 3) rf rf rf (fun _ _ h => congrArg (tupAt · 3) (h 92 (List.mem_singleton.2 rfl))) (Over_out rf (Over_out rf (Over_out rf (Over_in rf (Over_in rf (Over_nil (by intro vb30 l97 hb30; obtain ⟨_, rfl, hT⟩ := PlayV.take hok hS.run hK hb30; obtain ⟨e1, f1, e2, f2, E1, E2, rfl, k1, k2, hJ⟩ := hT; obtain ⟨JJ, rfl⟩ : ∃ JJ, JJ = l97 := ⟨_, rfl⟩; rintro vb31 _ ⟨hvb31, rfl⟩; replace hvb31 : vb31 = .tuple _ := hvb31; subst hvb31; exact (YD0_of (y_extract (c := .int .i64 _) rf rf))))))))) ?_
    refine P_newSD 98 rf rf rf (Over_out rf (Over_out rf (Over_out rf (Over_out rf (Over_out rf (Over_out rf (Over_nil (y_alloc Tryz.zeroValue24 rf)))))))) ?_
    refine P_st 19 0 rf rf rf rf rf (Over_out rf (Over_out rf (Over_out rf (Over_in rf (Over_in rf (Over_in rf (Over_nil (by intro vb33 l97 hb33; obtain ⟨_, rfl, hT⟩ := PlayV.take hok hS.run hK hb33; obtain ⟨e1, f1, e2, f2, E1, E2, rfl, k1, k2, hJ⟩ := hT; obtain ⟨JJ, rfl⟩ : ∃ JJ, JJ = l97 := ⟨_, rfl⟩; rintro vb34 _ ⟨hvb34, rfl⟩; replace hvb34 : vb34 = .tuple _ := hvb34; subst hvb34; rintro vb35 _ ⟨hvb35, rfl⟩; replace hvb35 : vb35 = .agg _ := hvb35; subst hvb35; exact (st_newD rf rf Tryz.sizeOf24 rf rf d20))))))))) ?_
    refine P_ali [99] (fun e => e 99) rf rf rf (fun _ _ h => h 99 (List.mem_singleton.2 rfl)) (Over_out rf (Over_out rf (Over_out rf (Over_in rf (Over_out rf (Over_in rf (Over_in rf (Over_nil (by intro vb36 l97 hb36; obtain ⟨_, rfl, hT⟩ := PlayV.take hok hS.run hK hb36; obtain ⟨e1, f1, e2, f2, E1, E2, rfl, k1, k2, hJ⟩ := hT; obtain ⟨JJ, rfl⟩ : ∃ JJ, JJ = l97 := ⟨_, rfl⟩; rintro vb37 _ ⟨hvb37, rfl⟩; replace hvb37 : vb37 = .tuple _ := hvb37; subst hvb37; rintro vb38 _ ⟨hvb38, rfl⟩; replace hvb38 : vb38 = .int .i64 _ := hvb38; subst hvb38; exact (YD0_of (y_assign (c := .int .i64 _) rf))))))))))) ?_
    refine P_ali [100] (fun e => e 100) rf rf rf (fun _ _ h => h 100 (List.mem_singleton.2 rfl)) (Over_out rf (Over_out rf (Over_out rf (Over_in rf (Over_out rf (Over_out rf (Over_in rf (Over_in rf (Over_nil (by intro vb40 l97 hb40; obtain ⟨_, rfl, hT⟩ := PlayV.take hok hS.run hK hb40; obtain ⟨e1, f1, e2, f2, E1, E2, rfl, k1, k2, hJ⟩ := hT; obtain ⟨JJ, rfl⟩ : ∃ JJ, JJ = l97 := ⟨_, rfl⟩; rintro vb41 _ ⟨hvb41, rfl⟩; replace hvb41 : vb41 = .tuple _ := hvb41; subst hvb41; rintro vb42 _ ⟨hvb42, rfl⟩; replace hvb42 : vb42 = .int .i64 _ := hvb42; subst hvb42; exact (YD0_of (y_assign (c := .int .i64 _) rf)))))))))))) ?_
    refine P_ali [101] (fun e => e 101) rf rf rf (fun _ _ h => h 101 (List.mem_singleton.2 rfl)) (Over_out rf (Over_out rf (Over_out rf (Over_in rf (Over_out rf (Over_out rf (Over_out rf (Over_in rf (Over_in rf (Over_nil (by intro vb44 l97 hb44; obtain ⟨_, rfl, hT⟩ := PlayV.take hok hS.run hK hb44; obtain ⟨e1, f1, e2, f2, E1, E2, rfl, k1, k2, hJ⟩ := hT; obtain ⟨JJ, rfl⟩ : ∃ JJ, JJ = l97 := ⟨_, rfl⟩; rintro vb45 _ ⟨hvb45, rfl⟩; replace hvb45 : vb45 = .tuple _ := hvb45; subst hvb45; rintro vb46 _ ⟨hvb46, rfl⟩; replace hvb46 : vb46 = .int .i64 _ := hvb46; subst hvb46; exact (YD0_of (y_assign (c := .int .i64 _) rf))))))))))))) ?_
    refine PW_end rf ?_
    refine OverAll_cons (fun w22 l22 => ?_)
    refine OverAll_cons (fun w21 l21 => ?_)
    refine OverAll_cons (fun w20 l20 => ?_)
    refine OverAll_cons (fun w19 l19 => ?_)
    refine OverAll_cons (fun w101 l101 => ?_)
    refine OverAll_cons (fun w100 l100 => ?_)
    refine OverAll_cons (fun w99 l99 => ?_)
    refine OverAll_cons (fun w98 l98 => ?_)
    refine OverAll_cons (fun w92 l92 => ?_)
    refine OverAll_cons (fun w97 l97 => ?_)
    refine OverAll_nil ?_
    rintro ⟨⟨⟨⟨⟨⟨⟨⟨⟨⟨-, h22⟩, h21⟩, h20⟩, h19⟩, h101⟩, h100⟩, h99⟩, h98⟩, h92⟩, h97⟩
    obtain ⟨_, rfl, hT⟩ := PlayV.take hok hS.run hK h97
    obtain ⟨e1, f1, e2, f2, E1, E2, rfl, k1, k2, hJ⟩ := hT
    obtain ⟨JJ, rfl⟩ : ∃ JJ, JJ = l97 := ⟨_, rfl⟩
    obtain ⟨h92, rfl⟩ := h92
    replace h92 : w92 = .tuple _ := h92
    subst h92
    obtain ⟨h98, rfl⟩ := h98
    replace h98 : w98 = .agg _ := h98
    subst h98
    obtain ⟨h99, rfl⟩ := h99
    replace h99 : w99 = .int .i64 _ := h99
    subst h99
    obtain ⟨h100, rfl⟩ := h100
    replace h100 : w100 = .int .i64 _ := h100
    subst h100
    obtain ⟨h101, rfl⟩ := h101
    replace h101 : w101 = .int .i64 _ := h101
    subst h101
    obtain ⟨h20, rfl⟩ := h20
    replace h20 : w20 = .int .i64 _ := h20
    subst h20
    obtain ⟨h21, rfl⟩ := h21
    replace h21 : w21 = .int .i64 _ := h21
    subst h21
    obtain ⟨h22, rfl⟩ := h22
    replace h22 : w22 = .int .i64 _ := h22
    subst h22
    obtain ⟨bY, rfl, rfl⟩ := h19
    refine Then_normal ?_
    refine W_seq ?_
    refine W_seq ?_
    try simp only [List.append_eq]
    refine W_pull (b1, CB [.slice a1 c.n p1, .slice a2 c.inn.length p2, .int .i64 c.st] 24) zu ?_
    refine W_pull (bX, CB [.slice u1 (c.of (c.runK ps ps.length)).n v1, .slice u2 (c.of (c.runK ps ps.length)).inn.length v2, .int .i64 (c.of (c.runK ps ps.length)).st] 24) zu ?_
    refine W_pull (bY, CB [.slice e1 (c.of (c.runK ps K)).n f1, .slice e2 (c.of (c.runK ps K)).inn.length f2, .int .i64 (c.of (c.runK ps K)).st] 24) zu ?_
    try simp only [List.append_eq]
    refine W_sub (HSub.sub (Hn := (bY, _) :: (bX, _) :: (b1, _) :: (JJ ++ (HX ++ (HA ++ (HL ++ (G1 ++ G2)))))) sbA) ?_
    have hq1 : (E1 ++ E2).Sublist JJ := by rw [hJ]; exact List.Sublist.refl _
    have hq2 := (List.sublist_append_left E1 E2).trans hq1
    have hq3 := (List.sublist_append_right E1 E2).trans hq1
    refine W_draw0 hF Tryzmixed [] dk0 (fun ds => ?_)
    refine P_det rf (Over_nil (y_move (c := .int .i64 _) rf)) ?_
    refine P_det rf (Over_nil (YD_no (y_neq rf rf) dect)) ?_
    refine P_det rf (Over_nil (y_move (c := .bool _) rf)) ?_
    refine P_det rf (Over_nil (y_move (c := .int .i64 _) rf)) ?_
    refine P_det rf (Over_nil (YD_no (y_neq rf rf) dect)) ?_
    refine P_det rf (Over_nil (by first | exact y_pick_t (c := .bool _) rf rf | exact y_pick_f (c := .bool _) rf rf)) ?_
    refine P_det rf (Over_nil (y_move (c := .bool _) rf)) ?_
    refine P_det rf (Over_nil (y_move (c := .int .i64 _) rf)) ?_
    refine P_det rf (Over_nil (YD_no (y_neq rf rf) dect)) ?_
    refine P_det rf (Over_nil (by first | exact y_pick_t (c := .bool _) rf rf | exact y_pick_f (c := .bool _) rf rf)) ?_
    refine P_det rf (Over_nil (y_move (c := .bool _) rf)) ?_
    refine P_det rf (Over_nil (y_move (c := .int .i64 _) rf)) ?_
    refine P_det rf (Over_nil (YD_no (y_neq rf rf) dect)) ?_
    refine P_det rf (Over_nil (by first | exact y_pick_t (c := .bool _) rf rf | exact y_pick_f (c := .bool _) rf rf)) ?_
    refine P_det rf (Over_nil (y_move (c := .bool _) rf)) ?_
    refine P_det rf (Over_nil (y_loadN rf Tryz.isAgg24 Tryz.sizeOf24 (Mem.own (us := [.slice _ _ _, .slice _ _ _, .int .i64 _]) 1 rf rf) rf)) ?_
    refine P_det rf (Over_nil (y_move (c := .slice _ _ _) rf)) ?_
    refine P_det rf (Over_nil (y_move (c := .slice _ _ _) rf)) ?_
    refine P_det rf (Over_nil (y_len rf Tryz.runUnderlying35)) ?_
    refine P_det rf (Over_nil (y_index (k := ps.length) rf rf r10 d10 Tryz.runUnderlying34 Tryz.sizeOf24)) ?_
    refine P_det rf (Over_nil (y_loadN rf Tryz.isAgg24 Tryz.sizeOf24 (hS.cell om0 hye sbA) rf)) ?_
    refine P_det rf (Over_nil (y_callL rf rf Tryz.call25 (fun w hw => Ct_eq (rcsame_any (c.of (c.runK ps ps.length)) u1 v1 u2 v2 (c.of ye.x) ye.s ye.ks ye.i ye.ki w hn om0 (NewRow.ints g1 rfl sbA w hw) (NewRow.ints g2 rfl sbA w hw) (Bl.ints hyer h1 hB2 sbA w hw).1 (Bl.ints hyer h1 hB2 sbA w hw).2) (same_true (by rw [hyex]))))) ?_
    refine P_det rf (Over_nil (y_not rf)) ?_
    refine P_det rf (Over_nil (by first | exact y_pick_t (c := .bool _) rf rf | exact y_pick_f (c := .bool _) rf rf)) ?_
    refine P_det rf (Over_nil (y_move (c := .bool _) rf)) ?_
    refine P_det rf (Over_nil (y_loadN rf Tryz.isAgg24 Tryz.sizeOf24 (Mem.own (us := [.slice _ _ _, .slice _ _ _, .int .i64 _]) 0 rf rf) rf)) ?_
    refine P_det rf (Over_nil (y_move (c := .slice _ _ _) rf)) ?_
    refine P_det rf (Over_nil (y_move (c := .int .i64 _) rf)) ?_
    refine P_det rf (Over_nil (y_index (k := K) rf rf r10 d10 Tryz.runUnderlying34 Tryz.sizeOf24)) ?_
    refine P_det rf (Over_nil (y_loadN rf Tryz.isAgg24 Tryz.sizeOf24 (hS.cell om0 hyk sbA) rf)) ?_
    refine P_det rf (Over_nil (y_callL rf rf Tryz.call25 (fun w hw => Ct_eq (rcsame_any (c.of (c.runK ps K)) e1 f1 e2 f2 (c.of yk.x) yk.s yk.ks yk.i yk.ki w hn om0 (NewRow.ints k1 rfl (hq2.trans sbA) w hw) (NewRow.ints k2 rfl (hq3.trans sbA) w hw) (Bl.ints hykr h1 hB2 sbA w hw).1 (Bl.ints hykr h1 hB2 sbA w hw).2) (same_true (by rw [hykx]))))) ?_
    refine P_det rf (Over_nil (y_not rf)) ?_
    refine P_det rf (Over_nil (by first | exact y_pick_t (c := .bool _) rf rf | exact y_pick_f (c := .bool _) rf rf)) ?_
    refine PW_end rf ?_
    refine OverAll_nil ?_
    rintro -
    refine Then_normal ?_
    refine W_cond rf (fun c15 => ?_) (fun c15 => ?_)
    ·cases c15
    ·
     try simp only [qz1, qz2, qz3, qz4, qz5, qz6, qz7, qz8] at c15
     refine zU ?_
     refine W_seq ?_
     refine W_draw0 hF Tryzmixed [23] dk0 (fun ds => ?_)
     refine P_det rf (Over_nil (y_loadN rf Tryz.isAgg24 Tryz.sizeOf24 (Mem.own (us := [.slice _ _ _, .slice _ _ _, .int .i64 _]) 0 rf rf) rf)) ?_
     refine P_det rf (Over_nil (y_move (c := .slice _ _ _) rf)) ?_
     refine P_det rf (Over_nil (y_move (c := .int .i64 _) rf)) ?_
     refine P_det rf (Over_nil (y_slice_lo (l := K) rf rf r10 d10 Tryz.runUnderlying35 Tryz.sizeOf47)) ?_
     refine P_new rf rf (Over_nil (y_callL rf rf Tryz.call39 (fun w hw => play_n (c.of (c.runK ps K)) e1 f1 e2 f2 (ps.drop K) (shiftA aL K 2 kL) (kL - K) (ps.length - K) w (hG.st w hw) (by rw [List.length_drop]) om0 hn om0 (NewRow.ints k1 rfl (hq2.trans sbA) w hw) (NewRow.ints k2 rfl (hq3.trans sbA) w hw) (Rws.suf (hS.pos sbA w hw) hK)))) ?_
     refine P_ali [140] (fun e => e 140) rf rf rf (fun _ _ h => h 140 (List.mem_singleton.2 rfl)) (Over_in rf (Over_nil (by intro vb49 l140 hb49; obtain ⟨_, n9, rfl, hn9, hT⟩ := PlayV.drop hok hS.run hK hb49; obtain ⟨s1, t1, s2, t2, S1, S2, rfl, m1, m2, hJ2⟩ := hT; obtain ⟨J2, rfl⟩ : ∃ J2, J2 = l140 := ⟨_, rfl⟩; exact (YD0_of (y_move (c := .tuple _) rf))))) ?_
     refine P_ali [135] (fun e => tupAt (e 135) 0) rf rf rf (fun _ _ h => congrArg (tupAt · 0) (h 135 (List.mem_singleton.2 rfl))) (Over_in rf (Over_in rf (Over_nil (by intro vb51 l140 hb51; obtain ⟨_, n9, rfl, hn9, hT⟩ := PlayV.drop hok hS.run hK hb51; obtain ⟨s1, t1, s2, t2, S1, S2, rfl, m1, m2, hJ2⟩ := hT; obtain ⟨J2, rfl⟩ : ∃ J2, J2 = l140 := ⟨_, rfl⟩; rintro vb52 _ ⟨hvb52, rfl⟩; replace hvb52 : vb52 = .tuple _ := hvb52; subst hvb52; exact (YD0_of (y_extract (c := .agg _) rf rf)))))) ?_
     refine P_ali [135] (fun e => tupAt (e 135) 1) rf rf rf (fun _ _ h => congrArg (tupAt · 1) (h 135 (List.mem_singleton.2 rfl))) (Over_out rf (Over_in rf (Over_in rf (Over_nil (by intro vb54 l140 hb54; obtain ⟨_, n9, rfl, hn9, hT⟩ := PlayV.drop hok hS.run hK hb54; obtain ⟨s1, t1, s2, t2, S1, S2, rfl, m1, m2, hJ2⟩ := hT; obtain ⟨J2, rfl⟩ : ∃ J2, J2 = l140 := ⟨_, rfl⟩; rintro vb55 _ ⟨hvb55, rfl⟩; replace hvb55 : vb55 = .tuple _ := hvb55; subst hvb55; exact (YD0_of (y_extract (c := .int .i64 _) rf rf))))))) ?_
     refine P_ali [135] (fun e => tupAt (e 135) 2) rf rf rf (fun _ _ h => congrArg (tupAt · 2) (h 135 (List.mem_singleton.2 rfl))) (Over_out rf (Over_out rf (Over_in rf (Over_in rf (Over_nil (by intro vb57 l140 hb57; obtain ⟨_, n9, rfl, hn9, hT⟩ := PlayV.drop hok hS.run hK hb57; obtain ⟨s1, t1, s2, t2, S1, S2, rfl, m1, m2, hJ2⟩ := hT; obtain ⟨J2, rfl⟩ : ∃ J2, J2 = l140 := ⟨_, rfl⟩; rintro vb58 _ ⟨hvb58, rfl⟩; replace hvb58 : vb58 = .tuple _ := hvb58; subst hvb58; exact (YD0_of (y_extract (c := .int .i64 _) rf rf)))))))) ?_
     refine P_ali [135] (fun e => tupAt (e 135) 3) rf rf rf (fun _ _ h => congrArg (tupAt · 3) (h 135 (List.mem_singleton.2 rfl))) (Over_out rf (Over_out rf (Over_out rf (Over_in rf (Over_in rf (Over_nil (by intro vb60 l140 hb60; obtain ⟨_, n9, rfl, hn9, hT⟩ := PlayV.drop hok hS.run hK hb60; obtain ⟨s1, t1, s2, t2, S1, S2, rfl, m1, m2, hJ2⟩ := hT; obtain ⟨J2, rfl⟩ : ∃ J2, J2 = l140 := ⟨_, rfl⟩; rintro vb61 _ ⟨hvb61, rfl⟩; replace hvb61 : vb61 = .tuple _ := hvb61; subst hvb61; exact (YD0_of (y_extract (c := .int .i64 _) rf rf))))))))) ?_
     refine P_newSD 141 rf rf rf (Over_out rf (Over_out rf (Over_out rf (Over_out rf (Over_out rf (Over_out rf (Over_nil (y_alloc Tryz.zeroValue24 rf)))))))) ?_
     refine P_st 23 0 rf rf rf rf rf (Over_out rf (Over_out rf (Over_out rf (Over_in rf (Over_in rf (Over_in rf (Over_nil (by intro vb63 l140 hb63; obtain ⟨_, n9, rfl, hn9, hT⟩ := PlayV.drop hok hS.run hK hb63; obtain ⟨s1, t1, s2, t2, S1, S2, rfl, m1, m2, hJ2⟩ := hT; obtain ⟨J2, rfl⟩ : ∃ J2, J2 = l140 := ⟨_, rfl⟩; rintro vb64 _ ⟨hvb64, rfl⟩; replace hvb64 : vb64 = .tuple _ := hvb64; subst hvb64; rintro vb65 _ ⟨hvb65, rfl⟩; replace hvb65 : vb65 = .agg _ := hvb65; subst hvb65; exact (st_newD rf rf Tryz.sizeOf24 rf rf d20))))))))) ?_
     refine P_ali [142] (fun e => e 142) rf rf rf (fun _ _ h => h 142 (List.mem_singleton.2 rfl)) (Over_out rf (Over_out rf (Over_out rf (Over_in rf (Over_out rf (Over_in rf (Over_in rf (Over_nil (by intro vb66 l140 hb66; obtain ⟨_, n9, rfl, hn9, hT⟩ := PlayV.drop hok hS.run hK hb66; obtain ⟨s1, t1, s2, t2, S1, S2, rfl, m1, m2, hJ2⟩ := hT; obtain ⟨J2, rfl⟩ : ∃ J2, J2 = l140 := ⟨_, rfl⟩; rintro vb67 _ ⟨hvb67, rfl⟩; replace hvb67 : vb67 = .tuple _ := hvb67; subst hvb67; rintro vb68 _ ⟨hvb68, rfl⟩; replace hvb68 : vb68 = .int .i64 _ := hvb68; subst hvb68; exact (YD0_of (y_assign (c := .int .i64 _) rf))))))))))) ?_
     refine P_ali [143] (fun e => e 143) rf rf rf (fun _ _ h => h 143 (List.mem_singleton.2 rfl)) (Over_out rf (Over_out rf (Over_out rf (Over_in rf (Over_out rf (Over_out rf (Over_in rf (Over_in rf (Over_nil (by intro vb70 l140 hb70; obtain ⟨_, n9, rfl, hn9, hT⟩ := PlayV.drop hok hS.run hK hb70; obtain ⟨s1, t1, s2, t2, S1, S2, rfl, m1, m2, hJ2⟩ := hT; obtain ⟨J2, rfl⟩ : ∃ J2, J2 = l140 := ⟨_, rfl⟩; rintro vb71 _ ⟨hvb71, rfl⟩; replace hvb71 : vb71 = .tuple _ := hvb71; subst hvb71; rintro vb72 _ ⟨hvb72, rfl⟩; replace hvb72 : vb72 = .int .i64 _ := hvb72; subst hvb72; exact (YD0_of (y_assign (c := .int .i64 _) rf)))))))))))) ?_
     refine P_ali [144] (fun e => e 144) rf rf rf (fun _ _ h => h 144 (List.mem_singleton.2 rfl)) (Over_out rf (Over_out rf (Over_out rf (Over_in rf (Over_out rf (Over_out rf (Over_out rf (Over_in rf (Over_in rf (Over_nil (by intro vb74 l140 hb74; obtain ⟨_, n9, rfl, hn9, hT⟩ := PlayV.drop hok hS.run hK hb74; obtain ⟨s1, t1, s2, t2, S1, S2, rfl, m1, m2, hJ2⟩ := hT; obtain ⟨J2, rfl⟩ : ∃ J2, J2 = l140 := ⟨_, rfl⟩; rintro vb75 _ ⟨hvb75, rfl⟩; replace hvb75 : vb75 = .tuple _ := hvb75; subst hvb75; rintro vb76 _ ⟨hvb76, rfl⟩; replace hvb76 : vb76 = .int .i64 _ := hvb76; subst hvb76; exact (YD0_of (y_assign (c := .int .i64 _) rf))))))))))))) ?_
     refine PW_end rf ?_
     refine OverAll_cons (fun w26 l26 => ?_)
     refine OverAll_cons (fun w25 l25 => ?_)
     refine OverAll_cons (fun w24 l24 => ?_)
     refine OverAll_cons (fun w23 l23 => ?_)
     refine OverAll_cons (fun w144 l144 => ?_)
     refine OverAll_cons (fun w143 l143 => ?_)
     refine OverAll_cons (fun w142 l142 => ?_)
     refine OverAll_cons (fun w141 l141 => ?_)
     refine OverAll_cons (fun w135 l135 => ?_)
     refine OverAll_cons (fun w140 l140 => ?_)
     refine OverAll_nil ?_
     rintro ⟨⟨⟨⟨⟨⟨⟨⟨⟨⟨-, h26⟩, h25⟩, h24⟩, h23⟩, h144⟩, h143⟩, h142⟩, h141⟩, h135⟩, h140⟩
     obtain ⟨_, n9, rfl, hn9, hT⟩ := PlayV.drop hok hS.run hK h140
     obtain ⟨s1, t1, s2, t2, S1, S2, rfl, m1, m2, hJ2⟩ := hT
     obtain ⟨J2, rfl⟩ : ∃ J2, J2 = l140 := ⟨_, rfl⟩
     obtain ⟨h135, rfl⟩ := h135
     replace h135 : w135 = .tuple _ := h135
     subst h135
     obtain ⟨h141, rfl⟩ := h141
     replace h141 : w141 = .agg _ := h141
     subst h141
     obtain ⟨h142, rfl⟩ := h142
     replace h142 : w142 = .int .i64 _ := h142
     subst h142
     obtain ⟨h143, rfl⟩ := h143
     replace h143 : w143 = .int .i64 _ := h143
     subst h143
     obtain ⟨h144, rfl⟩ := h144
     replace h144 : w144 = .int .i64 _ := h144
     subst h144
     obtain ⟨h24, rfl⟩ := h24
     replace h24 : w24 = .int .i64 _ := h24
     subst h24
     obtain ⟨h25, rfl⟩ := h25
     replace h25 : w25 = .int .i64 _ := h25
     subst h25
     obtain ⟨h26, rfl⟩ := h26
     replace h26 : w26 = .int .i64 _ := h26
     subst h26
     obtain ⟨bZ, rfl, rfl⟩ := h23
     refine Then_normal ?_
     refine W_seq ?_
     try simp only [List.append_eq]
     refine W_pull (bX, CB [.slice u1 (c.of (c.runK ps ps.length)).n v1, .slice u2 (c.of (c.runK ps ps.length)).inn.length v2, .int .i64 (c.of (c.runK ps ps.length)).st] 24) zu ?_
     refine W_pull (bZ, CB [.slice s1 (c.of (c.runK ps ps.length)).n t1, .slice s2 (c.of (c.runK ps ps.length)).inn.length t2, .int .i64 (c.of (c.runK ps ps.length)).st] 24) zu ?_
     try simp only [List.append_eq]
     refine W_sub (HSub.sub (Hn := (bZ, _) :: (bX, _) :: (J2 ++ (G1 ++ G2))) sbA) ?_
     have hq4 : (S1 ++ S2).Sublist J2 := by rw [hJ2]; exact List.Sublist.refl _
     have hq5 := (List.sublist_append_left S1 S2).trans hq4
     have hq6 := (List.sublist_append_right S1 S2).trans hq4
     refine W_region_lit (fun ds => ?_)
     refine zm (.bool _) hF ?_
     refine zm (.bool _) hF ?_
     refine zm (.int .i64 _) hF ?_
     refine zD hF (YD_yes (y_eql rf rf) dect) ?_
     refine zD hF (zpk (.bool _)) ?_
     refine zm (.bool _) hF ?_
     refine zD hF (y_loadN rf Tryz.isAgg24 Tryz.sizeOf24 (Mem.own (us := [.slice _ _ _, .slice _ _ _, .int .i64 _]) 1 rf rf) rf) ?_
     refine zD hF (y_loadN rf Tryz.isAgg24 Tryz.sizeOf24 (Mem.own (us := [.slice _ _ _, .slice _ _ _, .int .i64 _]) 0 rf rf) rf) ?_
     refine zD hF (y_callL rf rf Tryz.call25 (fun w hw => Ct_eq (rcsame_any (c.of (c.runK ps ps.length)) u1 v1 u2 v2 (c.of (c.runK ps ps.length)) s1 t1 s2 t2 w hn om0 (NewRow.ints g1 rfl sbA w hw) (NewRow.ints g2 rfl sbA w hw) (NewRow.ints m1 rfl (hq5.trans sbA) w hw) (NewRow.ints m2 rfl (hq6.trans sbA) w hw)) (same_true rfl))) ?_
     refine zD hF (zpk (.bool _)) ?_
     refine zm (.bool _) hF ?_
     refine zm (.int .i64 _) hF ?_
     refine zm (.int .i64 _) hF ?_
     refine zm (.int .i64 _) hF ?_
     refine zD hF (y_add rf rf ui) ?_
     refine zD hF (YD_yes (y_eql rf rf) dect) ?_
     refine zD hF (zpk (.bool _)) ?_
     refine za (.bool _) hF ?_
     refine zN ?_
     refine W_ret ?_
     refine Fin_ret [.bool _] [] Tryz.results9 ⟨by rfl, trivial⟩ HSub.nil ?_
     rfl
theorem canKept_z (c : Cn) (a1 : Option Addr) (p1 : Nat) (a2 : Option Addr) (p2 : Nat) (ba : Option Addr) (bn bcap : Nat) (by_ : List Int) (n : Int) (w : World) (hG : Gv w) (h1 : Ints w a1 c.n p1 c.sz) (h2 : Ints w a2 c.inn.length p2 c.inn) (hby : U4s w ba bn bcap by_) (hn : 0 ≤ n) (hm : n ≤ 255) : Ct Tryz.prog 9 #[.agg #[.slice a1 c.n p1, .slice a2 c.inn.length p2, .int .i64 c.st], .slice ba bn bcap, .int .u8 n] w fun v _ => v = .bool true := by
 obtain ⟨x, rfl⟩ := Int.eq_ofNat_of_zero_le hn
 exact canKept_any c a1 p1 a2 p2 ba bn bcap by_ x w hG om0 h1 h2 hby
end Go.Proofs.YtjekjehgmljbgaaGreatDoor.T
namespace Go.Proofs.YtjekjehgmljbgaaGreatDoor.T
open Go.RowKit Go.Proofs Go.Eng Go.ChangeShapes Go.WideShapes Go.ChangeAt Go.Joins Go.Deep
set_option maxRecDepth 100000
set_option maxHeartbeats 1000000
section
variable {H : Type} {enc : TypeId × Value → H} {w : World} {base : Nat} {spare : Nat → Bool} {held : Bool}
theorem open_intsT {fuel : Nat} {v : Value} {y : DataW H × List MemPlace} (h : DataW.trod enc Tryz.prog w base spare held fuel 22 [v] = some y) (hs : ∀ b, spare b = true) : ∃ a n cap xs, v = .slice a n cap ∧ Ints w a n cap xs := by
 rcases open_ints Tryz.underlying22 Tryz.underlying3 (by kernel_rfl) h with ⟨hcs, _⟩ | ⟨x, l, c, zs, hcs, _, hl, hm, hz, _, hcell, hwz⟩
 ·simp only [List.cons.injEq, and_true] at hcs
  subst hcs
  exact ⟨_, _, _, [], rfl, Ints.nil _ _ _⟩
 ·simp only [List.cons.injEq, and_true] at hcs
  subst hcs
  rw [hs, if_pos rfl] at hz
  refine ⟨_, _, _, zs.take l, rfl, by simp; omega, hl, fun k hk => ?_⟩
  have hc := hcell k om0
  obtain ⟨b, off, spot⟩ := x
  have hspot : spot = none := by
   have := World.cell?_spot (hcell 0 om0)
   simpa [Addr.add] using this
  subst hspot
  have ha : (⟨b, off, none⟩ : Addr).add k = ⟨b, off + k * 1, none⟩ := by unfold Addr.add; split <;> simp_all
  rw [ha] at hc
  refine ⟨b, off, rfl, ?_, trivial⟩
  rw [hc]
  simp [List.getD_eq_getElem?_getD, hk]
theorem open_u8 {P : Program} {r : Reach} {b0 : Nat} {t : TypeId} {v : Value} {d : DataW H} {ps : List MemPlace} (ht : P.underlying t = some (.int .u8)) (hval : Value.okWide P w r b0 t v) (hd : DataW.Trod enc P w base spare held t v d ps) :
  ∃ n : Int, v = .int .u8 n ∧ 0 ≤ n ∧ n ≤ 255 := by
 obtain ⟨n, rfl, _, _, hw⟩ := open_int ht hval hd
 have hw' : (decide ((0 : Int) ≤ n) && decide (n ≤ 255)) = true := hw
 simp only [Bool.and_eq_true, decide_eq_true_eq] at hw'
 exact ⟨n, rfl, hw'⟩
end
theorem own : ownKnob Tryz.prog.godebug = none := by kernel_rfl
theorem laidOut : laidOutB Tryz.prog = true := by kernel_rfl
set_option maxRecDepth 100000
set_option maxHeartbeats 1000000
section
variable {H : Type} {enc : TypeId × Value → H} {w : World} {base : Nat} {spare : Nat → Bool} {held : Bool}
theorem open_cans {r : Reach} {b0 : Nat} {v : Value} {d : DataW H} {p : List MemPlace} (hv : Value.okWide Tryz.prog w r b0 24 v) (h : DataW.Trod enc Tryz.prog w base spare held 24 v d p) (hs : ∀ b, spare b = true) :
  ∃ (c : Cn) (a1 : Option Addr) (p1 : Nat) (a2 : Option Addr) (p2 : Nat), v = .agg #[.slice a1 c.n p1, .slice a2 c.inn.length p2, .int .i64 c.st] ∧ Ints w a1 c.n p1 c.sz ∧ Ints w a2 c.inn.length p2 c.inn := by
 obtain ⟨v0, v1, v2, y0, y1, y2, n, rfl, _, _, h0, h1, h2⟩ := open_agg3 Tryz.underlying24 (by kernel_rfl) (by kernel_rfl) hv h
 obtain ⟨a1, m1, p1, xs, rfl, hx⟩ := open_intsT h0 hs
 obtain ⟨a2, m2, p2, ys, rfl, hy⟩ := open_intsT h1 hs
 obtain ⟨l, hl, _, _⟩ := DataW.trod_int Tryz.underlying3 h2
 simp only [List.cons.injEq, and_true] at hl
 subst hl
 have := hx.len
 subst this
 have := hy.len
 subst this
 exact ⟨⟨xs, ys, l⟩, a1, p1, a2, p2, rfl, hx, hy⟩
end
def laidC : List (String × DataW Unit) := [("oilcake/can.checks", Rows.laid_oilcake_can_checks)]
theorem gChecks : Tryz.prog.globalNamed "oilcake/can.checks" = some 0 := by kernel_rfl
theorem tChecks : (Tryz.prog.globals[0]?).map (·.type) = some 159 := by kernel_rfl
theorem door_met (os : Os) (args : Array Value) : laidMetH Tryz.prog laidC ((World.doorLaid Tryz.prog 400 os).forCall (fun _ _ => 0) ⟨#[], args, []⟩).memory :=
 laidMetH_of_parts3 (fuel := 8) (laidMet_of_run' 8 (by kernel_rfl) (by kernel_rfl)) (by kernel_rfl) (by kernel_rfl)
theorem cellsChk : Tryz.prog.cellsOf 158 = 1 := by kernel_rfl
theorem cellsChk3 : Tryz.prog.cellsOf 159 = 3 := by kernel_rfl
theorem cellsFn : Tryz.prog.cellsOf 27 = 1 := by kernel_rfl
theorem chk_fn {W : World} {sp : Nat → Bool} {fuel : Nat} {v : Value} {x : DataW (List UInt8) × List MemPlace} {b : UInt8} {r : List UInt8} {f0 : FuncId}
  (hone : ((List.range Tryz.prog.funcs.size).filter fun f => (Tryz.prog.funcs[f]?).any (·.name.toUTF8.data.toList == b :: r)) = [f0])
  (h : DataW.trod (funcToken Tryz.prog) Tryz.prog W 0 sp true fuel 158 [v] = some x) (hx : x.1 = .agg [.held (b :: r)]) : v = .func (.func f0) #[] #[] := by
 obtain ⟨y0, n, rfl, _, h0⟩ := trod_struct1 Tryz.underlying158 h
 obtain ⟨y, q⟩ := y0
 simp only [DataW.agg.injEq, List.cons.injEq, and_true] at hx
 subst hx
 simp only [cellsFn, List.drop_zero, List.take_succ_cons, List.take_zero] at h0
 exact func_of_trod Tryz.underlying27 hone h0
theorem of_laid {W : World} (h : laidMetH Tryz.prog laidC W) : Gv W := by
 obtain ⟨g, t, cs, fuel, p, hg, ht, hv, hd⟩ := h.funcs (List.mem_singleton.2 rfl)
 obtain rfl := Option.some.inj (gChecks.symm.trans hg)
 obtain rfl := Option.some.inj (tChecks.symm.trans ht)
 have hd' : DataW.trod (funcToken Tryz.prog) Tryz.prog W 0 (fun _ => true) true fuel 159 cs.toList = some (.agg [.agg [.held [111, 105, 108, 99, 97, 107, 101, 47, 99, 97, 110, 46, 99, 104, 101, 99, 107, 115, 36, 49]], .agg [.held [111, 105, 108, 99, 97, 107, 101, 47, 99, 97, 110, 46, 99, 104, 101, 99, 107, 115, 36, 50]], .agg [.held [111, 105, 108, 99, 97, 107, 101, 47, 99, 97, 110, 46, 99, 104, 101, 99, 107, 115, 36, 51]]], p) := hd
 obtain ⟨xs, m1, rfl, hx1, hlen, hn3, hel⟩ := DataW.trod_array Tryz.underlying159 hd'
 simp only [Prod.mk.injEq, DataW.agg.injEq] at hx1
 rw [cellsChk3] at hlen
 have hc := fun i => World.var?_cell hg hv i
 obtain ⟨cl⟩ := cs
 match xs, hn3, hx1, cl, hlen, hel, hc with
 | [x0, x1, x2], _, hx1, [c0, c1, c2], _, hel, hc =>
  simp only [List.map_cons, List.map_nil, List.cons.injEq, and_true] at hx1
  have e0 := hel 0 dc
  have e1 := hel 1 dc
  have e2 := hel 2 dc
  simp only [cellsChk, Nat.zero_mul, Nat.one_mul, Nat.mul_one, List.drop_zero, List.drop_succ_cons, List.take_succ_cons, List.take_zero, List.getElem?_cons_zero, List.getElem?_cons_succ] at e0 e1 e2
  obtain rfl := chk_fn (f0 := 190) (by kernel_rfl) e0 hx1.1.1.symm
  obtain rfl := chk_fn (f0 := 191) (by kernel_rfl) e1 hx1.1.2.1.symm
  obtain rfl := chk_fn (f0 := 192) (by kernel_rfl) e2 hx1.1.2.2.symm
  exact ⟨hc 0, hc 1, hc 2, trivial⟩
set_option maxRecDepth 100000
set_option maxHeartbeats 1000000
section
variable {H : Type} {enc : TypeId × Value → H} {w : World} {base : Nat} {spare : Nat → Bool} {held : Bool}
theorem open_u32s {r : Reach} {b0 : Nat} {v : Value} {d : DataW H} {p : List MemPlace} (hv : Value.okWide Tryz.prog w r b0 25 v) (hd : DataW.Trod enc Tryz.prog w base spare held 25 v d p) (hs : ∀ b, spare b = true) : ∃ (a : Option Addr) (n cap : Nat) (xs : List Int), v = .slice a n cap ∧ U4s w a n cap xs := by
 obtain ⟨a, n, cap, rfl⟩ := okWide_slice Tryz.underlying25 hv
 obtain ⟨fuel, h⟩ := hd
 rcases open_ints Tryz.underlying25 Tryz.underlying169 (by kernel_rfl) h with ⟨hcs, _⟩ | ⟨x, l, c, zs, hcs, _, hl, hm, hz, _, hcell, hwz⟩
 ·simp only [Value.cells, List.cons.injEq, and_true] at hcs
  cases hcs
  exact ⟨_, _, _, [], rfl, ⟨Rws.nil _ _ _, fun k hk => absurd hk (Nat.not_lt_zero _), Nat.zero_le _⟩⟩
 ·simp only [Value.cells, List.cons.injEq, and_true] at hcs
  cases hcs
  rw [hs, if_pos rfl] at hz
  have hget : ∀ k, k < n → (zs.take n).getD k 0 = zs.getD k 0 := fun k hk => by simp [List.getD_eq_getElem?_getD, hk]
  refine ⟨_, _, _, zs.take n, rfl, ⟨⟨by simp; omega, hl, fun k hk => ?_⟩, fun k hk => ?_, ?_⟩⟩
  ·have hc := hcell k om0
   obtain ⟨b, off, spot⟩ := x
   have hspot : spot = none := by
    have := World.cell?_spot (hcell 0 om0)
    simpa [Addr.add] using this
   subst hspot
   have ha : (⟨b, off, none⟩ : Addr).add k = ⟨b, off + k * 1, none⟩ := by unfold Addr.add; split <;> simp_all
   rw [ha] at hc
   refine ⟨b, off, rfl, ?_, trivial⟩
   rw [hc, hget k hk]
  ·rw [hget k hk]
   have hw := hwz (zs.getD k 0) (by rw [List.getD_eq_getElem?_getD, List.getElem?_eq_getElem om0]; exact List.getElem_mem _)
   have hw' : (decide ((0 : Int) ≤ zs.getD k 0) && decide (zs.getD k 0 ≤ 4294967295)) = true := hw
   simpa only [Bool.and_eq_true, decide_eq_true_eq] using hw'
  ·have : cap ≤ 9223372036854775807 := hm
   omega
end
end Go.Proofs.YtjekjehgmljbgaaGreatDoor.T
namespace Go.Proofs.YtjekjehgmljbgaaGreatDoor.T
open Go.RowKit Go.Proofs Go.Eng Go.ChangeShapes Go.WideShapes Go.ChangeAt Go.Joins
set_option maxRecDepth 100000
set_option maxHeartbeats 1000000
section
variable {H : Type} {enc : TypeId × Value → H} {w : World} {base : Nat} {spare : Nat → Bool} {held : Bool}
end
end Go.Proofs.YtjekjehgmljbgaaGreatDoor.T
namespace Go.Proofs.YtjekjehgmljbgaaGreatDoor.T
open Go.RowKit Go.Proofs Go.Eng Go.ChangeShapes Go.WideShapes Go.ChangeAt Go.Joins Go.Deep
set_option maxRecDepth 100000
set_option maxHeartbeats 1000000
section
variable {H : Type} {enc : TypeId × Value → H} {w : World} {base : Nat} {spare : Nat → Bool} {held : Bool}
end
end Go.Proofs.YtjekjehgmljbgaaGreatDoor.T
namespace Go.Proofs.YtjekjehgmljbgaaGreatDoor
open Go.RowKit Go.Proofs Go.Eng Go.ChangeShapes Go.WideShapes Go.ChangeAt Go.Joins T
set_option maxRecDepth 100000
set_option maxHeartbeats 1000000
theorem walkCanKept (v0 v1 v2 : Value) (W : World) (hG : Gv W) (h0 : ∃ (c0 : Cn) (a0 : Option Addr) (p0 : Nat) (b0 : Option Addr) (q0 : Nat), v0 = .agg #[.slice a0 c0.n p0, .slice b0 c0.inn.length q0, .int .i64 c0.st] ∧ Ints W a0 c0.n p0 c0.sz ∧ Ints W b0 c0.inn.length q0 c0.inn) (h1 : ∃ (ta1 : Option Addr) (tn1 tcap1 : Nat) (D1 : List Int), v1 = .slice ta1 tn1 tcap1 ∧ U4s W ta1 tn1 tcap1 D1) (h2 : ∃ n2 : Int, v2 = .int .u8 n2 ∧ 0 ≤ n2 ∧ n2 ≤ 255) :
  Calls Tryz.prog 9 #[v0, v1, v2] W fun e W' => e = .returned (.bool true) ∧ Below W.heap.size W W' := by
 obtain ⟨c0, a0, p0, b0, q0, rfl, hx0, hy0⟩ := h0
 obtain ⟨ta1, tn1, tcap1, D1, rfl, hD1⟩ := h1
 obtain ⟨n2, rfl, hn2, hm2⟩ := h2
 refine Calls.mono (canKept_z c0 a0 p0 b0 q0 ta1 tn1 tcap1 D1 n2 W hG hx0 hy0 hD1 hn2 hm2) ?_
 rintro e W' ⟨v, rfl, Hn, hb, _, rfl⟩
 exact ⟨rfl, hb⟩
theorem liftCanKept (os : Os) (started : os.Started) (H : Type) (enc : TypeId × Value → H) :
  ReturnsInHanded {} Tryz.checked os 9 .any (fun w args => (Rows.canKeptSpec.pre enc Tryz.prog Tryz.f9 [] false w args ∧ laidMetH Tryz.prog laidC w) ∧ sizedMet enc Tryz.prog Tryz.f9 (OpenSpec.ofChange Rows.canKeptSpec) false w args) (Rows.canKeptSpec.post enc Tryz.prog Tryz.f9 false true false false) := by
 refine returnsInHanded_of_change_and (C := Tryz.checked) (X := fun w _ => laidMetH Tryz.prog laidC w) (fun _ _ _ hh h => h.of_heap hh) own started (by kernel_rfl) Tryz.func9
  (ChangeSpec.witness_shaped (enc := enc) (C := Tryz.checked) (os := os) (X := fun w _ => laidMetH Tryz.prog laidC w) false (World.doorLaid Tryz.prog 400 os) #[.agg #[.slice none 0 0, .slice none 0 0, .int .i64 0], .slice none 0 0, .int .u8 0] 8 rfl (World.shaped_of_RefB (by kernel_rfl) (by kernel_rfl)) (by kernel_rfl) (by kernel_rfl) (by kernel_rfl) (door_met os _)) ?_
 intro W base args ds gs before hval0 hW _ _ hL _
 have hval : ∀ (j : Nat) t v, Tryz.f9.params[j]? = some t → args[j]? = some v → Value.okWide Tryz.prog W .any base t v := hval0
 have hW' := hW
 obtain ⟨p, q, hA0, hV, rfl, hfz, hnd⟩ := hW
 have hA : DataW.TrodAll enc Tryz.prog W 0 (fun _ => true) true Tryz.f9.params.toList args.toList ds p := hA0
 rw [Tryz.params9] at hA hval
 obtain ⟨v0, vs0, d0, ds0, p0, q0, hargs, rfl, rfl, h0, r0⟩ := trodAll_cons hA
 obtain ⟨v1, vs1, d1, ds1, p1, q1, rfl, rfl, rfl, h1, r1⟩ := trodAll_cons r0
 obtain ⟨v2, vs2, d2, ds2, p2, q2, rfl, rfl, rfl, h2, r2⟩ := trodAll_cons r1
 obtain ⟨rfl, rfl, rfl⟩ := trodAll_nil r2
 obtain rfl : args = #[v0, v1, v2] := by cases args; simp_all
 obtain ⟨rfl, rfl⟩ := trodVars_none hV
 have lt0 : ∀ x ∈ p0, x.block < W.heap.size := by obtain ⟨m, hm⟩ := h0; exact DataW.trod_lt m _ _ _ hm
 have lt1 : ∀ x ∈ p1, x.block < W.heap.size := by obtain ⟨m, hm⟩ := h1; exact DataW.trod_lt m _ _ _ hm
 have lt2 : ∀ x ∈ p2, x.block < W.heap.size := by obtain ⟨m, hm⟩ := h2; exact DataW.trod_lt m _ _ _ hm
 have o0 : ∃ (c0 : Cn) (a0 : Option Addr) (p0 : Nat) (b0 : Option Addr) (q0 : Nat), v0 = .agg #[.slice a0 c0.n p0, .slice b0 c0.inn.length q0, .int .i64 c0.st] ∧ Ints W a0 c0.n p0 c0.sz ∧ Ints W b0 c0.inn.length q0 c0.inn := open_cans (hval 0 _ v0 rfl rfl) h0 (fun _ => rfl)
 have o1 : ∃ (ta1 : Option Addr) (tn1 tcap1 : Nat) (D1 : List Int), v1 = .slice ta1 tn1 tcap1 ∧ U4s W ta1 tn1 tcap1 D1 := open_u32s (hval 1 _ v1 rfl rfl) h1 (fun _ => rfl)
 have o2 : ∃ n2 : Int, v2 = .int .u8 n2 ∧ 0 ≤ n2 ∧ n2 ≤ 255 := open_u8 Tryz.underlying5 (hval 2 _ v2 rfl rfl) h2
 clear hA0 hval0
 refine (walkCanKept v0 v1 v2 W (of_laid hL) o0 o1 o2).mono fun e W' ⟨he, bel⟩ => ?_
 subst he
 exact ⟨_, rfl, _, _, _, [], _, [], hW', trodAll_mk1 (shut_bool Tryz.underlying4 _),
  (trodAll_cons_mk (Below.trod laidOut (by kernel_rfl) (of_decide_eq_true (by kernel_rfl)) h0 bel lt0) (trodAll_cons_mk (Below.trod laidOut (by kernel_rfl) (of_decide_eq_true (by kernel_rfl)) h1 bel lt1) (trodAll_cons_mk (Below.trod laidOut (by kernel_rfl) (of_decide_eq_true (by kernel_rfl)) h2 bel lt2) trodAll_mk0))), rfl, bel.frame _, fun h => by cases h⟩
theorem canKeptH : Rows.CanKeptSaid :=
 OpenClaim.holds_of_wide 9 Tryz.f9 rfl rfl rfl rfl rfl rfl rfl ⟨rfl, rfl, rfl, rfl, rfl⟩ rfl rfl rfl rfl rfl (by kernel_rfl) Tryz.func9 (by kernel_rfl)
  (of_decide_eq_true (by kernel_rfl)) (by unfold Func.isWrapper; first | (rw [if_pos dk0]; kernel_rfl) | (rw [if_neg dk0]; exact ⟨rfl, rfl⟩))
  (fun os started H enc _ => liftCanKept os started H enc)
theorem canKept : Rows.CanKeptCardSaid :=
 Claim7.holds_tied_plain_at .later [] [.funcs] true (true, "114ba46d525c684db3e97d3e5daf22351e8b02d0b87f957e3b74fac149e509e6") false
  canKeptH (fun _ h => by cases h) (by kernel_rfl) (fun _ h => by cases h) canKept_row_tie rfl ⟨rfl, rfl⟩ (by kernel_rfl) rfl
  (fun f fn hf hfn => by
   obtain rfl : f = 9 := Option.some.inj ((show Tryz.prog.funcNamed "oilcake/oilcakelaw08.CanKept" = some 9 by kernel_rfl).symm.trans hf) |>.symm
   obtain rfl : fn = Tryz.f9 := (Option.some.inj (Tryz.func9.symm.trans hfn)).symm
   exact ⟨by kernel_rfl, fun j t ht => by
    rw [Tryz.params9] at ht
    have hm : t ∈ [24, 25, 5] := by simpa using Array.mem_of_getElem? ht
    have hall : ([24, 25, 5].all fun u => !Tryz.prog.wantsStandIn u) = true := by kernel_rfl
    exact (show Tryz.prog.wantsStandIn t = false by simpa using List.all_eq_true.1 hall t hm)⟩)
  (by kernel_rfl)
end Go.Proofs.YtjekjehgmljbgaaGreatDoor
