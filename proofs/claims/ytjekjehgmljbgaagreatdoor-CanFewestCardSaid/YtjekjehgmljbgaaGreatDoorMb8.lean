/- Proved: for every input, with no condition, the law CanFewest returns true and the input reads as it did (Rows.CanFewestSaid). -/
import Derived.Test.YtjekjehgmljbgaaGreatDoorMb7
import Derived.Test.YtjekjehgmljbgaaGreatDoorMb5
import Derived.Test.YtjekjehgmljbgaaGreatDoorRows
import Derived.WalkKit
import Derived.ProofKit
import Derived.OpenShut
import Derived.Lib.SmallJoins
import Derived.ChangeOld
import Derived.Below
import Derived.Test.YtjekjehgmljbgaaGreatDoorMb2
import Derived.Test.YtjekjehgmljbgaaGreatDoorMb4
import Derived.Test.YtjekjehgmljbgaaGreatDoorTie
import Derived.Test.YtjekjehgmljbgaaGreatDoorCards
import Derived.LaidMore
import Derived.Stop.Joined
import Derived.SevenTiedAt
set_option linter.unusedVariables false
set_option linter.unusedSimpArgs false
namespace Go.Proofs.YtjekjehgmljbgaaGreatDoor.T
open Go.RowKit Go.Proofs Go.Eng
set_option maxRecDepth 100000
set_option maxHeartbeats 1000000
theorem blRow_cons_snoc (c : Cn) (B0 : Bl) (bs : List Bl) (y : Bl) : blRow c (B0 :: (bs ++ [y])) = blRow c (B0 :: bs) ++ y.cells c := by
 rw [← List.cons_append]; exact blRow_snoc c (B0 :: bs) y
theorem WkS.zero {c : Cn} {B0 : Bl} {bA : Nat} {L : List Value} (h : B0.cells c = L) : WkS c B0 [] [] (some ⟨bA, 0, none⟩) 1 [(bA, CB L 24)] none 0 [] [] := by
 subst h
 refine ⟨rfl, fun j hj => absurd hj (Nat.not_lt_zero _), fun k hk => absurd hk (Nat.not_lt_zero _), ⟨_, _, rfl, Nat.le_refl _, .inl ⟨Nat.zero_lt_one, bA, [], rfl, ?_, ?_⟩⟩, ⟨none, 0, rfl, Nat.le_refl _, .inr ⟨rfl, rfl, rfl⟩⟩, fun b hb => (by cases hb)⟩
 ·unfold blRow rowOf; simp
 ·unfold blRow rowOf; simp [Bl.cells]
theorem HSub.pullL {A M' B : List Blk} (L : List Blk) (hp : A.Perm (L ++ M')) (h : HSub (L ++ M') B) : HSub A B := fun N w hw => h N w (HSub.perm HSub.refl hp.symm N w hw)
theorem HSub.pull1 {A M' B : List Blk} (x : Blk) (hp : A.Perm (x :: M')) (h : HSub (x :: M') B) : HSub A B := fun N w hw => h N w (HSub.perm HSub.refl hp.symm N w hw)
theorem lwalk_any (c : Cn) (a1 : Option Addr) (p1 : Nat) (a2 : Option Addr) (p2 : Nat) (ba : Option Addr) (bn bcap : Nat) (by_ : List Int) (many : Nat) (w : World) (hok : c.Ok) (hn : c.n ≤ 1000000) (hm : c.inn.length ≤ 1000000) (h1 : Ints w a1 c.n p1 c.sz) (h2 : Ints w a2 c.inn.length p2 c.inn) (hmy : many ≤ 100) (hby : U4s w ba bn bcap by_) : Ct Tryz.prog 17 #[.agg #[.slice a1 c.n p1, .slice a2 c.inn.length p2, .int .i64 c.st], .slice ba bn bcap, .int .i64 (many : Int)] w (WalkV c (c.b0 a1 p1 a2 p2) many) := by
 have hn1 := hok.n1
 have hn3 := hok.n3
 have hco := hok.co_of
 have hi2 : (c.of (c.b0 a1 p1 a2 p2).x).inn = c.inn := by show (c.of c.co).inn = _; rw [hco]
 have hB2 : Ints w (c.b0 a1 p1 a2 p2).i (c.of (c.b0 a1 p1 a2 p2).x).inn.length (c.b0 a1 p1 a2 p2).ki (c.of (c.b0 a1 p1 a2 p2).x).inn := by rw [hi2]; exact h2
 have hB0 : (c.b0 a1 p1 a2 p2).cells c = [.slice a1 c.n p1, .slice a2 c.inn.length p2, .int .i64 c.st] := by
  show [Value.slice a1 c.n p1, .slice a2 (c.of (c.b0 a1 p1 a2 p2).x).inn.length p2, .int .i64 c.st] = _
  rw [hi2]
 obtain ⟨B0, hBB⟩ : ∃ B0, B0 = c.b0 a1 p1 a2 p2 := ⟨_, rfl⟩
 have hBx : B0.x = c.co := by rw [hBB]; rfl
 rw [← hBB] at hB2 hB0
 have hB1 : Ints w B0.s c.n B0.ks c.sz := by rw [hBB]; exact h1
 rw [← hBB]
 obtain ⟨N, hN⟩ : ∃ N, N = c.n + 1 := ⟨_, rfl⟩
 obtain ⟨M, hM⟩ : ∃ M, M = N * N := ⟨_, rfl⟩
 have hMI : (M : Int) = (N : Int) * (N : Int) := by rw [hM]; push_cast; rfl
 have hM4 : 4 ≤ M ∧ M ≤ 16 := by
  obtain h | h | h : N = 2 ∨ N = 3 ∨ N = 4 := by omega
  all_goals subst h; omega
 have hF := wide_wide
 refine Ct_start (args := [_, _, _]) Tryz.func17 rf Tryz.ntmps17 rf ?_
 refine zR fun ds => ?_
 refine WS_new hF rf (y_box rf) (fun b1 => ?_)
 refine za (.slice _ _ _) hF ?_
 refine za (.slice _ _ _) hF ?_
 refine zP fun ds => ?_
 refine zD hF (y_loadN rf Tryz.isAgg24 Tryz.sizeOf24 (Mem.own (us := [.slice _ _ _, .slice _ _ _, .int .i64 _]) 0 rf rf) rf) ?_
 refine WS_newS hF rf (y_buildSliceL bs34_1_0 rf) (fun bA => ?_)
 refine za (.slice _ _ _) hF ?_
 refine za (.slice _ _ _) hF ?_
 refine zP fun ds => ?_
 refine zD hF (y_fieldAddr rf fa24_0) ?_
 refine zD hF (y_load1 rf Tryz.isAgg22 (Mem.own1 1 rf rf)) ?_
 refine zD hF (y_len rf Tryz.runUnderlying22) ?_
 refine zD hF (y_add rf rf ui) ?_
 refine za (.int .i64 _) hF ?_
 refine zO ?_
 refine W_seq ?_
 rw [show ((c.n : Int) + 1) = (N : Int) by rw [hN]; push_cast; rfl]
 refine W_pull (b1, CB [.slice a1 c.n p1, .slice a2 c.inn.length p2, .int .i64 c.st] 24) zu ?_
 refine W_region_lit (fun ds => ?_)
 refine zm (.int .i64 _) hF ?_
 refine zm (.int .i64 _) hF ?_
 refine zN ?_
 refine W_block ?_
 refine W_loop (γ := Nat × List Po × List Bl × (Option Addr × Nat × List Blk) × (Option Addr × Nat × List Blk) × List Blk) (fun q => q.1 ≤ many ∧ q.2.1.length ≤ q.1 ∧ WkS c B0 q.2.1 q.2.2.1 q.2.2.2.1.1 q.2.2.2.1.2.1 q.2.2.2.1.2.2 q.2.2.2.2.1.1 q.2.2.2.2.1.2.1 q.2.2.2.2.1.2.2 q.2.2.2.2.2) (fun q => [(1, .slice ba bn bcap), (3, .pointer (some ⟨b1, 0, none⟩)), (8, .slice q.2.2.2.1.1 (B0 :: q.2.2.1).length q.2.2.2.1.2.1), (9, .slice q.2.2.2.2.1.1 q.2.1.length q.2.2.2.2.1.2.1), (10, .int .i64 (N : Int)), (23, .int .i64 (many : Int)), (24, .int .i64 (q.1 : Int))]) (fun q => (b1, CB [.slice a1 c.n p1, .slice a2 c.inn.length p2, .int .i64 c.st] 24) :: (q.2.2.2.2.2 ++ (q.2.2.2.1.2.2 ++ q.2.2.2.2.1.2.2))) (fun q => many - q.1) ((0, [], [], (some ⟨bA, 0, none⟩, 1, [(bA, CB [.slice a1 c.n p1, .slice a2 c.inn.length p2, .int .i64 c.st] 24)]), (none, 0, []), [])) ⟨Nat.zero_le _, Nat.le_refl _, WkS.zero hB0⟩ s10 ((by simp only [List.append_nil, List.nil_append]; exact List.Sublist.refl _)) ?_
 rintro ⟨i, ps, bs, ⟨aA, kA, HA⟩, ⟨aL, kL, HL⟩, HX⟩ e ⟨(hi : i ≤ many), (hpl : ps.length ≤ i), (hS : WkS c B0 ps bs aA kA HA aL kL HL HX)⟩
 refine zR fun ds => ?_
 refine zD hF (y_lss rf rf) ?_
 refine zO ?_
 refine W_cond rf (fun c4 => ?_) (fun c4 => ?_)
 ·
  try simp only [qz1, qz2, qz3, qz4, qz5, qz6, qz7, qz8] at c4
  have hBl := hS.len
  have hbl : bs.length ≤ 100 := by omega
  have hcl : (B0 :: bs).length = bs.length + 1 := rfl
  refine zU ?_
  refine W_seq ?_
  refine W_block ?_
  refine zR fun ds => ?_
  refine zm (.int .i64 _) hF ?_
  refine za (.int .i64 _) hF ?_
  refine zP fun ds => ?_
  refine zm (.int .i64 _) hF ?_
  refine zm (.int .i64 _) hF ?_
  refine zD hF (y_mul rf rf (by rw [← hMI]; unfold I64; omega)) ?_
  rw [← hMI]
  refine zm (.int .i64 _) hF ?_
  refine zN ?_
  refine W_block ?_
  refine W_loop (γ := Nat) (fun k => k ≤ M) (fun k => [(1, .slice ba bn bcap), (3, .pointer (some ⟨b1, 0, none⟩)), (8, .slice aA (B0 :: bs).length kA), (9, .slice aL ps.length kL), (10, .int .i64 (N : Int)), (11, .int .i64 (i : Int)), (23, .int .i64 (many : Int)), (24, .int .i64 (i : Int)), (29, .int .i64 (M : Int)), (30, .int .i64 (k : Int))]) (fun _ => (b1, CB [.slice a1 c.n p1, .slice a2 c.inn.length p2, .int .i64 c.st] 24) :: (HX ++ (HA ++ HL))) (fun k => M - k) (0) (Nat.zero_le _) s10 (sbA) ?_
  rintro k e hk
  refine zR fun ds => ?_
  refine zD hF (y_lss rf rf) ?_
  refine zO ?_
  refine W_cond rf (fun c7 => ?_) (fun c7 => ?_)
  ·
   try simp only [qz1, qz2, qz3, qz4, qz5, qz6, qz7, qz8] at c7
   refine zU ?_
   refine W_seq ?_
   refine W_block ?_
   refine zR fun ds => ?_
   refine zm (.int .i64 _) hF ?_
   refine za (.int .i64 _) hF ?_
   refine zP fun ds => ?_
   refine zm (.slice _ _ _) hF ?_
   refine zm (.int .i64 _) hF ?_
   refine WS_gen hF rf (y_callL rf rf Tryz.call51 (fun w hw => lchoose_any ba bn bcap by_ i w hby.le om0 (hby.st w hw))) ?_
   rintro _ Hd ⟨m, rfl, hm⟩
   refine WS_sub (HSub.sub (List.sublist_append_right _ _)) ?_
   refine zm (.int .i64 _) hF ?_
   refine zD hF (y_add rf rf ui) ?_
   refine zm (.int .i64 _) hF ?_
   refine zm (.int .i64 _) hF ?_
   refine zD hF (y_mul rf rf (by rw [← hMI]; unfold I64; omega)) ?_
   rw [← hMI]
   refine zD hF (y_rem rf rf om0 om0) ?_
   refine za (.int .i64 _) hF ?_
   refine zO ?_
   obtain ⟨Z, hZ, hZM⟩ : ∃ Z : Nat, ((m : Int) + (k : Int)) % (M : Int) = (Z : Int) ∧ Z < M := ⟨(m + k) % M, by push_cast; rfl, Nat.mod_lt _ om0⟩
   rw [hZ]
   obtain ⟨f, hf⟩ : ∃ f, f = Z / N := ⟨_, rfl⟩
   obtain ⟨t, ht⟩ : ∃ t, t = Z % N := ⟨_, rfl⟩
   have hfN : f < N := by rw [hf]; exact Nat.div_lt_of_lt_mul om0
   have htN : t < N := by rw [ht]; exact Nat.mod_lt _ om0
   have hfI : (Z : Int) / (N : Int) = (f : Int) := by rw [hf]; push_cast; rfl
   have htI : (Z : Int) % (N : Int) = (t : Int) := by rw [ht]; push_cast; rfl
   refine W_draw0 hF Tryzmixed [13] dk0 (fun ds => ?_)
   refine P_det rf (Over_nil (y_move (c := .int .i64 _) rf)) ?_
   refine P_det rf (Over_nil (y_move (c := .int .i64 _) rf)) ?_
   refine P_det rf (Over_nil (y_quo rf rf om0 om0 ui)) ?_
   refine P_det rf (Over_nil (y_move (c := .int .i64 _) rf)) ?_
   refine P_det rf (Over_nil (y_move (c := .int .i64 _) rf)) ?_
   refine P_det rf (Over_nil (y_rem rf rf om0 om0)) ?_
   refine P_det rf (Over_nil (y_buildL bd47_0_1 rf)) ?_
   apply P_newS _ rf rf rf (Over_nil (y_alloc Tryz.zeroValue47 rf))
   refine P_st 13 0 rf rf rf rf rf (Over_nil (st_new (fun _ => by rfl) Tryz.sizeOf47 rf rf d20)) ?_
   refine PW_end rf ?_
   refine OverAll_cons (fun w13 l13 => ?_)
   refine OverAll_nil ?_
   rintro ⟨-, h13⟩
   obtain ⟨bx, rfl, rfl⟩ := h13
   refine Then_normal ?_
   refine W_seq ?_
   refine W_seq ?_
   rw [hfI, htI]
   refine W_region_lit (fun ds => ?_)
   refine zD hF (y_fieldAddr rf fa47_0) ?_
   refine zD hF (y_load1 rf Tryz.isAgg3 (Mem.own1 0 rf rf)) ?_
   refine zD hF (y_fieldAddr rf fa47_1) ?_
   refine zD hF (y_load1 rf Tryz.isAgg3 (Mem.own1 0 rf rf)) ?_
   refine zD hF (y_eql rf rf) ?_
   refine zN ?_
   refine W_cond rf (fun c11 => ?_) (fun c11 => ?_)
   ·
    try simp only [qz1, qz2, qz3, qz4, qz5, qz6, qz7, qz8] at c11
    have hft : f = t := by omega
    refine W_exit ?_
    refine Then_exit ?_
    refine InB_same ?_
    refine zT fun ds => ?_
    refine zD hF (y_add rf rf ui) ?_
    refine zm (.int .i64 _) hF ?_
    refine WS_nil ?_
    exact Loop_next (k + 1) om0 s10 sbA om0
   ·
    try simp only [qz1, qz2, qz3, qz4, qz5, qz6, qz7, qz8] at c11
    have hft : f ≠ t := by omega
    obtain ⟨y, hy⟩ : ∃ y, y = (B0 :: bs).getD bs.length Bl.z := ⟨_, rfl⟩
    have hyx : y.x = c.runK ps ps.length := by rw [hy, hS.at hBx (Nat.le_refl _), hBl]
    have hyr : y = B0 ∨ y.RdH c HX := by
     rw [hy]
     cases bs with
     | nil => exact .inl rfl
     | cons b bs =>
      refine .inr (hS.rd _ ?_)
      show (b :: bs).getD bs.length Bl.z ∈ _
      rw [List.getD_eq_getElem?_getD, List.getElem?_eq_getElem (by simp)]
      exact List.getElem_mem _
    have hin : c.In y.x := by rw [hyx]; exact hok.run_in fun j hj => hS.run j hj
    have hoc := hok.of_co hin
    have hok2 := hok.of hin
    obtain ⟨br, hbr⟩ := NewRow.adr hS.rowA (by simp)
    subst hbr
    refine zU ?_
    refine W_seq ?_
    refine W_draw0 hF Tryzmixed [14] dk0 (fun ds => ?_)
    refine P_det rf (Over_nil (y_move (c := .slice _ _ _) rf)) ?_
    refine P_det rf (Over_nil (y_move (c := .slice _ _ _) rf)) ?_
    refine P_det rf (Over_nil (y_len rf Tryz.runUnderlying34)) ?_
    refine P_det rf (Over_nil (y_sub rf rf ui)) ?_
    refine P_det rf (Over_nil (y_index (k := bs.length) rf rf r10 d10 Tryz.runUnderlying34 Tryz.sizeOf24)) ?_
    refine P_det rf (Over_nil (y_loadN rf Tryz.isAgg24 Tryz.sizeOf24 (fun w hw => (show At w br (0 + bs.length * 3) [.slice y.s c.n y.ks, .slice y.i (c.of y.x).inn.length y.ki, .int .i64 y.x.a] by rw [hy]; exact (NewRow.rws (bl_len c) hS.rowA rfl sbA w hw).at (k := bs.length) (by simp))) rf)) ?_
    refine P_det rf (Over_nil (y_loadN rf Tryz.isAgg47 Tryz.sizeOf47 (Mem.own (us := [.int .i64 _, .int .i64 _]) 0 rf rf) rf)) ?_
    refine P_new rf rf (Over_nil (y_callL rf rf Tryz.call24 (fun w hw => lstep_any (c.of y.x) y.s y.ks y.i y.ki f t w hok2 hn (by rw [c.of_len y.x hn3]; omega) (Bl.ints hyr hB1 hB2 sbA w hw).1 (Bl.ints hyr hB1 hB2 sbA w hw).2 (by show f ≤ c.n; omega) (by show t ≤ c.n; omega) hft))) ?_
    refine P_ali [62] (fun e => e 62) rf rf rf (fun _ _ h => h 62 (List.mem_singleton.2 rfl)) (Over_in rf (Over_nil (by intro vb3 l62 hb3; obtain ⟨d, n, _, rfl, ⟨z1, q1, z2, q2, H1, H2, rfl, hr1, hr2, hJ⟩, hd⟩ := hb3; obtain ⟨JJ, rfl⟩ : ∃ JJ, JJ = l62 := ⟨_, rfl⟩; exact (YD0_of (y_move (c := .tuple _) rf))))) ?_
    refine P_ali [54] (fun e => tupAt (e 54) 0) rf rf rf (fun _ _ h => congrArg (tupAt · 0) (h 54 (List.mem_singleton.2 rfl))) (Over_in rf (Over_in rf (Over_nil (by intro vb5 l62 hb5; obtain ⟨d, n, _, rfl, ⟨z1, q1, z2, q2, H1, H2, rfl, hr1, hr2, hJ⟩, hd⟩ := hb5; obtain ⟨JJ, rfl⟩ : ∃ JJ, JJ = l62 := ⟨_, rfl⟩; rintro vb6 _ ⟨hvb6, rfl⟩; replace hvb6 : vb6 = .tuple _ := hvb6; subst hvb6; exact (YD0_of (y_extract (c := .agg _) rf rf)))))) ?_
    refine P_ali [54] (fun e => tupAt (e 54) 1) rf rf rf (fun _ _ h => congrArg (tupAt · 1) (h 54 (List.mem_singleton.2 rfl))) (Over_out rf (Over_in rf (Over_in rf (Over_nil (by intro vb8 l62 hb8; obtain ⟨d, n, _, rfl, ⟨z1, q1, z2, q2, H1, H2, rfl, hr1, hr2, hJ⟩, hd⟩ := hb8; obtain ⟨JJ, rfl⟩ : ∃ JJ, JJ = l62 := ⟨_, rfl⟩; rintro vb9 _ ⟨hvb9, rfl⟩; replace hvb9 : vb9 = .tuple _ := hvb9; subst hvb9; exact (YD0_of (y_extract (c := .int .i64 _) rf rf))))))) ?_
    refine P_ali [54] (fun e => tupAt (e 54) 2) rf rf rf (fun _ _ h => congrArg (tupAt · 2) (h 54 (List.mem_singleton.2 rfl))) (Over_out rf (Over_out rf (Over_in rf (Over_in rf (Over_nil (by intro vb11 l62 hb11; obtain ⟨d, n, _, rfl, ⟨z1, q1, z2, q2, H1, H2, rfl, hr1, hr2, hJ⟩, hd⟩ := hb11; obtain ⟨JJ, rfl⟩ : ∃ JJ, JJ = l62 := ⟨_, rfl⟩; rintro vb12 _ ⟨hvb12, rfl⟩; replace hvb12 : vb12 = .tuple _ := hvb12; subst hvb12; exact (YD0_of (y_extract (c := .bool _) rf rf)))))))) ?_
    refine P_newSD 63 rf rf rf (Over_out rf (Over_out rf (Over_out rf (Over_out rf (Over_out rf (Over_nil (y_alloc Tryz.zeroValue24 rf))))))) ?_
    refine P_st 14 0 rf rf rf rf rf (Over_out rf (Over_out rf (Over_in rf (Over_in rf (Over_in rf (Over_nil (by intro vb14 l62 hb14; obtain ⟨d, n, _, rfl, ⟨z1, q1, z2, q2, H1, H2, rfl, hr1, hr2, hJ⟩, hd⟩ := hb14; obtain ⟨JJ, rfl⟩ : ∃ JJ, JJ = l62 := ⟨_, rfl⟩; rintro vb15 _ ⟨hvb15, rfl⟩; replace hvb15 : vb15 = .tuple _ := hvb15; subst hvb15; rintro vb16 _ ⟨hvb16, rfl⟩; replace hvb16 : vb16 = .agg _ := hvb16; subst hvb16; exact (st_newD rf rf Tryz.sizeOf24 rf rf d20)))))))) ?_
    refine P_ali [64] (fun e => e 64) rf rf rf (fun _ _ h => h 64 (List.mem_singleton.2 rfl)) (Over_out rf (Over_out rf (Over_in rf (Over_out rf (Over_in rf (Over_in rf (Over_nil (by intro vb17 l62 hb17; obtain ⟨d, n, _, rfl, ⟨z1, q1, z2, q2, H1, H2, rfl, hr1, hr2, hJ⟩, hd⟩ := hb17; obtain ⟨JJ, rfl⟩ : ∃ JJ, JJ = l62 := ⟨_, rfl⟩; rintro vb18 _ ⟨hvb18, rfl⟩; replace hvb18 : vb18 = .tuple _ := hvb18; subst hvb18; rintro vb19 _ ⟨hvb19, rfl⟩; replace hvb19 : vb19 = .int .i64 _ := hvb19; subst hvb19; exact (YD0_of (y_assign (c := .int .i64 _) rf)))))))))) ?_
    refine P_ali [65] (fun e => e 65) rf rf rf (fun _ _ h => h 65 (List.mem_singleton.2 rfl)) (Over_out rf (Over_out rf (Over_in rf (Over_out rf (Over_out rf (Over_in rf (Over_in rf (Over_nil (by intro vb21 l62 hb21; obtain ⟨d, n, _, rfl, ⟨z1, q1, z2, q2, H1, H2, rfl, hr1, hr2, hJ⟩, hd⟩ := hb21; obtain ⟨JJ, rfl⟩ : ∃ JJ, JJ = l62 := ⟨_, rfl⟩; rintro vb22 _ ⟨hvb22, rfl⟩; replace hvb22 : vb22 = .tuple _ := hvb22; subst hvb22; rintro vb23 _ ⟨hvb23, rfl⟩; replace hvb23 : vb23 = .bool _ := hvb23; subst hvb23; exact (YD0_of (y_assign (c := .bool _) rf))))))))))) ?_
    refine PW_end rf ?_
    refine OverAll_cons (fun w16 l16 => ?_)
    refine OverAll_cons (fun w15 l15 => ?_)
    refine OverAll_cons (fun w14 l14 => ?_)
    refine OverAll_cons (fun w65 l65 => ?_)
    refine OverAll_cons (fun w64 l64 => ?_)
    refine OverAll_cons (fun w63 l63 => ?_)
    refine OverAll_cons (fun w54 l54 => ?_)
    refine OverAll_cons (fun w62 l62 => ?_)
    refine OverAll_nil ?_
    rintro ⟨⟨⟨⟨⟨⟨⟨⟨-, h16⟩, h15⟩, h14⟩, h65⟩, h64⟩, h63⟩, h54⟩, h62⟩
    obtain ⟨d, n, _, rfl, ⟨z1, q1, z2, q2, H1, H2, rfl, hr1, hr2, hJ⟩, hd⟩ := h62
    obtain ⟨JJ, rfl⟩ : ∃ JJ, JJ = l62 := ⟨_, rfl⟩
    obtain ⟨h54, rfl⟩ := h54
    replace h54 : w54 = .tuple _ := h54
    subst h54
    obtain ⟨h63, rfl⟩ := h63
    replace h63 : w63 = .agg _ := h63
    subst h63
    obtain ⟨h64, rfl⟩ := h64
    replace h64 : w64 = .int .i64 _ := h64
    subst h64
    obtain ⟨h65, rfl⟩ := h65
    replace h65 : w65 = .bool _ := h65
    subst h65
    obtain ⟨h15, rfl⟩ := h15
    replace h15 : w15 = .int .i64 _ := h15
    subst h15
    obtain ⟨h16, rfl⟩ := h16
    replace h16 : w16 = .bool _ := h16
    subst h16
    obtain ⟨bd, rfl, rfl⟩ := h14
    refine zS fun ds => ?_
    refine zm (.bool _) hF ?_
    refine zN ?_
    refine W_cond rf (fun c13 => ?_) (fun c13 => ?_)
    ·
     try simp only [qz1, qz2, qz3, qz4, qz5, qz6, qz7, qz8] at c13
     rw [hoc] at hd
     have hcan : c.canB y.x f t = true := by
      have : (c.of y.x).canB (c.of y.x).co f t = true := c13
      rw [hoc] at this; exact this
     obtain ⟨rfl, rfl⟩ := hd hcan
     obtain ⟨X2, hX2⟩ : ∃ X2, X2 = c.to y.x f t := ⟨_, rfl⟩
     have hxx : (c.of y.x).of ((c.of y.x).to y.x f t) = c.of X2 := by rw [hX2]; rfl
     rw [hxx] at hr1 hr2
     rw [hxx]
     obtain ⟨hf9, ht9⟩ : f ≤ c.n ∧ t ≤ c.n := by omega
     have hpe : c.pE (c.runK ps ps.length) (⟨(f : Int), (t : Int)⟩ : Po) = 0 := by
      rw [← hyx]
      exact Cn.pE_zero.2 ⟨Cn.vld_iff.2 ⟨⟨by simp only; omega, by simp only; omega⟩, ⟨by simp only; omega, by simp only; omega⟩, by simp only; omega⟩, hcan⟩
     refine W_seq ?_
     refine W_pull (b1, CB [.slice a1 c.n p1, .slice a2 c.inn.length p2, .int .i64 c.st] 24) zu ?_
     refine W_pull (bx, CB [.int .i64 (f : Int), .int .i64 (t : Int)] 47) zu ?_
     refine W_pull (bd, CB (Bl.cells c (⟨X2, z1, q1, z2, q2⟩ : Bl)) 24) zu ?_
     refine W_tailH0 ((bd, CB (Bl.cells c (⟨X2, z1, q1, z2, q2⟩ : Bl)) 24) :: (bx, CB [.int .i64 (f : Int), .int .i64 (t : Int)] 47) :: (b1, CB [.slice a1 c.n p1, .slice a2 c.inn.length p2, .int .i64 c.st] 24) :: []) 8 Tryzmixed (fun e2 H2 => ∃ aA3 kA3 HA3 aL3 kL3 HL3, NewRow 24 3 (B0 :: (bs ++ [(⟨X2, z1, q1, z2, q2⟩ : Bl)])).length (blRow c (B0 :: (bs ++ [(⟨X2, z1, q1, z2, q2⟩ : Bl)]))) (.slice aA3 (B0 :: (bs ++ [(⟨X2, z1, q1, z2, q2⟩ : Bl)])).length kA3) HA3 ∧ NewRow 47 2 (ps ++ [(⟨(f : Int), (t : Int)⟩ : Po)]).length (pRow (ps ++ [(⟨(f : Int), (t : Int)⟩ : Po)])) (.slice aL3 (ps ++ [(⟨(f : Int), (t : Int)⟩ : Po)]).length kL3) HL3 ∧ Slots e2 [(1, .slice ba bn bcap), (3, .pointer (some ⟨b1, 0, none⟩)), (10, .int .i64 (N : Int)), (23, .int .i64 (many : Int)), (24, .int .i64 (i : Int)), (70, .slice aA3 (B0 :: (bs ++ [(⟨X2, z1, q1, z2, q2⟩ : Bl)])).length kA3), (74, .slice aL3 (ps ++ [(⟨(f : Int), (t : Int)⟩ : Po)]).length kL3)] ∧ HSub H2 ((b1, CB [.slice a1 c.n p1, .slice a2 c.inn.length p2, .int .i64 c.st] 24) :: (JJ ++ (HX ++ (HA3 ++ HL3))))) dk0 (fun ds e2 H2 hmid => ?_) (fun ds => ?_)
     ·
      obtain ⟨aA3, kA3, HA3, aL3, kL3, HL3, hA3, hL3, hsl, hsb⟩ := hmid
      rw [← hsl.sets]
      refine WS_sub hsb ?_
      have hS3 : WkS c B0 (ps ++ [(⟨(f : Int), (t : Int)⟩ : Po)]) (bs ++ [(⟨X2, z1, q1, z2, q2⟩ : Bl)]) aA3 kA3 HA3 aL3 kL3 HL3 (JJ ++ HX) := hS.push hpe (by rw [← hyx]; exact hX2) hA3 hL3 (Bl.RdH.two hr1 hr2 (by rw [hJ]; exact List.sublist_append_left _ _)) (List.sublist_append_right _ _)
      refine za (.slice _ _ _) hF ?_
      refine za (.slice _ _ _) hF ?_
      refine zN ?_
      refine W_exit ?_
      refine InB_other rf ?_
      refine Then_exit ?_
      refine Loop_exit ?_
      refine InB_same ?_
      refine InB_normal ?_
      refine zT fun ds => ?_
      refine zD hF (y_add rf rf ui) ?_
      refine zm (.int .i64 _) hF ?_
      refine WS_nil ?_
      exact Loop_next (i + 1, ps ++ [⟨(f : Int), (t : Int)⟩], bs ++ [⟨X2, z1, q1, z2, q2⟩], (aA3, kA3, HA3), (aL3, kL3, HL3), JJ ++ HX) ⟨by simp only; omega, by simp only [List.length_append, List.length_singleton]; omega, hS3⟩ s10 sbA (by simp only; omega)
     ·
      refine WH_as (fun X hX => ?_)
      have J2_3_6 : ∀ (aA3 : Option Addr) (kA3 : Nat) (HA3 : List Blk) (bv : Nat) (hA3 : NewRow 24 3 (B0 :: (bs ++ [(⟨X2, z1, q1, z2, q2⟩ : Bl)])).length (blRow c (B0 :: (bs ++ [(⟨X2, z1, q1, z2, q2⟩ : Bl)]))) (.slice aA3 (B0 :: (bs ++ [(⟨X2, z1, q1, z2, q2⟩ : Bl)])).length kA3) HA3) (e2 : Env) (H2 : List Blk), Slots e2 [(1, .slice ba bn bcap), (3, .pointer (some ⟨b1, 0, none⟩)), (10, .int .i64 (N : Int)), (23, .int .i64 (many : Int)), (24, .int .i64 (i : Int)), (13, .pointer (some ⟨bx, 0, none⟩)), (14, .pointer (some ⟨bd, 0, none⟩)), (67, .slice (some ⟨br, 0, none⟩) (B0 :: bs).length kA), (68, .agg (Bl.cells c (⟨X2, z1, q1, z2, q2⟩ : Bl)).toArray), (71, .slice aL ps.length kL), (72, .agg #[.int .i64 (f : Int), .int .i64 (t : Int)]), (70, .slice aA3 (B0 :: (bs ++ [(⟨X2, z1, q1, z2, q2⟩ : Bl)])).length kA3), (73, .slice (some ⟨bv, 0, none⟩) 1 1)] → HSub H2 ((bv, CB [.int .i64 (f : Int), .int .i64 (t : Int)] 47) :: (bd, CB (Bl.cells c (⟨X2, z1, q1, z2, q2⟩ : Bl)) 24) :: (bx, CB [.int .i64 (f : Int), .int .i64 (t : Int)] 47) :: (b1, CB [.slice a1 c.n p1, .slice a2 c.inn.length p2, .int .i64 c.st] 24) :: HA3 ++ (JJ ++ (HX ++ (HL)))) → X 1 #[true, true, true, true, true, true, true, false] e2 H2 := by
       intro aA3 kA3 HA3 bv hA3 e2 H2 hsl hsb
       rw [← hsl.sets, hX]
       refine WH_sub hsb (HSub.sub sbA) ?_
       refine WH_step1 7 dk0 (fun _ h => St.sub h sbA) rf ?_
       ·
        refine WS_pull (bv, _) zu ?_
        refine WS_pullE HL (by repeat (first | exact PulE.hd | exact PulE.snd | exact PulE.one | apply PulE.cons | apply PulE.app)) ?_
        refine WS_appendN hF (H1 := (_ :: _ :: _ :: _ :: (HA3 ++ (JJ ++ (HX))))) (Hn := HL) (news := Po.cells (⟨(f : Int), (t : Int)⟩ : Po)) rf rf rf Tryz.underlying35 infPo rf rf hS.rowL (rowOf_len po_len _ _) (.inr ⟨bv, 0, rfl, Mem.own (us := Po.cells (⟨(f : Int), (t : Int)⟩ : Po)) 0 rf rf⟩) rf rf om0 om0 om0 ?_
        intro aL3 kL3 HL3 hr3
        have hL3 : NewRow 47 2 (ps ++ [(⟨(f : Int), (t : Int)⟩ : Po)]).length (pRow (ps ++ [(⟨(f : Int), (t : Int)⟩ : Po)])) (.slice aL3 (ps ++ [(⟨(f : Int), (t : Int)⟩ : Po)]).length kL3) HL3 := by
         rw [pRow_snoc, List.length_append]; exact hr3
        rw [show ps.length + 1 = (ps ++ [(⟨(f : Int), (t : Int)⟩ : Po)]).length by simp]
        simp only [List.append_assoc, List.cons_append, List.append_eq]
        refine WS_nil ?_
        refine WH_done dk0 (fun _ h => St.sub h sbA) ?_
        refine ⟨_, _, _, _, _, _, hA3, hL3, s30, ?_⟩
        refine HSub.pullL HL3 (by repeat (first | exact PulL.base | exact PulL.base1 | apply PulL.cons | apply PulL.app)) ?_
        refine HSub.pullL HA3 (by repeat (first | exact PulL.base | exact PulL.base1 | apply PulL.cons | apply PulL.app)) ?_
        refine HSub.pullL HX (by repeat (first | exact PulL.base | exact PulL.base1 | apply PulL.cons | apply PulL.app)) ?_
        refine HSub.pullL JJ (by repeat (first | exact PulL.base | exact PulL.base1 | apply PulL.cons | apply PulL.app)) ?_
        refine HSub.pull1 (b1, CB [.slice a1 c.n p1, .slice a2 c.inn.length p2, .int .i64 c.st] 24) zu ?_
        exact HSub.sub sbA
      have J2_3 : ∀ (aA3 : Option Addr) (kA3 : Nat) (HA3 : List Blk) (hA3 : NewRow 24 3 (B0 :: (bs ++ [(⟨X2, z1, q1, z2, q2⟩ : Bl)])).length (blRow c (B0 :: (bs ++ [(⟨X2, z1, q1, z2, q2⟩ : Bl)]))) (.slice aA3 (B0 :: (bs ++ [(⟨X2, z1, q1, z2, q2⟩ : Bl)])).length kA3) HA3) (e2 : Env) (H2 : List Blk), Slots e2 [(1, .slice ba bn bcap), (3, .pointer (some ⟨b1, 0, none⟩)), (10, .int .i64 (N : Int)), (23, .int .i64 (many : Int)), (24, .int .i64 (i : Int)), (13, .pointer (some ⟨bx, 0, none⟩)), (14, .pointer (some ⟨bd, 0, none⟩)), (67, .slice (some ⟨br, 0, none⟩) (B0 :: bs).length kA), (68, .agg (Bl.cells c (⟨X2, z1, q1, z2, q2⟩ : Bl)).toArray), (71, .slice aL ps.length kL), (72, .agg #[.int .i64 (f : Int), .int .i64 (t : Int)]), (70, .slice aA3 (B0 :: (bs ++ [(⟨X2, z1, q1, z2, q2⟩ : Bl)])).length kA3)] → HSub H2 ((bd, CB (Bl.cells c (⟨X2, z1, q1, z2, q2⟩ : Bl)) 24) :: (bx, CB [.int .i64 (f : Int), .int .i64 (t : Int)] 47) :: (b1, CB [.slice a1 c.n p1, .slice a2 c.inn.length p2, .int .i64 c.st] 24) :: HA3 ++ (JJ ++ (HX ++ (HL)))) → X 2 #[true, true, true, true, true, true, false, false] e2 H2 := by
       intro aA3 kA3 HA3 hA3 e2 H2 hsl hsb
       rw [← hsl.sets, hX]
       refine WH_sub hsb (HSub.sub sbA) ?_
       refine WH_step1 6 dk0 (fun _ h => St.sub h sbA) rf ?_
       ·
        refine WS_newS hF rf (y_buildSliceL bs35_1_0 rf) (fun bv => ?_)
        refine WS_nil ?_
        refine WH_pullL HL (by repeat (first | exact PulL.base | exact PulL.base1 | apply PulL.cons | apply PulL.app)) ?_
        refine WH_pullL HX (by repeat (first | exact PulL.base | exact PulL.base1 | apply PulL.cons | apply PulL.app)) ?_
        refine WH_pullL JJ (by repeat (first | exact PulL.base | exact PulL.base1 | apply PulL.cons | apply PulL.app)) ?_
        refine WH_pullL HA3 (by repeat (first | exact PulL.base | exact PulL.base1 | apply PulL.cons | apply PulL.app)) ?_
        refine WH_pull (b1, CB [.slice a1 c.n p1, .slice a2 c.inn.length p2, .int .i64 c.st] 24) zu ?_
        refine WH_pull (bx, CB [.int .i64 (f : Int), .int .i64 (t : Int)] 47) zu ?_
        refine WH_pull (bd, CB (Bl.cells c (⟨X2, z1, q1, z2, q2⟩ : Bl)) 24) zu ?_
        refine WH_pull (bv, CB [.int .i64 (f : Int), .int .i64 (t : Int)] 47) zu ?_
        exact WH_of hX rf dk0 (J2_3_6 aA3 kA3 HA3 bv hA3 _ _ s10 (HSub.sub (by repeat (first | exact List.nil_sublist _ | exact List.Sublist.refl _ | exact List.sublist_append_left _ _ | apply List.Sublist.cons_cons | apply List.Sublist.append_left))))
      have J2_6 : ∀ (bu : Nat) (bv : Nat) (e2 : Env) (H2 : List Blk), Slots e2 [(1, .slice ba bn bcap), (3, .pointer (some ⟨b1, 0, none⟩)), (10, .int .i64 (N : Int)), (23, .int .i64 (many : Int)), (24, .int .i64 (i : Int)), (13, .pointer (some ⟨bx, 0, none⟩)), (14, .pointer (some ⟨bd, 0, none⟩)), (67, .slice (some ⟨br, 0, none⟩) (B0 :: bs).length kA), (68, .agg (Bl.cells c (⟨X2, z1, q1, z2, q2⟩ : Bl)).toArray), (71, .slice aL ps.length kL), (72, .agg #[.int .i64 (f : Int), .int .i64 (t : Int)]), (69, .slice (some ⟨bu, 0, none⟩) 1 1), (73, .slice (some ⟨bv, 0, none⟩) 1 1)] → HSub H2 ((bu, CB (Bl.cells c (⟨X2, z1, q1, z2, q2⟩ : Bl)) 24) :: (bv, CB [.int .i64 (f : Int), .int .i64 (t : Int)] 47) :: (bd, CB (Bl.cells c (⟨X2, z1, q1, z2, q2⟩ : Bl)) 24) :: (bx, CB [.int .i64 (f : Int), .int .i64 (t : Int)] 47) :: (b1, CB [.slice a1 c.n p1, .slice a2 c.inn.length p2, .int .i64 c.st] 24) :: JJ ++ (HX ++ (HA ++ (HL)))) → X 2 #[true, true, true, false, true, true, true, false] e2 H2 := by
       intro bu bv e2 H2 hsl hsb
       rw [← hsl.sets, hX]
       refine WH_sub hsb (HSub.sub sbA) ?_
       refine WH_step1 3 dk0 (fun _ h => St.sub h sbA) rf ?_
       ·
        refine WS_pull (bu, _) zu ?_
        refine WS_pullE HA (by repeat (first | exact PulE.hd | exact PulE.snd | exact PulE.one | apply PulE.cons | apply PulE.app)) ?_
        refine WS_appendN hF (H1 := (_ :: _ :: _ :: _ :: _ :: (JJ ++ (HX ++ (HL))))) (Hn := HA) (news := Bl.cells c (⟨X2, z1, q1, z2, q2⟩ : Bl)) rf rf rf Tryz.underlying34 infCans rf rf hS.rowA (blRow_len c _) (.inr ⟨bu, 0, rfl, Mem.own (us := Bl.cells c (⟨X2, z1, q1, z2, q2⟩ : Bl)) 0 rf rf⟩) rf rf om0 om0 om0 ?_
        intro aA3 kA3 HA3 hr3
        have hA3 : NewRow 24 3 (B0 :: (bs ++ [(⟨X2, z1, q1, z2, q2⟩ : Bl)])).length (blRow c (B0 :: (bs ++ [(⟨X2, z1, q1, z2, q2⟩ : Bl)]))) (.slice aA3 (B0 :: (bs ++ [(⟨X2, z1, q1, z2, q2⟩ : Bl)])).length kA3) HA3 := by
         rw [blRow_cons_snoc, show (B0 :: (bs ++ [(⟨X2, z1, q1, z2, q2⟩ : Bl)])).length = (B0 :: bs).length + 1 by simp]; exact hr3
        rw [show (B0 :: bs).length + 1 = (B0 :: (bs ++ [(⟨X2, z1, q1, z2, q2⟩ : Bl)])).length by simp]
        simp only [List.append_assoc, List.cons_append, List.append_eq]
        refine WS_nil ?_
        refine WH_pullL HL (by repeat (first | exact PulL.base | exact PulL.base1 | apply PulL.cons | apply PulL.app)) ?_
        refine WH_pullL HX (by repeat (first | exact PulL.base | exact PulL.base1 | apply PulL.cons | apply PulL.app)) ?_
        refine WH_pullL JJ (by repeat (first | exact PulL.base | exact PulL.base1 | apply PulL.cons | apply PulL.app)) ?_
        refine WH_pullL HA3 (by repeat (first | exact PulL.base | exact PulL.base1 | apply PulL.cons | apply PulL.app)) ?_
        refine WH_pull (b1, CB [.slice a1 c.n p1, .slice a2 c.inn.length p2, .int .i64 c.st] 24) zu ?_
        refine WH_pull (bx, CB [.int .i64 (f : Int), .int .i64 (t : Int)] 47) zu ?_
        refine WH_pull (bd, CB (Bl.cells c (⟨X2, z1, q1, z2, q2⟩ : Bl)) 24) zu ?_
        refine WH_pull (bv, CB [.int .i64 (f : Int), .int .i64 (t : Int)] 47) zu ?_
        exact WH_of hX rf dk0 (J2_3_6 aA3 kA3 HA3 bv hA3 _ _ s10 (HSub.sub (by repeat (first | exact List.nil_sublist _ | exact List.Sublist.refl _ | exact List.sublist_append_left _ _ | apply List.Sublist.cons_cons | apply List.Sublist.append_left))))
      have J2 : ∀ (bu : Nat) (e2 : Env) (H2 : List Blk), Slots e2 [(1, .slice ba bn bcap), (3, .pointer (some ⟨b1, 0, none⟩)), (10, .int .i64 (N : Int)), (23, .int .i64 (many : Int)), (24, .int .i64 (i : Int)), (13, .pointer (some ⟨bx, 0, none⟩)), (14, .pointer (some ⟨bd, 0, none⟩)), (67, .slice (some ⟨br, 0, none⟩) (B0 :: bs).length kA), (68, .agg (Bl.cells c (⟨X2, z1, q1, z2, q2⟩ : Bl)).toArray), (71, .slice aL ps.length kL), (72, .agg #[.int .i64 (f : Int), .int .i64 (t : Int)]), (69, .slice (some ⟨bu, 0, none⟩) 1 1)] → HSub H2 ((bu, CB (Bl.cells c (⟨X2, z1, q1, z2, q2⟩ : Bl)) 24) :: (bd, CB (Bl.cells c (⟨X2, z1, q1, z2, q2⟩ : Bl)) 24) :: (bx, CB [.int .i64 (f : Int), .int .i64 (t : Int)] 47) :: (b1, CB [.slice a1 c.n p1, .slice a2 c.inn.length p2, .int .i64 c.st] 24) :: JJ ++ (HX ++ (HA ++ (HL)))) → X 3 #[true, true, true, false, true, true, false, false] e2 H2 := by
       intro bu e2 H2 hsl hsb
       rw [← hsl.sets, hX]
       refine WH_sub hsb (HSub.sub sbA) ?_
       refine WH_step2 3 6 dk0 (fun _ h => St.sub h sbA) rf rf ?_ ?_
       ·
        refine WS_pull (bu, _) zu ?_
        refine WS_pullE HA (by repeat (first | exact PulE.hd | exact PulE.snd | exact PulE.one | apply PulE.cons | apply PulE.app)) ?_
        refine WS_appendN hF (H1 := (_ :: _ :: _ :: _ :: (JJ ++ (HX ++ (HL))))) (Hn := HA) (news := Bl.cells c (⟨X2, z1, q1, z2, q2⟩ : Bl)) rf rf rf Tryz.underlying34 infCans rf rf hS.rowA (blRow_len c _) (.inr ⟨bu, 0, rfl, Mem.own (us := Bl.cells c (⟨X2, z1, q1, z2, q2⟩ : Bl)) 0 rf rf⟩) rf rf om0 om0 om0 ?_
        intro aA3 kA3 HA3 hr3
        have hA3 : NewRow 24 3 (B0 :: (bs ++ [(⟨X2, z1, q1, z2, q2⟩ : Bl)])).length (blRow c (B0 :: (bs ++ [(⟨X2, z1, q1, z2, q2⟩ : Bl)]))) (.slice aA3 (B0 :: (bs ++ [(⟨X2, z1, q1, z2, q2⟩ : Bl)])).length kA3) HA3 := by
         rw [blRow_cons_snoc, show (B0 :: (bs ++ [(⟨X2, z1, q1, z2, q2⟩ : Bl)])).length = (B0 :: bs).length + 1 by simp]; exact hr3
        rw [show (B0 :: bs).length + 1 = (B0 :: (bs ++ [(⟨X2, z1, q1, z2, q2⟩ : Bl)])).length by simp]
        simp only [List.append_assoc, List.cons_append, List.append_eq]
        refine WS_nil ?_
        refine WH_pullL HL (by repeat (first | exact PulL.base | exact PulL.base1 | apply PulL.cons | apply PulL.app)) ?_
        refine WH_pullL HX (by repeat (first | exact PulL.base | exact PulL.base1 | apply PulL.cons | apply PulL.app)) ?_
        refine WH_pullL JJ (by repeat (first | exact PulL.base | exact PulL.base1 | apply PulL.cons | apply PulL.app)) ?_
        refine WH_pullL HA3 (by repeat (first | exact PulL.base | exact PulL.base1 | apply PulL.cons | apply PulL.app)) ?_
        refine WH_pull (b1, CB [.slice a1 c.n p1, .slice a2 c.inn.length p2, .int .i64 c.st] 24) zu ?_
        refine WH_pull (bx, CB [.int .i64 (f : Int), .int .i64 (t : Int)] 47) zu ?_
        refine WH_pull (bd, CB (Bl.cells c (⟨X2, z1, q1, z2, q2⟩ : Bl)) 24) zu ?_
        exact WH_of hX rf dk0 (J2_3 aA3 kA3 HA3 hA3 _ _ s10 (HSub.sub (by repeat (first | exact List.nil_sublist _ | exact List.Sublist.refl _ | exact List.sublist_append_left _ _ | apply List.Sublist.cons_cons | apply List.Sublist.append_left))))
       ·
        refine WS_newS hF rf (y_buildSliceL bs35_1_0 rf) (fun bv => ?_)
        refine WS_nil ?_
        refine WH_pullL HL (by repeat (first | exact PulL.base | exact PulL.base1 | apply PulL.cons | apply PulL.app)) ?_
        refine WH_pullL HA (by repeat (first | exact PulL.base | exact PulL.base1 | apply PulL.cons | apply PulL.app)) ?_
        refine WH_pullL HX (by repeat (first | exact PulL.base | exact PulL.base1 | apply PulL.cons | apply PulL.app)) ?_
        refine WH_pullL JJ (by repeat (first | exact PulL.base | exact PulL.base1 | apply PulL.cons | apply PulL.app)) ?_
        refine WH_pull (b1, CB [.slice a1 c.n p1, .slice a2 c.inn.length p2, .int .i64 c.st] 24) zu ?_
        refine WH_pull (bx, CB [.int .i64 (f : Int), .int .i64 (t : Int)] 47) zu ?_
        refine WH_pull (bd, CB (Bl.cells c (⟨X2, z1, q1, z2, q2⟩ : Bl)) 24) zu ?_
        refine WH_pull (bv, CB [.int .i64 (f : Int), .int .i64 (t : Int)] 47) zu ?_
        refine WH_pull (bu, CB (Bl.cells c (⟨X2, z1, q1, z2, q2⟩ : Bl)) 24) zu ?_
        exact WH_of hX rf dk0 (J2_6 bu bv _ _ s10 (HSub.sub (by repeat (first | exact List.nil_sublist _ | exact List.Sublist.refl _ | exact List.sublist_append_left _ _ | apply List.Sublist.cons_cons | apply List.Sublist.append_left))))
      have J6 : ∀ (bv : Nat) (e2 : Env) (H2 : List Blk), Slots e2 [(1, .slice ba bn bcap), (3, .pointer (some ⟨b1, 0, none⟩)), (10, .int .i64 (N : Int)), (23, .int .i64 (many : Int)), (24, .int .i64 (i : Int)), (13, .pointer (some ⟨bx, 0, none⟩)), (14, .pointer (some ⟨bd, 0, none⟩)), (67, .slice (some ⟨br, 0, none⟩) (B0 :: bs).length kA), (68, .agg (Bl.cells c (⟨X2, z1, q1, z2, q2⟩ : Bl)).toArray), (71, .slice aL ps.length kL), (72, .agg #[.int .i64 (f : Int), .int .i64 (t : Int)]), (73, .slice (some ⟨bv, 0, none⟩) 1 1)] → HSub H2 ((bv, CB [.int .i64 (f : Int), .int .i64 (t : Int)] 47) :: (bd, CB (Bl.cells c (⟨X2, z1, q1, z2, q2⟩ : Bl)) 24) :: (bx, CB [.int .i64 (f : Int), .int .i64 (t : Int)] 47) :: (b1, CB [.slice a1 c.n p1, .slice a2 c.inn.length p2, .int .i64 c.st] 24) :: JJ ++ (HX ++ (HA ++ (HL)))) → X 3 #[true, true, false, false, true, true, true, false] e2 H2 := by
       intro bv e2 H2 hsl hsb
       rw [← hsl.sets, hX]
       refine WH_sub hsb (HSub.sub sbA) ?_
       refine WH_step1 2 dk0 (fun _ h => St.sub h sbA) rf ?_
       ·
        refine WS_newS hF rf (y_buildSliceL bs34_1_0 rf) (fun bu => ?_)
        refine WS_nil ?_
        refine WH_pullL HL (by repeat (first | exact PulL.base | exact PulL.base1 | apply PulL.cons | apply PulL.app)) ?_
        refine WH_pullL HA (by repeat (first | exact PulL.base | exact PulL.base1 | apply PulL.cons | apply PulL.app)) ?_
        refine WH_pullL HX (by repeat (first | exact PulL.base | exact PulL.base1 | apply PulL.cons | apply PulL.app)) ?_
        refine WH_pullL JJ (by repeat (first | exact PulL.base | exact PulL.base1 | apply PulL.cons | apply PulL.app)) ?_
        refine WH_pull (b1, CB [.slice a1 c.n p1, .slice a2 c.inn.length p2, .int .i64 c.st] 24) zu ?_
        refine WH_pull (bx, CB [.int .i64 (f : Int), .int .i64 (t : Int)] 47) zu ?_
        refine WH_pull (bd, CB (Bl.cells c (⟨X2, z1, q1, z2, q2⟩ : Bl)) 24) zu ?_
        refine WH_pull (bv, CB [.int .i64 (f : Int), .int .i64 (t : Int)] 47) zu ?_
        refine WH_pull (bu, CB (Bl.cells c (⟨X2, z1, q1, z2, q2⟩ : Bl)) 24) zu ?_
        exact WH_of hX rf dk0 (J2_6 bu bv _ _ s10 (HSub.sub (by repeat (first | exact List.nil_sublist _ | exact List.Sublist.refl _ | exact List.sublist_append_left _ _ | apply List.Sublist.cons_cons | apply List.Sublist.append_left))))
      have J : ∀  (e2 : Env) (H2 : List Blk), Slots e2 [(1, .slice ba bn bcap), (3, .pointer (some ⟨b1, 0, none⟩)), (10, .int .i64 (N : Int)), (23, .int .i64 (many : Int)), (24, .int .i64 (i : Int)), (13, .pointer (some ⟨bx, 0, none⟩)), (14, .pointer (some ⟨bd, 0, none⟩)), (67, .slice (some ⟨br, 0, none⟩) (B0 :: bs).length kA), (68, .agg (Bl.cells c (⟨X2, z1, q1, z2, q2⟩ : Bl)).toArray), (71, .slice aL ps.length kL), (72, .agg #[.int .i64 (f : Int), .int .i64 (t : Int)])] → HSub H2 ((bd, CB (Bl.cells c (⟨X2, z1, q1, z2, q2⟩ : Bl)) 24) :: (bx, CB [.int .i64 (f : Int), .int .i64 (t : Int)] 47) :: (b1, CB [.slice a1 c.n p1, .slice a2 c.inn.length p2, .int .i64 c.st] 24) :: JJ ++ (HX ++ (HA ++ (HL)))) → X 4 #[true, true, false, false, true, true, false, false] e2 H2 := by
       intro  e2 H2 hsl hsb
       rw [← hsl.sets, hX]
       refine WH_sub hsb (HSub.sub sbA) ?_
       refine WH_step2 2 6 dk0 (fun _ h => St.sub h sbA) rf rf ?_ ?_
       ·
        refine WS_newS hF rf (y_buildSliceL bs34_1_0 rf) (fun bu => ?_)
        refine WS_nil ?_
        refine WH_pullL HL (by repeat (first | exact PulL.base | exact PulL.base1 | apply PulL.cons | apply PulL.app)) ?_
        refine WH_pullL HA (by repeat (first | exact PulL.base | exact PulL.base1 | apply PulL.cons | apply PulL.app)) ?_
        refine WH_pullL HX (by repeat (first | exact PulL.base | exact PulL.base1 | apply PulL.cons | apply PulL.app)) ?_
        refine WH_pullL JJ (by repeat (first | exact PulL.base | exact PulL.base1 | apply PulL.cons | apply PulL.app)) ?_
        refine WH_pull (b1, CB [.slice a1 c.n p1, .slice a2 c.inn.length p2, .int .i64 c.st] 24) zu ?_
        refine WH_pull (bx, CB [.int .i64 (f : Int), .int .i64 (t : Int)] 47) zu ?_
        refine WH_pull (bd, CB (Bl.cells c (⟨X2, z1, q1, z2, q2⟩ : Bl)) 24) zu ?_
        refine WH_pull (bu, CB (Bl.cells c (⟨X2, z1, q1, z2, q2⟩ : Bl)) 24) zu ?_
        exact WH_of hX rf dk0 (J2 bu _ _ s10 (HSub.sub (by repeat (first | exact List.nil_sublist _ | exact List.Sublist.refl _ | exact List.sublist_append_left _ _ | apply List.Sublist.cons_cons | apply List.Sublist.append_left))))
       ·
        refine WS_newS hF rf (y_buildSliceL bs35_1_0 rf) (fun bv => ?_)
        refine WS_nil ?_
        refine WH_pullL HL (by repeat (first | exact PulL.base | exact PulL.base1 | apply PulL.cons | apply PulL.app)) ?_
        refine WH_pullL HA (by repeat (first | exact PulL.base | exact PulL.base1 | apply PulL.cons | apply PulL.app)) ?_
        refine WH_pullL HX (by repeat (first | exact PulL.base | exact PulL.base1 | apply PulL.cons | apply PulL.app)) ?_
        refine WH_pullL JJ (by repeat (first | exact PulL.base | exact PulL.base1 | apply PulL.cons | apply PulL.app)) ?_
        refine WH_pull (b1, CB [.slice a1 c.n p1, .slice a2 c.inn.length p2, .int .i64 c.st] 24) zu ?_
        refine WH_pull (bx, CB [.int .i64 (f : Int), .int .i64 (t : Int)] 47) zu ?_
        refine WH_pull (bd, CB (Bl.cells c (⟨X2, z1, q1, z2, q2⟩ : Bl)) 24) zu ?_
        refine WH_pull (bv, CB [.int .i64 (f : Int), .int .i64 (t : Int)] 47) zu ?_
        exact WH_of hX rf dk0 (J6 bv _ _ s10 (HSub.sub (by repeat (first | exact List.nil_sublist _ | exact List.Sublist.refl _ | exact List.sublist_append_left _ _ | apply List.Sublist.cons_cons | apply List.Sublist.append_left))))
      rw [hX]
      refine WH_take 0 dk0 rf dk0 dk0 rf (ye_move (c := .slice _ _ _) rf) ?_
      refine WH_take 1 dk0 rf dk0 dk0 rf (ye_loadN rf Tryz.isAgg24 Tryz.sizeOf24 (Mem.own (us := Bl.cells c (⟨X2, z1, q1, z2, q2⟩ : Bl)) 0 rf rf) rf) ?_
      refine WH_take 4 dk0 rf dk0 dk0 rf (ye_move (c := .slice _ _ _) rf) ?_
      refine WH_take 5 dk0 rf dk0 dk0 rf (ye_loadN rf Tryz.isAgg47 Tryz.sizeOf47 (Mem.own (us := [.int .i64 _, .int .i64 _]) 1 rf rf) rf) ?_
      refine WH_pullL HL (by repeat (first | exact PulL.base | exact PulL.base1 | apply PulL.cons | apply PulL.app)) ?_
      refine WH_pullL HA (by repeat (first | exact PulL.base | exact PulL.base1 | apply PulL.cons | apply PulL.app)) ?_
      refine WH_pullL HX (by repeat (first | exact PulL.base | exact PulL.base1 | apply PulL.cons | apply PulL.app)) ?_
      refine WH_pullL JJ (by repeat (first | exact PulL.base | exact PulL.base1 | apply PulL.cons | apply PulL.app)) ?_
      refine WH_pull (b1, CB [.slice a1 c.n p1, .slice a2 c.inn.length p2, .int .i64 c.st] 24) zu ?_
      refine WH_pull (bx, CB [.int .i64 (f : Int), .int .i64 (t : Int)] 47) zu ?_
      refine WH_pull (bd, CB (Bl.cells c (⟨X2, z1, q1, z2, q2⟩ : Bl)) 24) zu ?_
      exact WH_of hX rf dk0 (J  _ _ s10 (HSub.sub (by repeat (first | exact List.nil_sublist _ | exact List.Sublist.refl _ | exact List.sublist_append_left _ _ | apply List.Sublist.cons_cons | apply List.Sublist.append_left))))
    ·
     try simp only [qz1, qz2, qz3, qz4, qz5, qz6, qz7, qz8] at c13
     refine W_skip ?_
     refine InB_normal ?_
     refine zT fun ds => ?_
     refine zD hF (y_add rf rf ui) ?_
     refine zm (.int .i64 _) hF ?_
     refine WS_nil ?_
     exact Loop_next (k + 1) om0 s10 sbA om0
  ·
   try simp only [qz1, qz2, qz3, qz4, qz5, qz6, qz7, qz8] at c7
   refine W_exit ?_
   refine Then_exit ?_
   refine Loop_exit ?_
   refine InB_same ?_
   refine InB_normal ?_
   refine zT fun ds => ?_
   refine zD hF (y_add rf rf ui) ?_
   refine zm (.int .i64 _) hF ?_
   refine WS_nil ?_
   exact Loop_next (i + 1, ps, bs, (aA, kA, HA), (aL, kL, HL), HX) ⟨by simp only; omega, by simp only; omega, hS⟩ s10 sbA (by simp only; omega)
 ·
  try simp only [qz1, qz2, qz3, qz4, qz5, qz6, qz7, qz8] at c4
  refine W_exit ?_
  refine Then_exit ?_
  refine Loop_exit ?_
  refine InB_same ?_
  refine zS fun ds => ?_
  refine zm (.slice _ _ _) hF ?_
  refine zm (.slice _ _ _) hF ?_
  refine za (.slice _ _ _) hF ?_
  refine za (.slice _ _ _) hF ?_
  refine zN ?_
  refine W_ret ?_
  refine Fin_ret [.slice _ _ _, .slice _ _ _] (HX ++ (HA ++ HL)) Tryz.results17 ⟨by rfl, by rfl, trivial⟩ (HSub.sub sbA) ?_
  exact ⟨ps, bs, aA, kA, HA, aL, kL, HL, HX, rfl, by omega, hS, rfl⟩
set_option maxHeartbeats 4000000
theorem a_ep59_0 {x_0 : Int} {x_1 : Int} : ∀ w, (part 3 #[.int .i64 x_0, .int .i64 x_1] 0).run Tryz.prog w = .ok (.int .i64 x_0) w := fun w => by kernel_rfl
theorem a_ep59_1 {x_0 : Int} {x_1 : Int} : ∀ w, (part 3 #[.int .i64 x_0, .int .i64 x_1] 1).run Tryz.prog w = .ok (.int .i64 x_1) w := fun w => by kernel_rfl
theorem a_ep90_0 {x_0 : Int} {x_1 : Int} {x_2 : Int} {x_3 : Int} : ∀ w, (part 3 #[.int .i64 x_0, .int .i64 x_1, .int .i64 x_2, .int .i64 x_3] 0).run Tryz.prog w = .ok (.int .i64 x_0) w := fun w => by kernel_rfl
theorem a_ep90_1 {x_0 : Int} {x_1 : Int} {x_2 : Int} {x_3 : Int} : ∀ w, (part 3 #[.int .i64 x_0, .int .i64 x_1, .int .i64 x_2, .int .i64 x_3] 1).run Tryz.prog w = .ok (.int .i64 x_1) w := fun w => by kernel_rfl
theorem a_ep90_2 {x_0 : Int} {x_1 : Int} {x_2 : Int} {x_3 : Int} : ∀ w, (part 59 #[.int .i64 x_0, .int .i64 x_1, .int .i64 x_2, .int .i64 x_3] 2).run Tryz.prog w = .ok (.agg #[.int .i64 x_2, .int .i64 x_3]) w := fun w => by kernel_rfl
theorem a_gneqA90 {x y : Operand} {x_0 : Int} {x_1 : Int} {x_2 : Int} {x_3 : Int} {y_0 : Int} {y_1 : Int} {y_2 : Int} {y_3 : Int} : ∀ w, (eqGuard .neq 90 x y (.agg #[.int .i64 x_0, .int .i64 x_1, .int .i64 x_2, .int .i64 x_3]) (.agg #[.int .i64 y_0, .int .i64 y_1, .int .i64 y_2, .int .i64 y_3])).run Tryz.prog w = .ok () w := fun w => by kernel_rfl
theorem a_st59 : Tryz.prog.stoodInHeld 59 = false := by kernel_rfl
theorem a_st90 : Tryz.prog.stoodInHeld 90 = false := by kernel_rfl
theorem eq59_9999 {x_0 : Int} {x_1 : Int} {y_0 : Int} {y_1 : Int} : ∀ w, (Op.equalIn 9999 59 (.agg #[.int .i64 x_0, .int .i64 x_1]) (.agg #[.int .i64 y_0, .int .i64 y_1])).run Tryz.prog w = .ok (ieq x_0 y_0 && ieq x_1 y_1) w := fun w => by
 unfold Op.equalIn
 rw [Sem.run_bind, Tryz.runUnderlying59]
 simp [a_st59, a_ep59_0, eq_int (d := 9997) Tryz.runUnderlying3, a_ep59_1, eq_int (d := 9997) Tryz.runUnderlying3]
 generalize ieq x_0 y_0 = b0
 generalize ieq x_1 y_1 = b1
 cases b0 <;> cases b1 <;> simp
theorem eq90 {x_0 : Int} {x_1 : Int} {x_2 : Int} {x_3 : Int} {y_0 : Int} {y_1 : Int} {y_2 : Int} {y_3 : Int} : ∀ w, (Op.equalIn Op.maxDepth 90 (.agg #[.int .i64 x_0, .int .i64 x_1, .int .i64 x_2, .int .i64 x_3]) (.agg #[.int .i64 y_0, .int .i64 y_1, .int .i64 y_2, .int .i64 y_3])).run Tryz.prog w = .ok (ieq x_0 y_0 && ieq x_1 y_1 && ieq x_2 y_2 && ieq x_3 y_3) w := fun w => by
 unfold Op.maxDepth Op.equalIn
 rw [Sem.run_bind, Tryz.runUnderlying90]
 simp [a_st90, a_ep90_0, eq_int (d := 9998) Tryz.runUnderlying3, a_ep90_1, eq_int (d := 9998) Tryz.runUnderlying3, a_ep90_2, eq59_9999]
 generalize ieq x_0 y_0 = b0
 generalize ieq x_1 y_1 = b1
 generalize ieq x_2 y_2 = b2
 generalize ieq x_3 y_3 = b3
 cases b0 <;> cases b1 <;> cases b2 <;> cases b3 <;> simp
theorem bs22_12_0_1_2_3_4_5_6_7_8_9_10_11 {x0 : Int} {x1 : Int} {x2 : Int} {x3 : Int} {x4 : Int} {x5 : Int} {x6 : Int} {x7 : Int} {x8 : Int} {x9 : Int} {x10 : Int} {x11 : Int} : ∀ w, (Instr.buildSlice 22 12 #[(0, .int .i64 x0), (1, .int .i64 x1), (2, .int .i64 x2), (3, .int .i64 x3), (4, .int .i64 x4), (5, .int .i64 x5), (6, .int .i64 x6), (7, .int .i64 x7), (8, .int .i64 x8), (9, .int .i64 x9), (10, .int .i64 x10), (11, .int .i64 x11)]).run Tryz.prog w = .ok (.slice (some ⟨w.heap.size, 0, none⟩) 12 12) (w.alloc (CB [.int .i64 x0, .int .i64 x1, .int .i64 x2, .int .i64 x3, .int .i64 x4, .int .i64 x5, .int .i64 x6, .int .i64 x7, .int .i64 x8, .int .i64 x9, .int .i64 x10, .int .i64 x11] 3)) := fun w => by kernel_rfl
theorem bs22_4_0_1_2_3 {x0 : Int} {x1 : Int} {x2 : Int} {x3 : Int} : ∀ w, (Instr.buildSlice 22 4 #[(0, .int .i64 x0), (1, .int .i64 x1), (2, .int .i64 x2), (3, .int .i64 x3)]).run Tryz.prog w = .ok (.slice (some ⟨w.heap.size, 0, none⟩) 4 4) (w.alloc (CB [.int .i64 x0, .int .i64 x1, .int .i64 x2, .int .i64 x3] 3)) := fun w => by kernel_rfl
theorem bs22_6_0_1_2_3_4_5 {x0 : Int} {x1 : Int} {x2 : Int} {x3 : Int} {x4 : Int} {x5 : Int} : ∀ w, (Instr.buildSlice 22 6 #[(0, .int .i64 x0), (1, .int .i64 x1), (2, .int .i64 x2), (3, .int .i64 x3), (4, .int .i64 x4), (5, .int .i64 x5)]).run Tryz.prog w = .ok (.slice (some ⟨w.heap.size, 0, none⟩) 6 6) (w.alloc (CB [.int .i64 x0, .int .i64 x1, .int .i64 x2, .int .i64 x3, .int .i64 x4, .int .i64 x5] 3)) := fun w => by kernel_rfl
theorem bs22_8_0_1_2_3_4_5_6_7 {x0 : Int} {x1 : Int} {x2 : Int} {x3 : Int} {x4 : Int} {x5 : Int} {x6 : Int} {x7 : Int} : ∀ w, (Instr.buildSlice 22 8 #[(0, .int .i64 x0), (1, .int .i64 x1), (2, .int .i64 x2), (3, .int .i64 x3), (4, .int .i64 x4), (5, .int .i64 x5), (6, .int .i64 x6), (7, .int .i64 x7)]).run Tryz.prog w = .ok (.slice (some ⟨w.heap.size, 0, none⟩) 8 8) (w.alloc (CB [.int .i64 x0, .int .i64 x1, .int .i64 x2, .int .i64 x3, .int .i64 x4, .int .i64 x5, .int .i64 x6, .int .i64 x7] 3)) := fun w => by kernel_rfl
theorem neqA90 {x y : Operand} {x_0 : Int} {x_1 : Int} {x_2 : Int} {x_3 : Int} {y_0 : Int} {y_1 : Int} {y_2 : Int} {y_3 : Int} : ∀ w, ((do eqGuard .neq 90 x y (.agg #[.int .i64 x_0, .int .i64 x_1, .int .i64 x_2, .int .i64 x_3]) (.agg #[.int .i64 y_0, .int .i64 y_1, .int .i64 y_2, .int .i64 y_3]); binOp .neq 90 (.agg #[.int .i64 x_0, .int .i64 x_1, .int .i64 x_2, .int .i64 x_3]) (.agg #[.int .i64 y_0, .int .i64 y_1, .int .i64 y_2, .int .i64 y_3])) : Sem Value).run Tryz.prog w = .ok (.bool (!(ieq x_0 y_0 && ieq x_1 y_1 && ieq x_2 y_2 && ieq x_3 y_3))) w := eq_topN a_gneqA90 eq90
theorem k_farv : Value.tuple #[.int .i64 (if b35.okB then (b35.farT b35.madeL.length).1 else 0), .int .i64 (if b35.okB then (b35.farT b35.madeL.length).2 else 0), .int .i64 b35.err] = .tuple #[.int .i64 4, .int .i64 6, .int .i64 0] := by
 rw [if_pos dc, if_pos dc, k_far]; rfl
theorem k_hlpv : Value.tuple #[.int .i64 (if b35.hpE 4 = 0 then (minH (b35.hpL 4 20)).s else 0), .int .i64 (if b35.hpE 4 = 0 then (minH (b35.hpL 4 20)).m else 0), .int .i64 (b35.hpE 4)] = .tuple #[.int .i64 1, .int .i64 2, .int .i64 0] := by
 rw [if_pos k_help.1, if_pos k_help.1, k_help.1, k_help.2]
theorem AskA.lit {e : Int} {o : Option Wy} {w : Wy} {v : Value} {Hn : List Blk} (h : AskA e o v Hn) (he : e = 0) (ho : o = some w) : ∃ a k, v = .tuple #[.slice a w.l.length k, .int .i64 w.back, .int .i64 0] ∧ ∀ (C : Ctx) (H : List Blk) (u : World), Hn.Sublist H → St C H u → Pos u a w.l.length k w.l := by
 subst he ho
 obtain ⟨v0, rfl, a, k, rfl, h⟩ := h
 exact ⟨a, k, rfl, h⟩
def bg0 : Cn := ⟨[3, 5], [0, 0], 10⟩
theorem k_begE : begE logL [3, 5] = 0 := by kernel_rfl
theorem k_begC : begC logL [3, 5] = bg0 := by kernel_rfl
def wp2 : List Po := [⟨0, 2⟩, ⟨2, 1⟩]
def wrtL : Lg := ⟨tunT, ⟨20, 40⟩, [⟨0, 1, ⟨10, 15⟩⟩, ⟨3, 3, ⟨18, 20⟩⟩, ⟨5, 2, ⟨10, 20⟩⟩, ⟨5, 3, ⟨12, 16⟩⟩, ⟨5, 2, ⟨5, 5⟩⟩]⟩
theorem k_wtE : wtE logL bg0 wp2 = 0 := by kernel_rfl
theorem k_wtL : wtL logL bg0 wp2 = wrtL := by kernel_rfl
theorem bef_three {bs : List Bl} (h : bs.map Bl.x = befL) : ∃ y0 y1 y2, bs = [y0, y1, y2] ∧ y2.x = ⟨18, 2, 0, 0⟩ := by
 have hl : bs.length = 3 := by have := congrArg List.length h; simpa [befL] using this
 obtain ⟨y0, y1, y2, rfl⟩ : ∃ y0 y1 y2, bs = [y0, y1, y2] := by
  match bs, hl with
  | [a, b, c], _ => exact ⟨a, b, c, rfl⟩
 unfold befL at h
 simp only [List.map_cons, List.map_nil, List.cons.injEq, and_true] at h
 exact ⟨y0, y1, y2, rfl, h.2.2⟩
theorem calive_any (w : World) (hG : Gv w) : Ct Tryz.prog 13 #[] w fun v _ => v = .bool true := by
 have hF := wide_wide
 refine Ct_start (args := []) Tryz.func13 rf Tryz.ntmps13 rf ?_
 refine zR fun ds => ?_
 refine za (.bool _) hF ?_
 refine zP fun ds => ?_
 refine WS_newS hF rf (y_buildSliceL bs22_2_0_1 rf) (fun sz => ?_)
 refine WS_gen hF rf (y_callL rf rf Tryz.call43 (fun w hw => l8bench_any 20 [3, 5] _ _ w dc)) ?_
 rintro _ Hz ⟨z, q, rfl, hz⟩
 refine WS_back ?_
 refine zD hF (y_callL rf rf Tryz.call16 (fun w hw => Ct_eq (many_any b35 _ _ _ _ w (hG.st w hw) dc dc (Ints.mem (rest := []) 0 rf rf dc w hw) (NewRow.ints hz rfl sbA w hw)) k_many)) ?_
 refine zm (.tuple _) hF ?_
 refine zD hF (y_extract (c := .int .i64 _) rf rf) ?_
 refine zD hF (y_extract (c := .int .i64 _) rf rf) ?_
 refine za (.int .i64 _) hF ?_
 refine za (.int .i64 _) hF ?_
 refine zO ?_
 refine W_sub HSub.nil ?_
 refine W_region_lit (fun ds => ?_)
 refine WS_newS hF rf (y_buildSliceL bs22_2_0_1 rf) (fun sz => ?_)
 refine WS_gen hF rf (y_callL rf rf Tryz.call43 (fun w hw => l8bench_any 20 [4, 6] _ _ w dc)) ?_
 rintro _ Hz ⟨z, q, rfl, hz⟩
 refine WS_back ?_
 refine WS_gen hF rf (y_callL rf rf Tryz.call15 (fun w hw => made_any b46 _ _ _ _ w (hG.st w hw) dc dc (Ints.mem (rest := []) 0 rf rf dc w hw) (NewRow.ints hz rfl sbA w hw))) ?_
 rintro _ Hm ⟨ma, mc, rfl, hm⟩
 rw [k_made] at hm ⊢
 rw [show b46.err = 0 from rfl]
 refine WS_back ?_
 refine zm (.tuple _) hF ?_
 refine zD hF (y_extract (c := .slice _ _ _) rf rf) ?_
 refine zD hF (y_extract (c := .int .i64 _) rf rf) ?_
 refine za (.slice _ _ _) hF ?_
 refine za (.int .i64 _) hF ?_
 refine zO ?_
 refine W_sub (HSub.sub (Hn := Hm) sbA) ?_
 refine W_region_lit (fun ds => ?_)
 refine WS_newS hF rf (y_buildSliceL bs22_2_0_1 rf) (fun sz => ?_)
 refine WS_gen hF rf (y_callL rf rf Tryz.call43 (fun w hw => l8bench_any 20 [4, 6] _ _ w dc)) ?_
 rintro _ Hz ⟨z, q, rfl, hz⟩
 refine WS_back ?_
 refine zD hF (y_callL rf rf Tryz.call21 (fun w hw => Ct_eq (measure_any b46 _ _ _ _ w (hG.st w hw) dc dc (Ints.mem (rest := []) 0 rf rf dc w hw) (NewRow.ints hz rfl sbA w hw)) k_meas)) ?_
 refine zm (.tuple _) hF ?_
 refine zD hF (y_extract (c := .int .i64 _) rf rf) ?_
 refine zD hF (y_extract (c := .int .i64 _) rf rf) ?_
 refine za (.int .i64 _) hF ?_
 refine za (.int .i64 _) hF ?_
 refine zO ?_
 refine W_sub (HSub.sub (Hn := Hm) sbA) ?_
 refine W_region_lit (fun ds => ?_)
 refine WS_newS hF rf (y_buildSliceL bs22_2_0_1 rf) (fun sz => ?_)
 refine WS_gen hF rf (y_callL rf rf Tryz.call43 (fun w hw => l8bench_any 20 [3, 5] _ _ w dc)) ?_
 rintro _ Hz ⟨z, q, rfl, hz⟩
 refine WS_back ?_
 refine WS_gen hF rf (y_callL rf rf Tryz.call19 (fun w hw => cleast_any b35 _ _ _ _ 4 w (hG.st w hw) dc dc (Ints.mem (rest := []) 0 rf rf dc w hw) (NewRow.ints hz rfl sbA w hw))) ?_
 rintro _ L4 hA
 obtain ⟨la, lk, rfl, hP4⟩ := hA.lit k_e4 k_l4
 refine WS_back ?_
 refine zm (.tuple _) hF ?_
 refine zD hF (y_extract (c := .slice _ _ _) rf rf) ?_
 refine zD hF (y_extract (c := .int .i64 _) rf rf) ?_
 refine zD hF (y_extract (c := .int .i64 _) rf rf) ?_
 refine za (.slice _ _ _) hF ?_
 refine za (.int .i64 _) hF ?_
 refine za (.int .i64 _) hF ?_
 refine zO ?_
 refine W_sub (HSub.sub (Hn := Hm ++ L4) sbA) ?_
 refine W_region_lit (fun ds => ?_)
 refine WS_newS hF rf (y_buildSliceL bs22_2_0_1 rf) (fun sz => ?_)
 refine WS_gen hF rf (y_callL rf rf Tryz.call43 (fun w hw => l8bench_any 20 [3, 5] _ _ w dc)) ?_
 rintro _ Hz ⟨z, q, rfl, hz⟩
 refine WS_back ?_
 refine WS_gen hF rf (y_callL rf rf Tryz.call19 (fun w hw => cleast_any b35 _ _ _ _ 1 w (hG.st w hw) dc dc (Ints.mem (rest := []) 0 rf rf dc w hw) (NewRow.ints hz rfl sbA w hw))) ?_
 rintro _ L1 hA
 obtain ⟨la1, lk1, rfl, hP1⟩ := hA.lit k_e1 k_l1
 refine WS_back ?_
 refine zm (.tuple _) hF ?_
 refine zD hF (y_extract (c := .slice _ _ _) rf rf) ?_
 refine zD hF (y_extract (c := .int .i64 _) rf rf) ?_
 refine zD hF (y_extract (c := .int .i64 _) rf rf) ?_
 refine za (.slice _ _ _) hF ?_
 refine za (.int .i64 _) hF ?_
 refine za (.int .i64 _) hF ?_
 refine zO ?_
 refine W_sub (HSub.sub (Hn := Hm ++ (L4 ++ L1)) sbA) ?_
 refine W_region_lit (fun ds => ?_)
 refine WS_newS hF rf (y_buildSliceL bs22_2_0_1 rf) (fun sz => ?_)
 refine WS_gen hF rf (y_callL rf rf Tryz.call43 (fun w hw => l8bench_any 20 [3, 5] _ _ w dc)) ?_
 rintro _ Hz ⟨z, q, rfl, hz⟩
 refine WS_back ?_
 refine WS_gen hF rf (y_callL rf rf Tryz.call40 (fun w hw => ctotal_any b35 _ _ _ _ 6 w (hG.st w hw) dc dc (Ints.mem (rest := []) 0 rf rf dc w hw) (NewRow.ints hz rfl sbA w hw))) ?_
 rintro _ L6 hA
 obtain ⟨la6, lk6, rfl, hP6⟩ := hA.lit k_e6 k_t6
 refine WS_back ?_
 refine zm (.tuple _) hF ?_
 refine zD hF (y_extract (c := .slice _ _ _) rf rf) ?_
 refine zD hF (y_extract (c := .int .i64 _) rf rf) ?_
 refine zD hF (y_extract (c := .int .i64 _) rf rf) ?_
 refine za (.slice _ _ _) hF ?_
 refine za (.int .i64 _) hF ?_
 refine za (.int .i64 _) hF ?_
 refine zO ?_
 refine W_sub (HSub.sub (Hn := Hm ++ (L4 ++ (L1 ++ L6))) sbA) ?_
 refine W_region_lit (fun ds => ?_)
 refine WS_newS hF rf (y_buildSliceL bs22_2_0_1 rf) (fun sz => ?_)
 refine WS_gen hF rf (y_callL rf rf Tryz.call43 (fun w hw => l8bench_any 20 [3, 5] _ _ w dc)) ?_
 rintro _ Hz ⟨z, q, rfl, hz⟩
 refine WS_back ?_
 refine zD hF (y_callL rf rf Tryz.call26 (fun w hw => Ct_eq (far_any b35 _ _ _ _ w (hG.st w hw) dc dc (Ints.mem (rest := []) 0 rf rf dc w hw) (NewRow.ints hz rfl sbA w hw)) k_farv)) ?_
 refine zm (.tuple _) hF ?_
 refine zD hF (y_extract (c := .int .i64 _) rf rf) ?_
 refine zD hF (y_extract (c := .int .i64 _) rf rf) ?_
 refine zD hF (y_extract (c := .int .i64 _) rf rf) ?_
 refine za (.int .i64 _) hF ?_
 refine za (.int .i64 _) hF ?_
 refine za (.int .i64 _) hF ?_
 refine zO ?_
 refine W_sub (HSub.sub (Hn := Hm ++ (L4 ++ (L1 ++ L6))) sbA) ?_
 refine W_region_lit (fun ds => ?_)
 refine WS_newS hF rf (y_buildSliceL bs22_2_0_1 rf) (fun sz => ?_)
 refine WS_gen hF rf (y_callL rf rf Tryz.call43 (fun w hw => l8bench_any 20 [3, 5] _ _ w dc)) ?_
 rintro _ Hz ⟨z, q, rfl, hz⟩
 refine WS_back ?_
 refine zD hF (y_callL rf rf Tryz.call36 (fun w hw => Ct_eq (help_any b35 _ _ _ _ 4 w (hG.st w hw) dc dc (Ints.mem (rest := []) 0 rf rf dc w hw) (NewRow.ints hz rfl sbA w hw)) k_hlpv)) ?_
 refine zm (.tuple _) hF ?_
 refine zD hF (y_extract (c := .int .i64 _) rf rf) ?_
 refine zD hF (y_extract (c := .int .i64 _) rf rf) ?_
 refine zD hF (y_extract (c := .int .i64 _) rf rf) ?_
 refine za (.int .i64 _) hF ?_
 refine za (.int .i64 _) hF ?_
 refine za (.int .i64 _) hF ?_
 refine zO ?_
 refine W_sub (HSub.sub (Hn := Hm ++ (L4 ++ (L1 ++ L6))) sbA) ?_
 refine W_region_lit (fun ds => ?_)
 refine WS_newS hF rf (y_buildSliceL bs22_2_0_1 rf) (fun sz => ?_)
 refine WS_gen hF rf (y_callL rf rf Tryz.call43 (fun w hw => l8bench_any 17 [3, 5] _ _ w dc)) ?_
 rintro _ _ ⟨z, q, rfl, hz⟩
 obtain ⟨pb, pj, rfl, rfl, pl, ple⟩ := NewRow.head hz dc
 refine WS_back ?_
 refine WS_new hF rf (y_alloc Tryz.zeroValue24 rf) (fun bc => ?_)
 refine WS_store hF (us := [.slice _ _ _, .slice _ _ _, .int .i64 _]) (i := 0) rf rf Tryz.sizeOf24 rf rf rf d20 ?_
 refine zO ?_
 refine W_pull (pb, CB (iv (List.replicate [3, 5].length 0) ++ pj) 3) zu ?_
 refine W_region_lit (fun ds => ?_)
 refine zD hF (y_fieldAddr rf fa24_1) ?_
 refine zD hF (y_load1 rf Tryz.isAgg22 (Mem.own1 1 rf rf)) ?_
 refine zD hF (y_index (k := 0) rf rf r10 d10 Tryz.runUnderlying22 Tryz.sizeOf3) ?_
 refine WS_store hF (us := [.int .i64 _]) (i := 0) rf rf Tryz.sizeOf3 rf rf rf (fit_iv dc) ?_
 refine zO ?_
 rw [show splice (iv (List.replicate [3, 5].length 0) ++ pj) 0 [.int .i64 3] = iv [3, 0] ++ pj from splice_iv _ _ _ 0 dc]
 refine W_region_lit (fun ds => ?_)
 refine zD hF (y_loadN rf Tryz.isAgg24 Tryz.sizeOf24 (Mem.own (us := [.slice _ _ _, .slice _ _ _, .int .i64 _]) 1 rf rf) rf) ?_
 refine zD hF (y_buildL bd47_1 rf) ?_
 refine WS_gen hF rf (y_callL rf rf Tryz.call22 (fun w hw => cbefore_any bef0 _ _ _ _ ⟨0, 1⟩ w (hG.st w hw) dc dc (Ints.mem (rest := []) 2 rf rf dc w hw) (Ints.mem (rest := pj) 0 rf rf (by exact ple) w hw))) ?_
 rintro _ _ ⟨e0, bs, ba, bk, Hr, HX, rfl, hbf, hrow, hrd, hsh, rfl⟩
 obtain ⟨rfl, hbx⟩ := Cn.Bef.uniq hbf k_bef
 obtain ⟨y0, y1, ⟨x2, s2, ks2, i2, ki2⟩, rfl, rfl⟩ := bef_three hbx
 have hrd2 := hrd ⟨⟨18, 2, 0, 0⟩, s2, ks2, i2, ki2⟩ (by simp)
 obtain ⟨bb, rfl⟩ := NewRow.adr hrow (by simp)
 obtain ⟨bi, rfl⟩ : ∃ bi, i2 = some ⟨bi, 0, none⟩ := by
  rcases hrd2.oi with h | ⟨b, vs, h, _⟩
  ·cases (show (2 : Nat) = 0 from h)
  ·exact ⟨b, h⟩
 have hl3 : [y0, y1, (⟨⟨18, 2, 0, 0⟩, s2, ks2, some ⟨bi, 0, none⟩, ki2⟩ : Bl)].length = 3 := rfl
 have hl2 : (bef0.of (⟨⟨18, 2, 0, 0⟩, s2, ks2, some ⟨bi, 0, none⟩, ki2⟩ : Bl).x).inn.length = 2 := rfl
 refine WS_back ?_
 refine zm (.tuple _) hF ?_
 refine zD hF (y_extract (c := .slice _ _ _) rf rf) ?_
 refine zD hF (y_extract (c := .int .i64 _) rf rf) ?_
 refine za (.slice _ _ _) hF ?_
 refine za (.int .i64 _) hF ?_
 refine zO ?_
 refine W_sub (HSub.sub (Hn := Hm ++ (L4 ++ (L1 ++ (L6 ++ (HX ++ Hr))))) sbA) ?_
 refine W_region_lit (fun ds => ?_)
 refine WS_gen hF rf (y_callL rf rf Tryz.call46 (fun w hw => l8log_any w)) ?_
 rintro _ _ ⟨a1, cap1, ae1, cape1, Hp, He, rfl, hrp, hre, rfl⟩
 refine WS_back ?_
 refine WS_newS hF rf (y_buildSliceL bs22_2_0_1 rf) (fun s12 => ?_)
 refine WS_gen hF rf (y_callL rf rf Tryz.call29 (fun w hw => begin_any logL _ _ _ _ _ 2 2 [3, 5] w (hG.st w hw) dc dc (NewRow.ints hrp rfl sbA w hw) (NewRow.rws en_len hre rfl sbA w hw) (Ints.mem (rest := []) 0 rf rf dc w hw))) ?_
 rintro _ _ ⟨_, rfl, hT⟩
 rw [k_begC] at hT
 rw [k_begE]
 obtain ⟨z1, q1, z2, q2, G1, G2, rfl, g1, g2, rfl⟩ := hT
 refine WS_back ?_
 refine zm (.tuple _) hF ?_
 refine zD hF (y_extract (c := .agg _) rf rf) ?_
 refine zD hF (y_extract (c := .int .i64 _) rf rf) ?_
 refine WS_new hF rf (y_alloc Tryz.zeroValue24 rf) (fun bg => ?_)
 refine WS_store hF (us := [.slice _ _ _, .slice _ _ _, .int .i64 _]) (i := 0) rf rf Tryz.sizeOf24 rf rf rf d20 ?_
 refine za (.int .i64 _) hF ?_
 refine zO ?_
 refine W_sub (HSub.sub (Hn := (bg, _) :: (Hm ++ (L4 ++ (L1 ++ (L6 ++ (HX ++ (Hr ++ (G1 ++ G2)))))))) sbA) ?_
 refine W_draw0 hF Tryzmixed [27] dk0 (fun ds => ?_)
 refine P_new rf rf (Over_nil (y_callL rf rf Tryz.call46 (fun w hw => l8log_any w))) ?_
 refine P_det rf (Over_out rf (Over_nil (y_loadN rf Tryz.isAgg24 Tryz.sizeOf24 (Mem.own (us := [.slice _ _ _, .slice _ _ _, .int .i64 _]) 0 rf rf) rf))) ?_
 refine P_new rf rf (Over_out rf (Over_nil (y_buildSliceL bs22_4_0_1_2_3 rf))) ?_
 refine P_new rf rf (Over_in rf (Over_out rf (Over_nil (by rintro _ _ ⟨b2, rfl, rfl⟩; exact (y_callL rf rf Tryz.call44 (fun w hw => l8pours_any wp2 _ _ w dc (Ints.mem (rest := []) 0 rf rf dc w hw))))))) ?_
 refine P_new rf rf (Over_in rf (Over_out rf (Over_in rf (Over_nil (by intro vb4 l100 hb4; obtain ⟨c1, d1, c2, d2, Hp, He, rfl, hrp, hre, rfl⟩ := hb4; intro vb5 l103 hb5; obtain ⟨pa, pk, rfl, hpp⟩ := hb5; obtain ⟨HP, rfl⟩ : ∃ HP, HP = l103 := ⟨_, rfl⟩; exact (y_callL rf rf Tryz.call32 (fun w hw => written_any logL _ _ _ _ bg0 _ _ _ _ wp2 _ _ w (hG.st w hw) dc dc dc (NewRow.ints hrp rfl sbA w hw) (NewRow.rws en_len hre rfl sbA w hw) dc dc (NewRow.ints g1 rfl sbA w hw) (NewRow.ints g2 rfl sbA w hw) (NewRow.rws po_len hpp rfl sbA w hw)))))))) ?_
 refine P_ali [104] (fun e => e 104) rf rf rf (fun _ _ h => h 104 (List.mem_singleton.2 rfl)) (Over_in rf (Over_out rf (Over_out rf (Over_out rf (Over_nil (by intro vb7 l104 hb7; obtain ⟨_, rfl, hTW⟩ := hb7; rw [k_wtL] at hTW; rw [k_wtE]; obtain ⟨e1, f1, e2, f2, U1, U2, rfl, hu1, hu2, rfl⟩ := hTW; obtain ⟨bu, rfl⟩ := NewRow.adr hu2 dc; exact (YD0_of (y_move (c := .tuple _) rf)))))))) ?_
 refine P_ali [99] (fun e => tupAt (e 99) 0) rf rf rf (fun _ _ h => congrArg (tupAt · 0) (h 99 (List.mem_singleton.2 rfl))) (Over_in rf (Over_in rf (Over_out rf (Over_out rf (Over_out rf (Over_nil (by intro vb9 l104 hb9; obtain ⟨_, rfl, hTW⟩ := hb9; rw [k_wtL] at hTW; rw [k_wtE]; obtain ⟨e1, f1, e2, f2, U1, U2, rfl, hu1, hu2, rfl⟩ := hTW; obtain ⟨bu, rfl⟩ := NewRow.adr hu2 dc; rintro vb10 _ ⟨hvb10, rfl⟩; replace hvb10 : vb10 = .tuple _ := hvb10; subst hvb10; exact (YD0_of (y_extract (c := .agg _) rf rf))))))))) ?_
 refine P_ali [99] (fun e => tupAt (e 99) 1) rf rf rf (fun _ _ h => congrArg (tupAt · 1) (h 99 (List.mem_singleton.2 rfl))) (Over_out rf (Over_in rf (Over_in rf (Over_out rf (Over_out rf (Over_out rf (Over_nil (by intro vb12 l104 hb12; obtain ⟨_, rfl, hTW⟩ := hb12; rw [k_wtL] at hTW; rw [k_wtE]; obtain ⟨e1, f1, e2, f2, U1, U2, rfl, hu1, hu2, rfl⟩ := hTW; obtain ⟨bu, rfl⟩ := NewRow.adr hu2 dc; rintro vb13 _ ⟨hvb13, rfl⟩; replace hvb13 : vb13 = .tuple _ := hvb13; subst hvb13; exact (YD0_of (y_extract (c := .int .i64 _) rf rf)))))))))) ?_
 refine P_newSD 105 rf rf rf (Over_out rf (Over_out rf (Over_out rf (Over_out rf (Over_out rf (Over_out rf (Over_out rf (Over_nil (y_alloc Tryz.zeroValue62 rf))))))))) ?_
 refine P_st 27 0 rf rf rf rf rf (Over_out rf (Over_in rf (Over_in rf (Over_in rf (Over_out rf (Over_out rf (Over_out rf (Over_nil (by intro vb15 l104 hb15; obtain ⟨_, rfl, hTW⟩ := hb15; rw [k_wtL] at hTW; rw [k_wtE]; obtain ⟨e1, f1, e2, f2, U1, U2, rfl, hu1, hu2, rfl⟩ := hTW; obtain ⟨bu, rfl⟩ := NewRow.adr hu2 dc; rintro vb16 _ ⟨hvb16, rfl⟩; replace hvb16 : vb16 = .tuple _ := hvb16; subst hvb16; rintro vb17 _ ⟨hvb17, rfl⟩; replace hvb17 : vb17 = .agg _ := hvb17; subst hvb17; exact (st_newD rf rf Tryz.sizeOf62 rf rf d20)))))))))) ?_
 refine P_ali [106] (fun e => e 106) rf rf rf (fun _ _ h => h 106 (List.mem_singleton.2 rfl)) (Over_out rf (Over_in rf (Over_out rf (Over_in rf (Over_in rf (Over_out rf (Over_out rf (Over_out rf (Over_nil (by intro vb18 l104 hb18; obtain ⟨_, rfl, hTW⟩ := hb18; rw [k_wtL] at hTW; rw [k_wtE]; obtain ⟨e1, f1, e2, f2, U1, U2, rfl, hu1, hu2, rfl⟩ := hTW; obtain ⟨bu, rfl⟩ := NewRow.adr hu2 dc; rintro vb19 _ ⟨hvb19, rfl⟩; replace hvb19 : vb19 = .tuple _ := hvb19; subst hvb19; rintro vb20 _ ⟨hvb20, rfl⟩; replace hvb20 : vb20 = .int .i64 _ := hvb20; subst hvb20; exact (YD0_of (y_assign (c := .int .i64 _) rf)))))))))))) ?_
 refine PW_end rf ?_
 refine OverAll_cons (fun w28 l28 => ?_)
 refine OverAll_cons (fun w27 l27 => ?_)
 refine OverAll_cons (fun w106 l106 => ?_)
 refine OverAll_cons (fun w105 l105 => ?_)
 refine OverAll_cons (fun w99 l99 => ?_)
 refine OverAll_cons (fun w104 l104 => ?_)
 refine OverAll_cons (fun w103 l103 => ?_)
 refine OverAll_cons (fun w102 l102 => ?_)
 refine OverAll_cons (fun w100 l100 => ?_)
 refine OverAll_nil ?_
 rintro ⟨⟨⟨⟨⟨⟨⟨⟨⟨-, h28⟩, h27⟩, h106⟩, h105⟩, h99⟩, h104⟩, h103⟩, h102⟩, h100⟩
 obtain ⟨c1, d1, c2, d2, Hp, He, rfl, hrp, hre, rfl⟩ := h100
 obtain ⟨bw, rfl, rfl⟩ := h102
 obtain ⟨pa, pk, rfl, hpp⟩ := h103
 obtain ⟨HP, rfl⟩ : ∃ HP, HP = l103 := ⟨_, rfl⟩
 obtain ⟨_, rfl, hTW⟩ := h104
 rw [k_wtL] at hTW
 rw [k_wtE]
 obtain ⟨e1, f1, e2, f2, U1, U2, rfl, hu1, hu2, rfl⟩ := hTW
 obtain ⟨bu, rfl⟩ := NewRow.adr hu2 dc
 obtain ⟨h99, rfl⟩ := h99
 replace h99 : w99 = .tuple _ := h99
 subst h99
 obtain ⟨h105, rfl⟩ := h105
 replace h105 : w105 = .agg _ := h105
 subst h105
 obtain ⟨h106, rfl⟩ := h106
 replace h106 : w106 = .int .i64 _ := h106
 subst h106
 obtain ⟨h28, rfl⟩ := h28
 replace h28 : w28 = .int .i64 _ := h28
 subst h28
 obtain ⟨bl, rfl, rfl⟩ := h27
 refine Then_normal ?_
 refine W_seq ?_
 refine W_seq ?_
 refine W_pull (bg, CB [.slice z1 bg0.n q1, .slice z2 bg0.inn.length q2, .int .i64 10] 24) zu ?_
 refine W_pull (bl, CB [.slice e1 wrtL.tk.n f1, .int .i64 2, .int .i64 8, .int .i64 20, .int .i64 40, .slice (some ⟨bu, 0, none⟩) wrtL.es.length f2] 62) zu ?_
 refine W_sub (HSub.sub (Hn := (bl, _) :: (bg, _) :: (U2 ++ (Hm ++ (L4 ++ (L1 ++ (L6 ++ (HX ++ Hr))))))) sbA) ?_
 refine W_draw0 hF Tryzmixed [] dk0 (fun ds => ?_)
 refine P_det rf (Over_nil (y_move (c := .int .i64 _) rf)) ?_
 refine P_det rf (Over_nil (y_neqF rf rf)) ?_
 refine P_det rf (Over_nil (y_move (c := .bool _) rf)) ?_
 refine P_det rf (Over_nil (y_fieldAddr rf fa62_2)) ?_
 refine P_det rf (Over_nil (y_load1 rf Tryz.isAgg60 (Mem.own1 0 rf rf))) ?_
 refine P_det rf (Over_nil (y_len rf Tryz.runUnderlying60)) ?_
 refine P_det rf (Over_nil (y_neqF rf rf)) ?_
 refine P_det rf (Over_nil (by first | exact y_pick_t (c := .bool _) rf rf | exact y_pick_f (c := .bool _) rf rf)) ?_
 refine P_det rf (Over_nil (y_move (c := .bool _) rf)) ?_
 refine P_det rf (Over_nil (y_fieldAddr rf fa62_2)) ?_
 refine P_det rf (Over_nil (y_load1 rf Tryz.isAgg60 (Mem.own1 0 rf rf))) ?_
 refine P_det rf (Over_nil (y_index (k := 4) rf rf r10 d10 Tryz.runUnderlying60 Tryz.sizeOf90)) ?_
 refine P_det rf (Over_nil (y_loadN rf Tryz.isAgg90 Tryz.sizeOf90 (fun w hw => (show At w bu (0 + 4 * 4) [.int .i64 5, .int .i64 2, .int .i64 5, .int .i64 5] from (NewRow.rws en_len hu2 rfl sbA w hw).at (k := 4) dc)) rf)) ?_
 refine P_det rf (Over_nil (y_callL rf rf Tryz.call35 (fun w hw => l8span_any _ _ w))) ?_
 refine P_det rf (Over_nil (y_buildL bd90_0_1_2 rf)) ?_
 refine P_det rf (Over_nil (y_neqlAF rf rf neqA90 (by simp only [ieq_self, Bool.and_self, Bool.not_true]))) ?_
 refine P_det rf (Over_nil (by first | exact y_pick_t (c := .bool _) rf rf | exact y_pick_f (c := .bool _) rf rf)) ?_
 refine PW_end rf ?_
 refine OverAll_nil ?_
 rintro -
 refine Then_normal ?_
 refine W_cond rf (fun c14 => ?_) (fun c14 => ?_)
 ·cases c14
 ·
  try simp only [qz1, qz2, qz3, qz4, qz5, qz6, qz7, qz8] at c14
  refine W_skip ?_
  refine zS fun ds => ?_
  refine zm (.int .i64 _) hF ?_
  refine zD hF (y_eqlT rf rf) ?_
  refine zm (.bool _) hF ?_
  refine zm (.int .i64 _) hF ?_
  refine zD hF (y_eqlT rf rf) ?_
  refine zD hF (zpk (.bool _)) ?_
  refine zm (.bool _) hF ?_
  refine zm (.int .i64 _) hF ?_
  refine zD hF (y_eqlT rf rf) ?_
  refine zD hF (zpk (.bool _)) ?_
  refine zm (.bool _) hF ?_
  refine zm (.slice _ _ _) hF ?_
  refine WS_newS hF rf (y_buildSliceL bs22_4_0_1_2_3 rf) (fun k1 => ?_)
  refine zD hF (y_callL rf rf Tryz.call23 (fun w hw => Ct_eq (c' := .bool true) (sameInts2_any _ _ _ _ _ _ [0, 2, 4, 6] [0, 2, 4, 6] w dc (NewRow.ints hm rfl sbA w hw) (Ints.mem (rest := []) 0 rf rf dc w hw)) (by simp))) ?_
  refine zD hF (zpk (.bool _)) ?_
  refine zm (.bool _) hF ?_
  refine zm (.int .i64 _) hF ?_
  refine zD hF (y_eqlT rf rf) ?_
  refine zD hF (zpk (.bool _)) ?_
  refine zm (.bool _) hF ?_
  refine zm (.int .i64 _) hF ?_
  refine zD hF (y_eqlT rf rf) ?_
  refine zD hF (zpk (.bool _)) ?_
  refine zm (.bool _) hF ?_
  refine zm (.int .i64 _) hF ?_
  refine zD hF (y_eqlT rf rf) ?_
  refine zD hF (zpk (.bool _)) ?_
  refine zm (.bool _) hF ?_
  refine zm (.int .i64 _) hF ?_
  refine zD hF (y_eqlT rf rf) ?_
  refine zD hF (zpk (.bool _)) ?_
  refine zm (.bool _) hF ?_
  refine zm (.slice _ _ _) hF ?_
  refine WS_newS hF rf (y_buildSliceL bs22_12_0_1_2_3_4_5_6_7_8_9_10_11 rf) (fun k2 => ?_)
  refine WS_gen hF rf (y_callL rf rf Tryz.call44 (fun w hw => l8pours_any w4.l _ _ w dc (Ints.mem (rest := []) 0 rf rf dc w hw))) ?_
  rintro _ HP ⟨p9, q9, rfl, hpp⟩
  refine WS_back ?_
  refine zD hF (y_callL rf rf Tryz.call45 (fun w hw => samePo_any w4.l _ _ _ _ w dc (hP4 _ _ w sbA hw) (NewRow.rws po_len hpp rfl sbA w hw))) ?_
  refine zD hF (zpk (.bool _)) ?_
  refine zm (.bool _) hF ?_
  refine zm (.int .i64 _) hF ?_
  refine zD hF (y_eqlT rf rf) ?_
  refine zD hF (zpk (.bool _)) ?_
  refine zm (.bool _) hF ?_
  refine zm (.int .i64 _) hF ?_
  refine zD hF (y_eqlT rf rf) ?_
  refine zD hF (zpk (.bool _)) ?_
  refine zm (.bool _) hF ?_
  refine zm (.slice _ _ _) hF ?_
  refine WS_newS hF rf (y_buildSliceL bs22_8_0_1_2_3_4_5_6_7 rf) (fun k3 => ?_)
  refine WS_gen hF rf (y_callL rf rf Tryz.call44 (fun w hw => l8pours_any w1.l _ _ w dc (Ints.mem (rest := []) 0 rf rf dc w hw))) ?_
  rintro _ HP ⟨p9, q9, rfl, hpp⟩
  refine WS_back ?_
  refine zD hF (y_callL rf rf Tryz.call45 (fun w hw => samePo_any w1.l _ _ _ _ w dc (hP1 _ _ w sbA hw) (NewRow.rws po_len hpp rfl sbA w hw))) ?_
  refine zD hF (zpk (.bool _)) ?_
  refine zm (.bool _) hF ?_
  refine zm (.int .i64 _) hF ?_
  refine zD hF (y_eqlT rf rf) ?_
  refine zD hF (zpk (.bool _)) ?_
  refine zm (.bool _) hF ?_
  refine zm (.slice _ _ _) hF ?_
  refine WS_newS hF rf (y_buildSliceL bs22_6_0_1_2_3_4_5 rf) (fun k4 => ?_)
  refine WS_gen hF rf (y_callL rf rf Tryz.call44 (fun w hw => l8pours_any w6.l _ _ w dc (Ints.mem (rest := []) 0 rf rf dc w hw))) ?_
  rintro _ HP ⟨p9, q9, rfl, hpp⟩
  refine WS_back ?_
  refine zD hF (y_callL rf rf Tryz.call45 (fun w hw => samePo_any w6.l _ _ _ _ w dc (hP6 _ _ w sbA hw) (NewRow.rws po_len hpp rfl sbA w hw))) ?_
  refine zD hF (zpk (.bool _)) ?_
  refine zm (.bool _) hF ?_
  refine zm (.int .i64 _) hF ?_
  refine zD hF (y_eqlT rf rf) ?_
  refine zD hF (zpk (.bool _)) ?_
  refine zm (.bool _) hF ?_
  refine zm (.int .i64 _) hF ?_
  refine zD hF (y_eqlT rf rf) ?_
  refine zD hF (zpk (.bool _)) ?_
  refine zm (.bool _) hF ?_
  refine zm (.int .i64 _) hF ?_
  refine zD hF (y_eqlT rf rf) ?_
  refine zD hF (zpk (.bool _)) ?_
  refine zm (.bool _) hF ?_
  refine zm (.int .i64 _) hF ?_
  refine zD hF (y_eqlT rf rf) ?_
  refine zD hF (zpk (.bool _)) ?_
  refine zm (.bool _) hF ?_
  refine zm (.int .i64 _) hF ?_
  refine zD hF (y_eqlT rf rf) ?_
  refine zD hF (zpk (.bool _)) ?_
  refine zm (.bool _) hF ?_
  refine zm (.int .i64 _) hF ?_
  refine zD hF (y_eqlT rf rf) ?_
  refine zD hF (zpk (.bool _)) ?_
  refine zm (.bool _) hF ?_
  refine zm (.int .i64 _) hF ?_
  refine zD hF (y_eqlT rf rf) ?_
  refine zD hF (zpk (.bool _)) ?_
  refine zm (.bool _) hF ?_
  refine zm (.slice _ _ _) hF ?_
  refine zD hF (y_len rf Tryz.runUnderlying34) ?_
  refine zD hF (y_eqlT rf rf) ?_
  refine zD hF (zpk (.bool _)) ?_
  refine zm (.bool _) hF ?_
  refine zm (.slice _ _ _) hF ?_
  refine zD hF (y_index (k := 2) rf rf r10 d10 Tryz.runUnderlying34 Tryz.sizeOf24) ?_
  refine zD hF (y_fieldAddr rf fa24_2) ?_
  refine zD hF (y_load1 rf Tryz.isAgg3 (fun w hw => ⟨((NewRow.rws (bl_len bef0) hrow rfl sbA w hw).at (k := 2) (by simp)).2.2.1, trivial⟩)) ?_
  refine zD hF (y_eqlT rf rf) ?_
  refine zD hF (zpk (.bool _)) ?_
  refine zm (.bool _) hF ?_
  refine zm (.slice _ _ _) hF ?_
  refine zD hF (y_index (k := 2) rf rf r10 d10 Tryz.runUnderlying34 Tryz.sizeOf24) ?_
  refine zD hF (y_fieldAddr rf fa24_1) ?_
  refine zD hF (y_load1 rf Tryz.isAgg22 (fun w hw => ⟨((NewRow.rws (bl_len bef0) hrow rfl sbA w hw).at (k := 2) (by simp)).2.1, trivial⟩)) ?_
  refine zD hF (y_index (k := 0) rf rf rf (show 0 < 2 by decide) Tryz.runUnderlying22 Tryz.sizeOf3) ?_
  refine zD hF (y_load1 rf Tryz.isAgg3 (fun w hw => (hrd2.i _ _ w sbA hw).at (k := 0) om0)) ?_
  refine zD hF (y_eqlT rf rf) ?_
  refine zD hF (zpk (.bool _)) ?_
  refine zm (.bool _) hF ?_
  refine zm (.int .i64 _) hF ?_
  refine zD hF (y_eqlT rf rf) ?_
  refine zD hF (zpk (.bool _)) ?_
  refine zm (.bool _) hF ?_
  refine zD hF (y_fieldAddr rf fa24_2) ?_
  refine zD hF (y_load1 rf Tryz.isAgg3 (Mem.own1 5 rf rf)) ?_
  refine zD hF (y_eqlT rf rf) ?_
  refine zD hF (zpk (.bool _)) ?_
  refine za (.bool _) hF ?_
  refine zN ?_
  refine W_ret ?_
  refine Fin_ret [.bool _] [] Tryz.results13 ⟨by rfl, trivial⟩ HSub.nil ?_
  rfl
set_option maxHeartbeats 1000000
section
variable {c : Cn} {B0 : Bl} {ps : List Po} {bs : List Bl} {aA : Option Addr} {kA : Nat} {HA : List Blk} {aL : Option Addr} {kL : Nat} {HL HX : List Blk}
theorem WkS.get (h : WkS c B0 ps bs aA kA HA aL kL HL HX) (h0 : B0.x = c.co) {k : Nat} (hk : k ≤ bs.length) : ∃ y : Bl, y = (B0 :: bs).getD k Bl.z ∧ y.x = c.runK ps k ∧ (y = B0 ∨ y.RdH c HX) := by
 refine ⟨_, rfl, h.at h0 hk, ?_⟩
 cases k with
 | zero => exact .inl rfl
 | succ k =>
  refine .inr (h.rd _ ?_)
  show bs.getD k Bl.z ∈ _
  rw [List.getD_eq_getElem?_getD, List.getElem?_eq_getElem om0]
  exact List.getElem_mem _
theorem WkS.cell {br : Nat} (h : WkS c B0 ps bs (some ⟨br, 0, none⟩) kA HA aL kL HL HX) {k : Nat} (hk : k ≤ bs.length) {y : Bl} (hy : y = (B0 :: bs).getD k Bl.z) {C : Ctx} {H : List Blk} (hs : HA.Sublist H) (w : World) (hw : St C H w) : At w br (0 + k * 3) [.slice y.s c.n y.ks, .slice y.i (c.of y.x).inn.length y.ki, .int .i64 y.x.a] := by
 rw [hy]; exact (NewRow.rws (bl_len c) h.rowA rfl hs w hw).at (k := k) (by simp; omega)
theorem WkS.pos (h : WkS c B0 ps bs aA kA HA aL kL HL HX) {C : Ctx} {H : List Blk} (hs : HL.Sublist H) (w : World) (hw : St C H w) : Pos w aL ps.length kL ps := NewRow.rws po_len h.rowL rfl hs w hw
end
theorem NewRow.cap_le2 {T : TypeId} {sz m cap : Nat} {us : List Value} {a : Option Addr} {Hn : List Blk} (h : NewRow T sz m us (.slice a m cap) Hn) : m ≤ cap := by
 obtain ⟨a', cap', he, hle, _⟩ := h
 cases he; exact hle
theorem Cn.b0x (c : Cn) (a1 : Option Addr) (p1 : Nat) (a2 : Option Addr) (p2 : Nat) : (c.b0 a1 p1 a2 p2).x = c.co := rfl
theorem Cn.b0i {c : Cn} (hok : c.Ok) {a1 : Option Addr} {p1 : Nat} {a2 : Option Addr} {p2 : Nat} {w : World} (h2 : Ints w a2 c.inn.length p2 c.inn) : Ints w (c.b0 a1 p1 a2 p2).i (c.of (c.b0 a1 p1 a2 p2).x).inn.length (c.b0 a1 p1 a2 p2).ki (c.of (c.b0 a1 p1 a2 p2).x).inn := by
 rw [show (c.of (c.b0 a1 p1 a2 p2).x).inn = c.inn by show (c.of c.co).inn = _; rw [hok.co_of]]; exact h2
theorem Cn.RunOk.sm {c : Cn} (hok : c.Ok) {l : List Po} {k : Nat} (h : c.RunOk l l.length) (hk : k ≤ l.length) : (c.runK l k).sm = c.co.sm := by
 have hw : c.Way ⟨l.take k, c.backK l k⟩ (c.runK l k) := Cn.RunOk.way (fun j hj => h j om0) hk
 exact (hw.in hok).2
theorem Cn.runK_take (c : Cn) (l : List Po) {k : Nat} (hk : k ≤ l.length) : ∀ j, j ≤ k → c.runK (l.take k) j = c.runK l j ∧ c.backK (l.take k) j = c.backK l j
 | 0, _ => ⟨rfl, rfl⟩
 | j + 1, h => by
  have ih := Cn.runK_take c l hk j om0
  have e : c.runK (l.take k) (j + 1) = c.runK l (j + 1) := by
   unfold Cn.runK
   rw [ih.1]
   congr 1
   simp [List.getD_eq_getElem?_getD, show j < k by omega]
  refine ⟨e, ?_⟩
  unfold Cn.backK
  rw [e, ih.1, ih.2]
theorem Cn.RunOk.take {c : Cn} {l : List Po} {k : Nat} (h : c.RunOk l l.length) (hk : k ≤ l.length) : c.RunOk (l.take k) (l.take k).length := fun j hj => by
 rw [List.length_take] at hj
 rw [(Cn.runK_take c l hk j om0).1, show (l.take k).getD j Po.z = l.getD j Po.z by simp [List.getD_eq_getElem?_getD, show j < k by omega]]
 exact h j om0
theorem Cn.runK_drop {c : Cn} (hok : c.Ok) {l : List Po} (h : c.RunOk l l.length) {k : Nat} (hk : k ≤ l.length) : ∀ j, k + j ≤ l.length → (c.of (c.runK l k)).runK (l.drop k) j = c.runK l (k + j) ∧ (c.of (c.runK l k)).backK (l.drop k) j + c.backK l k = c.backK l (k + j)
 | 0, _ => by
  have hin : c.In (c.runK l k) := hok.run_in fun j hj => h j om0
  refine ⟨hok.of_co hin, ?_⟩
  show (0 : Int) + _ = _
  rw [Int.zero_add]; rfl
 | j + 1, hj => by
  have ih := Cn.runK_drop hok h hk j om0
  have e : (c.of (c.runK l k)).runK (l.drop k) (j + 1) = c.runK l (k + (j + 1)) := by
   show (c.of (c.runK l k)).stp ((c.of (c.runK l k)).runK (l.drop k) j) ((l.drop k).getD j Po.z) = c.stp (c.runK l (k + j)) (l.getD (k + j) Po.z)
   rw [ih.1, show (l.drop k).getD j Po.z = l.getD (k + j) Po.z by simp [List.getD_eq_getElem?_getD]]
   rfl
  refine ⟨e, ?_⟩
  show (c.of (c.runK l k)).backK (l.drop k) j + bk ((c.of (c.runK l k)).runK (l.drop k) j) ((c.of (c.runK l k)).runK (l.drop k) (j + 1)) + c.backK l k = c.backK l (k + j) + bk (c.runK l (k + j)) (c.runK l (k + j + 1))
  rw [e, ih.1, ← ih.2, show k + (j + 1) = k + j + 1 from rfl]
  omega
theorem Cn.RunOk.drop {c : Cn} (hok : c.Ok) {l : List Po} {k : Nat} (h : c.RunOk l l.length) (hk : k ≤ l.length) : (c.of (c.runK l k)).RunOk (l.drop k) (l.drop k).length := fun j hj => by
 rw [List.length_drop] at hj
 rw [(Cn.runK_drop hok h hk j om0).1, show (l.drop k).getD j Po.z = l.getD (k + j) Po.z by simp [List.getD_eq_getElem?_getD]]
 exact h (k + j) om0
theorem PlayV.run {c : Cn} (hok : c.Ok) {l : List Po} (h : c.RunOk l l.length) {v : Value} {Hn : List Blk} (hv : PlayV c l v Hn) : ∃ v0, v = .tuple #[v0, .int .i64 (c.backK l l.length), .int .i64 0, .int .i64 0] ∧ TwinC (c.of (c.runK l l.length)) v0 Hn := by
 have hb : c.bad l = none := Cn.badK_none fun j _ hj => h j om0
 have hB := Cn.ok_iff.2 hok
 obtain ⟨v0, rfl, hT⟩ := hv
 unfold Cn.plC at hT
 unfold Cn.plB Cn.plA Cn.plE
 rw [if_pos hB, hb] at hT
 rw [if_pos hB, if_pos hB, if_pos hB, hb]
 exact ⟨v0, rfl, hT⟩
set_option maxRecDepth 100000
set_option maxHeartbeats 4000000
theorem AskA.un {o : Option Wy} {e : Int} {v : Value} {Hn : List Blk} (h : AskA e o v Hn) (he : e = 0) : ∃ a k, v = .tuple #[.slice a (fewL o).length k, .int .i64 (fewB o), .int .i64 (fewE o)] ∧ ∀ (C : Ctx) (H : List Blk) (u : World), Hn.Sublist H → St C H u → Pos u a (fewL o).length k (fewL o) := by
 subst he
 obtain ⟨v0, rfl, a, k, rfl, h⟩ := h
 exact ⟨a, k, rfl, h⟩
theorem Cn.lsE_in {c : Cn} (hok : c.Ok) {n : Int} (h : 0 ≤ n ∧ n ≤ 20) : c.lsE n = 0 := by
 unfold Cn.lsE
 rw [if_pos (Cn.ok_iff.2 hok), if_pos (inB1.2 h)]
end Go.Proofs.YtjekjehgmljbgaaGreatDoor.T
namespace Go.Eng
open Go.RowKit
section
variable {P : Program} {T E : TypeId}
structure Arr3 (P : Program) (T E : TypeId) : Prop where
 t : P.underlying T = some (.array 3 E)
 e : P.underlying E = some (.int .i64)
 agg : ∀ w, (isAgg E).run P w = .ok false w
 sz : ∀ w, (sizeOf E).run P w = .ok 1 w
def arr3 (a b c : Int) : Value := .agg #[.int .i64 a, .int .i64 b, .int .i64 c]
end
end Go.Eng
namespace Go.Proofs.YtjekjehgmljbgaaGreatDoor.T
open Go.RowKit Go.Proofs Go.Eng
set_option maxRecDepth 100000
set_option maxHeartbeats 4000000
theorem nodup_sub_len {α : Type} [DecidableEq α] : ∀ {l m : List α}, l.Nodup → (∀ x ∈ l, x ∈ m) → l.length ≤ m.length := by
 intro l
 induction l with
 | nil => intro m _ _; exact Nat.zero_le _
 | cons x l ih =>
  intro m hl hs
  rw [List.nodup_cons] at hl
  have hxm := hs x List.mem_cons_self
  have h := ih (m := m.erase x) hl.2 fun y hy => by
   have hne : y ≠ x := fun e => hl.1 (e ▸ hy)
   exact (List.mem_erase_of_ne hne).2 (hs y (List.mem_cons_of_mem _ hy))
  rw [List.length_erase_of_mem hxm] at h
  have := List.length_pos_of_mem hxm
  simp only [List.length_cons]
  omega
abbrev K3 := Int × Int × Int
def enc3 (k : K3) : Value := .agg #[.int .i64 k.1, .int .i64 k.2.1, .int .i64 k.2.2]
def Co.k3 (x : Co) : K3 := (x.b, x.c, x.d)
def kvL (x : Co) (j : Nat) : List Int := (List.range 3).map fun t => if t < j then x.g (t + 1) else 0
theorem Cn.In.kvL {c : Cn} {x : Co} (h : c.In x) (h3 : c.n ≤ 3) : kvL x c.n = [x.b, x.c, x.d] := by
 have key : ∀ t, t < 3 → (if t < c.n then x.g (t + 1) else 0) = x.g (t + 1) := fun t ht => by
  by_cases e : t < c.n
  ·rw [if_pos e]
  ·rw [if_neg e, h.z (t + 1) om0 om0]
 have k0 : (if 0 < c.n then x.g 1 else 0) = x.g 1 := key 0 dc
 have k1 : (if 1 < c.n then x.g 2 else 0) = x.g 2 := key 1 dc
 have k2 : (if 2 < c.n then x.g 3 else 0) = x.g 3 := key 2 dc
 show [if 0 < c.n then x.g 1 else 0, if 1 < c.n then x.g 2 else 0, if 2 < c.n then x.g 3 else 0] = _
 rw [k0, k1, k2]
 rfl
def Cn.bck (c : Cn) (k : K3) : Co := ⟨c.co.sm - k.1 - k.2.1 - k.2.2, k.1, k.2.1, k.2.2⟩
theorem Cn.bck_k3 {c : Cn} {x : Co} (h : x.sm = c.co.sm) : c.bck x.k3 = x := by
 obtain ⟨a, b, d, e⟩ := x
 have h' : a + b + d + e = c.co.sm := h
 unfold Cn.bck Co.k3
 simp only [Co.mk.injEq, and_true]
 omega
theorem Cn.bck_inj {c : Cn} {k k' : K3} (h : c.bck k = c.bck k') : k = k' := by
 obtain ⟨a, b, d⟩ := k
 obtain ⟨a', b', d'⟩ := k'
 unfold Cn.bck at h
 simp only [Co.mk.injEq] at h
 simp only [Prod.mk.injEq]
 exact h.2
def dig (n : Nat) : K3 := (((n / 441 : Nat) : Int), ((n / 21 % 21 : Nat) : Int), ((n % 21 : Nat) : Int))
open Classical in
theorem Cn.all_ex {c : Cn} (hok : c.Ok) : ∃ L, c.IsAll L := by
 refine ⟨((List.range 9261).map fun n => c.bck (dig n)).filter fun y => decide (∃ w, c.Best w y), List.nodup_iff_pairwise_ne.2 (List.Pairwise.filter _ ?_), fun y => ?_⟩
 ·rw [List.pairwise_map]
  refine List.pairwise_lt_range.imp_of_mem fun {i j} hi hj hij he => ?_
  have h := Cn.bck_inj he
  unfold dig at h
  simp only [Prod.mk.injEq] at h
  have hi := List.mem_range.1 hi
  have hj := List.mem_range.1 hj
  omega
 ·rw [List.mem_filter, decide_eq_true_eq]
  refine ⟨fun h => h.2, fun ⟨w, hw⟩ => ⟨?_, w, hw⟩⟩
  obtain ⟨hin, hsm⟩ := hw.way.in hok
  have hb : 0 ≤ y.b ∧ y.b ≤ 20 := hin.bd hok (k := 1) dc dc
  have hc : 0 ≤ y.c ∧ y.c ≤ 20 := hin.bd hok (k := 2) dc dc
  have hd : 0 ≤ y.d ∧ y.d ≤ 20 := hin.bd hok (k := 3) dc dc
  refine List.mem_map.2 ⟨(y.b.toNat * 21 + y.c.toNat) * 21 + y.d.toNat, List.mem_range.2 om0, ?_⟩
  have e : dig ((y.b.toNat * 21 + y.c.toNat) * 21 + y.d.toNat) = y.k3 := by
   unfold dig Co.k3
   simp only [Prod.mk.injEq]
   omega
  rw [e, Cn.bck_k3 hsm]
theorem Cn.many_ge {c : Cn} (hok : c.Ok) {M : List Co} (hn : M.Nodup) (h : ∀ y ∈ M, ∃ w, c.Best w y) : M.length ≤ c.many := by
 obtain ⟨L, hL⟩ := Cn.all_ex hok
 rw [hL.len]
 exact nodup_sub_len hn fun y hy => (hL.2 y).2 (h y hy)
theorem Cn.RunOk.best {c : Cn} (hok : c.Ok) {l : List Po} {k : Nat} (h : c.RunOk l l.length) (hk : k ≤ l.length) : ∃ w, c.Best w (c.runK l k) :=
 Cn.Way.best hok.n3 (Cn.RunOk.way (fun j hj => h j om0) hk)
structure SeenI (c : Cn) (ps : List Po) (l : List (EntK K3)) (cl : Nat) : Prop where
 good : GoodM l cl
 of : ∀ e ∈ l, ∃ k, k ≤ ps.length ∧ e.1 = (c.runK ps k).k3
theorem SeenI.put {c : Cn} {ps : List Po} {l : List (EntK K3)} {cl : Nat} (h : SeenI c ps l cl) {k : Nat} (hk : k ≤ ps.length) {x : Co} (hx : x = c.runK ps k) (v : Value) : SeenI c ps (putL x.k3 v l cl) (putC x.k3 l cl) :=
 ⟨h.good.put _ _, fun e he => by
  rcases mem_putL he with ⟨e1, _⟩ | ⟨h1, _⟩ | ⟨h1, _⟩
  ·exact ⟨k, hk, by rw [e1, hx]⟩
  ·exact h.of e h1
  ·exact h.of e h1⟩
theorem SeenI.len {c : Cn} (hok : c.Ok) {ps : List Po} (hr : c.RunOk ps ps.length) {l : List (EntK K3)} {cl : Nat} (h : SeenI c ps l cl) : l.length ≤ c.many := by
 have := Cn.many_ge hok (M := (l.map (·.1)).map c.bck) (by
  rw [List.nodup_iff_pairwise_ne, List.pairwise_map]
  have := List.nodup_iff_pairwise_ne.1 h.good.keys
  exact this.imp fun hne he => hne (Cn.bck_inj he)) fun y hy => by
  obtain ⟨k3, hk3, rfl⟩ := List.mem_map.1 hy
  obtain ⟨e, he, rfl⟩ := List.mem_map.1 hk3
  obtain ⟨k, hk, hek⟩ := h.of e he
  rw [hek, Cn.bck_k3 (hr.sm hok hk)]
  exact hr.best hok hk
 simpa using this
theorem Bl.adr {c : Cn} {b B0 : Bl} {HX : List Blk} {w : World} (h : b = B0 ∨ b.RdH c HX) (h2 : Ints w B0.i (c.of B0.x).inn.length B0.ki (c.of B0.x).inn) (h0 : 0 < (c.of b.x).inn.length) : ∃ bb o, b.i = some ⟨bb, o, none⟩ := by
 rcases h with rfl | h
 ·obtain ⟨bb, o, e, _⟩ := h2.cell 0 h0
  exact ⟨bb, o, e⟩
 ·rcases h.oi with h | ⟨bb, vs, e, _⟩
  ·omega
  ·exact ⟨bb, 0, e⟩
theorem cboth_n (c : Cn) (a1 : Option Addr) (p1 : Nat) (a2 : Option Addr) (p2 : Nat) (wa : Option Addr) (wcap m : Nat) (want : List Int) (w : World) (hG : Gv w) (hn : c.n ≤ 1000000) (hm : c.inn.length ≤ 1000000) (h1 : Ints w a1 c.n p1 c.sz) (h2 : Ints w a2 c.inn.length p2 c.inn) (hwm : want.length = m) (hwn : m ≤ 1000000) (hwa : Ints w wa m wcap want) : Ct Tryz.prog 41 #[.agg #[.slice a1 c.n p1, .slice a2 c.inn.length p2, .int .i64 c.st], .slice wa m wcap] w (AskA (c.boE want) (c.few (c.bothP want))) := by
 subst hwm
 exact cboth_any c a1 p1 a2 p2 wa wcap want w hG hn hm h1 h2 hwn hwa
set_option maxHeartbeats 8000000
theorem bd81_0_1 {x0a : Option Addr} {x0l x0c : Nat} {x1 : Int} : ∀ w, (Instr.build 81 #[(0, .slice x0a x0l x0c), (1, .int .i64 x1)]).run Tryz.prog w = .ok (.agg #[.slice x0a x0l x0c, .int .i64 x1]) w := fun w => by kernel_rfl
theorem bs82_3_0_1_2 {x0_0a : Option Addr} {x0_0l x0_0c : Nat} {x0_1 : Int} {x1_0a : Option Addr} {x1_0l x1_0c : Nat} {x1_1 : Int} {x2_0a : Option Addr} {x2_0l x2_0c : Nat} {x2_1 : Int} : ∀ w, (Instr.buildSlice 82 3 #[(0, .agg #[.slice x0_0a x0_0l x0_0c, .int .i64 x0_1]), (1, .agg #[.slice x1_0a x1_0l x1_0c, .int .i64 x1_1]), (2, .agg #[.slice x2_0a x2_0l x2_0c, .int .i64 x2_1])]).run Tryz.prog w = .ok (.slice (some ⟨w.heap.size, 0, none⟩) 3 3) (w.alloc (CB [.slice x0_0a x0_0l x0_0c, .int .i64 x0_1, .slice x1_0a x1_0l x1_0c, .int .i64 x1_1, .slice x2_0a x2_0l x2_0c, .int .i64 x2_1] 81)) := fun w => by kernel_rfl
theorem fa81_0 : ∀ b o w, (Instr.fieldAt 81 (.pointer (some ⟨b, o, none⟩)) 0).run Tryz.prog w = .ok (.pointer (some ⟨b, o + 0, none⟩)) w := fun b o w => by kernel_rfl
theorem fa81_1 : ∀ b o w, (Instr.fieldAt 81 (.pointer (some ⟨b, o, none⟩)) 1).run Tryz.prog w = .ok (.pointer (some ⟨b, o + 1, none⟩)) w := fun b o w => by kernel_rfl
structure Cn.FwR (c : Cn) (p : Co → Bool) (own : List Po) (bk : Int) (w : Wy) : Prop where
 few : c.few p = some w
 le : w.l.length ≤ own.length
 bk : w.l.length = own.length → w.back ≤ bk ∧ (w.back = bk → plt own w.l = false)
 run : c.RunOk w.l w.l.length
 px : p (c.runK w.l w.l.length) = true
 back : c.backK w.l w.l.length = w.back
 len : w.l.length ≤ 9260
theorem Cn.fwR {c : Cn} (hok : c.Ok) {ps : List Po} (hr : c.RunOk ps ps.length) {k : Nat} (hk : k ≤ ps.length) {p : Co → Bool} (hp : p (c.runK ps k) = true) : ∃ w, c.FwR p (ps.take k) (c.backK ps k) w := by
 have hw : c.Way ⟨ps.take k, c.backK ps k⟩ (c.runK ps k) := Cn.RunOk.way (fun j hj => hr j om0) hk
 obtain ⟨w, h1, h2⟩ := Cn.few_ex hok.n3 hp hw
 obtain ⟨y, h3, h4⟩ := Cn.few_way h1
 obtain ⟨h5, h6, h7⟩ := h4.way.ok
 have hn : ¬ Wy.lt ⟨ps.take k, c.backK ps k⟩ w = true := by rw [h2]; simp
 rw [Wy.lt_iff] at hn
 simp only at hn
 refine ⟨w, h1, by omega, fun e => ⟨by omega, fun e2 => ?_⟩, h5, by rw [h6]; exact h3, h7, h4.len hok⟩
 cases hpl : plt (ps.take k) w.l with
 | false => rfl
 | true => exact absurd (.inr ⟨e.symm, .inr ⟨e2.symm, hpl⟩⟩) hn
theorem Cn.tot_of {c : Cn} (hok : c.Ok) {x : Co} (hx : c.In x) {s : Int} : totP s x = true ↔ sumL (c.of x).inn = s := by
 unfold totP
 rw [decide_eq_true_eq, Cn.sum_of hok hx]
theorem Cn.wantB_of {c : Cn} (hok : c.Ok) {x : Co} (hx : c.In x) : c.wantB (c.of x).inn = true := by
 have h := Cn.want_own (hok.of hx)
 exact h
theorem Cn.bothP_of {c : Cn} (hok : c.Ok) {x : Co} (hx : c.In x) : c.bothP (c.of x).inn x = true := by
 unfold Cn.bothP
 rw [List.all_eq_true]
 intro k hk
 exact decide_eq_true (.inr rfl)
theorem Cn.both_eq {c : Cn} (hok : c.Ok) {x z : Co} (hx : c.In x) (h : c.bothP (c.of x).inn z = true) : (c.of z).inn = (c.of x).inn := by
 have h3 := hok.n3
 have l1 := c.of_len x h3
 have l2 := c.of_len z h3
 unfold Cn.bothP at h
 rw [List.all_eq_true] at h
 apply List.ext_getElem
 ·omega
 ·intro k hk1 hk2
  have hh := of_decide_eq_true (h k (List.mem_range.2 hk2))
  have e1 : (c.of x).inn.getD k 0 = (c.of x).inn[k] := by rw [List.getD_eq_getElem?_getD, List.getElem?_eq_getElem hk2]; rfl
  have e2 : (c.of z).inn.getD k 0 = (c.of z).inn[k] := by rw [List.getD_eq_getElem?_getD, List.getElem?_eq_getElem hk1]; rfl
  have h0 := (hok.of hx).i k (by show k < c.n; omega)
  change 0 ≤ (c.of x).inn.getD k 0 ∧ _ at h0
  change _ ∨ (c.of z).inn.getD k 0 = _ at hh
  rw [← e1, ← e2]
  rcases hh with hh | hh
  ·omega
  ·exact hh
theorem Cn.ttE_of {c : Cn} (hok : c.Ok) {x : Co} (hx : c.In x) : c.ttE (sumL (c.of x).inn) = 0 := by
 unfold Cn.ttE
 rw [if_pos (Cn.ok_iff.2 hok), if_pos]
 rw [inB1]
 exact sumL_mono (b := c.sz) (hok.of hx).len fun k hk => (hok.of hx).i k (by rw [← (hok.of hx).len]; exact hk)
theorem lsooner_n (a b : List Po) (la : Option Addr) (m lcap : Nat) (lb : Option Addr) (lbcap : Nat) (w : World) (hm : a.length = m) (hl : m ≤ 1000000) (he : b.length = m) (ha : Pos w la m lcap a) (hb : Pos w lb b.length lbcap b) : Ct Tryz.prog 42 #[.slice la m lcap, .slice lb b.length lbcap] w fun v _ => v = .bool (plt a b) := by
 subst hm
 exact lsooner_any a b la lcap lb lbcap w hl he ha hb
theorem Src_ints {C : Ctx} {H : List Blk} {b o n cap : Nat} {xs : List Int} (h : ∀ w, St C H w → Ints w (some ⟨b, o, none⟩) n cap xs) : Go.Eng.Src C H (some ⟨b, o, none⟩) n (iv xs) :=
 .inr ⟨b, o, rfl, fun w hw => (h w hw).row⟩
def bkP (c : Cn) (ps : List Po) (i : Nat) : Int := c.backK ps (i - 1)
theorem canFewest_any (c : Cn) (a1 : Option Addr) (p1 : Nat) (a2 : Option Addr) (p2 : Nat) (ba : Option Addr) (bn bcap : Nat) (by_ : List Int) (w : World) (hG : Gv w) (h1 : Ints w a1 c.n p1 c.sz) (h2 : Ints w a2 c.inn.length p2 c.inn) (hby : U4s w ba bn bcap by_) : Ct Tryz.prog 10 #[.agg #[.slice a1 c.n p1, .slice a2 c.inn.length p2, .int .i64 c.st], .slice ba bn bcap] w fun v _ => v = .bool true := by
 have hF := wide_wide
 refine Ct_start (args := [_, _]) Tryz.func10 rf Tryz.ntmps10 rf ?_
 refine zR fun ds => ?_
 refine WS_new hF rf (y_box rf) (fun b1 => ?_)
 refine za (.bool _) hF ?_
 refine zP fun ds => ?_
 refine zD hF (y_callL rf rf Tryz.call13 (fun w hw => calive_any w (hG.st w hw))) ?_
 refine za (.bool _) hF ?_
 refine zO ?_
 refine zR fun ds => ?_
 refine zD hF (y_loadN rf Tryz.isAgg24 Tryz.sizeOf24 (Mem.own (us := [.slice _ _ _, .slice _ _ _, .int .i64 _]) 0 rf rf) rf) ?_
 refine zD hF (y_callL rf rf Tryz.call14 (fun w hw => lrdy_any c a1 p1 a2 p2 w (h1.st w hw) (h2.st w hw))) ?_
 refine zD hF (y_not rf) ?_
 refine zm (.bool _) hF ?_
 refine WS_split 37 rf (fun g2_3 => ?_) (fun g2_3 => ?_)
 ·
  try simp only [qz1, qz2, qz3, qz4, qz5, qz6, qz7, qz8] at g2_3
  refine zno hF ?_
  refine zno hF ?_
  refine zD hF (zpk (.bool _)) ?_
  refine zN ?_
  refine W_cond rf (fun c2 => ?_) (fun c2 => ?_)
  ·
   try simp only [qz1, qz2, qz3, qz4, qz5, qz6, qz7, qz8] at c2
   refine zR fun ds => ?_
   refine zm (.bool _) hF ?_
   refine za (.bool _) hF ?_
   refine zN ?_
   refine W_ret ?_
   refine Then_ret ?_
   refine Fin_ret [.bool _] [] Tryz.results10 ⟨by rfl, trivial⟩ HSub.nil ?_
   rfl
  ·cases c2
 ·
  try simp only [qz1, qz2, qz3, qz4, qz5, qz6, qz7, qz8] at g2_3
  have hokB : c.okB = true := by simpa using g2_3
  have hok := Cn.ok_iff.1 hokB
  have hn1 := hok.n1
  have hn3 := hok.n3
  have hlen := hok.len
  have hn : c.n ≤ 1000000 := by omega
  have hm : c.inn.length ≤ 1000000 := by omega
  have hB2 := Cn.b0i hok (a1 := a1) (p1 := p1) h2
  refine zm (.bool _) hF ?_
  refine zD hF (y_not rf) ?_
  refine zD hF (zpk (.bool _)) ?_
  refine zN ?_
  refine W_cond rf (fun c2 => ?_) (fun c2 => ?_)
  ·cases c2
  ·
   try simp only [qz1, qz2, qz3, qz4, qz5, qz6, qz7, qz8] at c2
   refine W_skip ?_
   refine zS fun ds => ?_
   refine zD hF (y_loadN rf Tryz.isAgg24 Tryz.sizeOf24 (Mem.own (us := [.slice _ _ _, .slice _ _ _, .int .i64 _]) 0 rf rf) rf) ?_
   refine zm (.slice _ _ _) hF ?_
   refine WS_gen hF rf (y_callL rf rf Tryz.call17 (fun w hw => lwalk_any c a1 p1 a2 p2 ba bn bcap by_ 12 w hok hn hm (h1.st w hw) (h2.st w hw) om0 (hby.st w hw))) ?_
   rintro _ _ ⟨ps, bs, aA, kA, HA, aL, kL, HL, HX, rfl, hpl, hS, rfl⟩
   obtain ⟨br, rfl⟩ := NewRow.adr hS.rowA (by simp)
   have hBl := hS.len
   have hcl : (c.b0 a1 p1 a2 p2 :: bs).length = bs.length + 1 := rfl
   have hkl := NewRow.cap_le2 hS.rowL
   refine WS_back ?_
   refine zm (.tuple _) hF ?_
   refine zD hF (y_extract (c := .slice _ _ _) rf rf) ?_
   refine zD hF (y_extract (c := .slice _ _ _) rf rf) ?_
   refine za (.slice _ _ _) hF ?_
   refine za (.slice _ _ _) hF ?_
   refine zP fun ds => ?_
   refine za (.int .i64 _) hF ?_
   refine zO ?_
   refine zR fun ds => ?_
   refine zm (.slice _ _ _) hF ?_
   refine zD hF (y_len rf Tryz.runUnderlying34) ?_
   refine zm (.int .i64 _) hF ?_
   refine zN ?_
   refine W_block ?_
   refine W_loop (γ := Nat) (fun i => i ≤ bs.length + 1) (fun i => [(2, .pointer (some ⟨b1, 0, none⟩)), (5, .bool true), (6, .slice (some ⟨br, 0, none⟩) (c.b0 a1 p1 a2 p2 :: bs).length kA), (7, .slice aL ps.length kL), (8, .int .i64 (bkP c ps i)), (48, .slice (some ⟨br, 0, none⟩) (c.b0 a1 p1 a2 p2 :: bs).length kA), (49, .int .i64 ((c.b0 a1 p1 a2 p2 :: bs).length : Int)), (50, .int .i64 (i : Int))]) (fun i => (b1, CB [.slice a1 c.n p1, .slice a2 c.inn.length p2, .int .i64 c.st] 24) :: (HX ++ (HA ++ HL))) (fun i => bs.length + 1 - i) (0) (Nat.zero_le _) s10 ((by (try simp only [List.append_eq]); exact sbA)) ?_
   rintro i e hi
   refine zR fun ds => ?_
   refine zD hF (y_lss rf rf) ?_
   refine zO ?_
   refine W_cond rf (fun c7 => ?_) (fun c7 => ?_)
   ·
    try simp only [qz1, qz2, qz3, qz4, qz5, qz6, qz7, qz8] at c7
    have hil : i ≤ bs.length := by omega
    have hip : i ≤ ps.length := by omega
    obtain ⟨y, hy, hyx, hyr⟩ := hS.get (c.b0x a1 p1 a2 p2) (k := i) hil
    have hin : c.In y.x := by rw [hyx]; exact hok.run_in fun j hj => hS.run j om0
    have hoky := hok.of hin
    have hyl := c.of_len y.x hn3
    obtain ⟨bi, oi, hyi⟩ := Bl.adr hyr hB2 om0
    obtain ⟨yx, ys, yks, yi, yki⟩ := y
    change yi = _ at hyi
    subst hyi
    change yx = _ at hyx
    change c.In yx at hin
    change (c.of yx).Ok at hoky
    change (c.of yx).inn.length = c.n at hyl
    have hyp : ∀ {p : Co → Bool}, p yx = true → p (c.runK ps i) = true := fun h => by rw [← hyx]; exact h
    obtain ⟨N0, hN0⟩ : ∃ N0, N0 = (c.of yx).inn.getD 0 0 := ⟨_, rfl⟩
    have hN0m : N0 ∈ (c.of yx).inn := by
     rw [hN0, List.getD_eq_getElem?_getD, List.getElem?_eq_getElem om0]
     exact List.getElem_mem _
    have hN0b := hoky.i 0 (by show 0 < c.n; omega)
    have hN0c := hoky.s 0 (by show 0 < c.n; omega)
    change 0 ≤ (c.of yx).inn.getD 0 0 ∧ (c.of yx).inn.getD 0 0 ≤ _ at hN0b
    rw [← hN0] at hN0b
    obtain ⟨T0, hT0⟩ : ∃ T0, T0 = sumL (c.of yx).inn := ⟨_, rfl⟩
    have hsb := sum_bd3 (l := (c.of yx).inn) (m := 0) om0 hoky.inn_bd.2
    rw [← hT0] at hsb
    obtain ⟨wa, hwa⟩ := Cn.fwR hok hS.run hip (hyp (Cn.someP_iff.2 hN0m))
    obtain ⟨wb, hwb⟩ := Cn.fwR hok hS.run hip (hyp ((Cn.tot_of hok hin).2 hT0.symm))
    obtain ⟨wc, hwc⟩ := Cn.fwR hok hS.run hip (hyp (Cn.bothP_of hok hin))
    have hbk := hok.back_bd (l := ps) (k := i) fun j hj => hS.run j om0
    have hbk1 := hok.back_bd (l := ps) (k := i - 1) fun j hj => hS.run j om0
    have hya0 : 0 ≤ yx.a := hin.lo 0 dc
    have hya1 : yx.a ≤ 600 := hin.hi 0 (Nat.zero_le _)
    refine zU ?_
    refine W_seq ?_
    refine W_block ?_
    refine zR fun ds => ?_
    refine zm (.int .i64 _) hF ?_
    refine zD hF (y_index (k := i) rf rf r10 d10 Tryz.runUnderlying34 Tryz.sizeOf24) ?_
    refine zD hF (y_loadN rf Tryz.isAgg24 Tryz.sizeOf24 (fun w hw => (show At w br (0 + i * 3) [.slice ys c.n yks, .slice (some ⟨bi, oi, none⟩) (c.of yx).inn.length yki, .int .i64 yx.a] from hS.cell hil hy sbA w hw)) rf) ?_
    refine WS_new hF rf (y_alloc Tryz.zeroValue24 rf) (fun bx => ?_)
    refine za (.int .i64 _) hF ?_
    refine WS_store hF (us := [.slice _ _ _, .slice _ _ _, .int .i64 _]) (i := 0) rf rf Tryz.sizeOf24 rf rf rf d20 ?_
    refine zN ?_
    refine W_J1 (γ := Unit) (fun _ => True) [(2, .pointer _), (5, .bool _), (6, .slice _ _ _), (7, .slice _ _ _), (48, .slice _ _ _), (49, .int .i64 _), (50, .int .i64 _)] (fun _ => [(8, .int .i64 (c.backK ps i)), (9, .int .i64 (i : Int)), (10, .pointer (some ⟨bx, 0, none⟩))]) (fun _ => (bx, CB [.slice ys c.n yks, .slice (some ⟨bi, oi, none⟩) (c.of yx).inn.length yki, .int .i64 yx.a] 24) :: (b1, CB [.slice a1 c.n p1, .slice a2 c.inn.length p2, .int .i64 c.st] 24) :: (HX ++ (HA ++ HL))) slt ?_ ?_
    ·
     rintro _ e _
     refine zR fun ds => ?_
     refine zm (.slice _ _ _) hF ?_
     refine zm (.int .i64 _) hF ?_
     refine zD hF (y_slice_hi (h := i) rf rf r10 d10 Tryz.runUnderlying35 Tryz.sizeOf47) ?_
     refine za (.slice _ _ _) hF ?_
     refine zO ?_
     refine W_draw0 hF Tryzmixed [] dk0 (fun ds => ?_)
     refine P_det rf (Over_nil (y_loadN rf Tryz.isAgg24 Tryz.sizeOf24 (Mem.own (us := [.slice _ _ _, .slice _ _ _, .int .i64 _]) 0 rf rf) rf)) ?_
     refine P_det rf (Over_nil (y_callL rf rf Tryz.call33 (fun w hw => rcsum_any (c.of yx) ys yks _ yki w hoky.inn_bd.1 ⟨hoky.st0, hoky.st1⟩ hoky.inn_bd.2 (Bl.ints hyr h1 hB2 sbA w hw).2))) ?_
     refine P_det rf (Over_nil (y_fieldAddr rf fa24_2)) ?_
     refine P_det rf (Over_nil (y_load1 rf Tryz.isAgg3 (Mem.own1 0 rf rf))) ?_
     refine P_det rf (Over_nil (y_sub rf rf (by show I64 (yx.a + sumL (c.of yx).inn - yx.a); rw [← hT0]; unfold I64; omega))) ?_
     refine P_det rf (Over_nil (y_assign (c := .int .i64 _) rf)) ?_
     refine PW_end rf ?_
     refine OverAll_nil ?_
     rintro -
     refine Then_normal ?_
     refine W_seq ?_
     rw [show (c.of yx).st + sumL (c.of yx).inn - yx.a = T0 by rw [hT0]; show yx.a + _ - yx.a = _; omega]
     refine W_draw0 hF Tryzmixed [] dk0 (fun ds => ?_)
     refine P_det rf (Over_nil (y_loadN rf Tryz.isAgg24 Tryz.sizeOf24 (Mem.own (us := [.slice _ _ _, .slice _ _ _, .int .i64 _]) 1 rf rf) rf)) ?_
     refine P_det rf (Over_nil (y_fieldAddr rf fa24_1)) ?_
     refine P_det rf (Over_nil (y_load1 rf Tryz.isAgg22 (Mem.own1 0 rf rf))) ?_
     refine P_det rf (Over_nil (y_index (k := 0) rf rf r10 d10 Tryz.runUnderlying22 Tryz.sizeOf3)) ?_
     refine P_det rf (Over_nil (y_load1 rf Tryz.isAgg3 (fun w hw => (show At w bi (oi + 0 * 1) [.int .i64 N0] by rw [hN0]; exact (Bl.ints hyr h1 hB2 sbA w hw).2.at (k := 0) (by show 0 < (c.of yx).inn.length; omega))))) ?_
     refine P_new rf rf (Over_nil (y_callL rf rf Tryz.call19 (fun w hw => cleast_any c a1 p1 a2 p2 N0 w (hG.st w hw) hn hm (h1.st w hw) (h2.st w hw)))) ?_
     refine P_ali [83] (fun e => e 83) rf rf rf (fun _ _ h => h 83 (List.mem_singleton.2 rfl)) (Over_in rf (Over_nil (by intro vb3 l83 hb3; obtain ⟨la0, lk0, rfl, hP0⟩ := AskA.lit hb3 (Cn.lsE_in hok ⟨hN0b.1, Int.le_trans hN0b.2 hN0c.2⟩) hwa.few; obtain ⟨L0, rfl⟩ : ∃ L0, L0 = l83 := ⟨_, rfl⟩; exact (YD0_of (y_move (c := .tuple _) rf))))) ?_
     refine P_ali [77] (fun e => tupAt (e 77) 0) rf rf rf (fun _ _ h => congrArg (tupAt · 0) (h 77 (List.mem_singleton.2 rfl))) (Over_in rf (Over_in rf (Over_nil (by intro vb5 l83 hb5; obtain ⟨la0, lk0, rfl, hP0⟩ := AskA.lit hb5 (Cn.lsE_in hok ⟨hN0b.1, Int.le_trans hN0b.2 hN0c.2⟩) hwa.few; obtain ⟨L0, rfl⟩ : ∃ L0, L0 = l83 := ⟨_, rfl⟩; rintro vb6 _ ⟨hvb6, rfl⟩; replace hvb6 : vb6 = .tuple _ := hvb6; subst hvb6; exact (YD0_of (y_extract (c := .slice _ _ _) rf rf)))))) ?_
     refine P_ali [77] (fun e => tupAt (e 77) 1) rf rf rf (fun _ _ h => congrArg (tupAt · 1) (h 77 (List.mem_singleton.2 rfl))) (Over_out rf (Over_in rf (Over_in rf (Over_nil (by intro vb8 l83 hb8; obtain ⟨la0, lk0, rfl, hP0⟩ := AskA.lit hb8 (Cn.lsE_in hok ⟨hN0b.1, Int.le_trans hN0b.2 hN0c.2⟩) hwa.few; obtain ⟨L0, rfl⟩ : ∃ L0, L0 = l83 := ⟨_, rfl⟩; rintro vb9 _ ⟨hvb9, rfl⟩; replace hvb9 : vb9 = .tuple _ := hvb9; subst hvb9; exact (YD0_of (y_extract (c := .int .i64 _) rf rf))))))) ?_
     refine P_ali [77] (fun e => tupAt (e 77) 2) rf rf rf (fun _ _ h => congrArg (tupAt · 2) (h 77 (List.mem_singleton.2 rfl))) (Over_out rf (Over_out rf (Over_in rf (Over_in rf (Over_nil (by intro vb11 l83 hb11; obtain ⟨la0, lk0, rfl, hP0⟩ := AskA.lit hb11 (Cn.lsE_in hok ⟨hN0b.1, Int.le_trans hN0b.2 hN0c.2⟩) hwa.few; obtain ⟨L0, rfl⟩ : ∃ L0, L0 = l83 := ⟨_, rfl⟩; rintro vb12 _ ⟨hvb12, rfl⟩; replace hvb12 : vb12 = .tuple _ := hvb12; subst hvb12; exact (YD0_of (y_extract (c := .int .i64 _) rf rf)))))))) ?_
     refine P_ali [84] (fun e => e 84) rf rf rf (fun _ _ h => h 84 (List.mem_singleton.2 rfl)) (Over_out rf (Over_out rf (Over_in rf (Over_in rf (Over_in rf (Over_nil (by intro vb14 l83 hb14; obtain ⟨la0, lk0, rfl, hP0⟩ := AskA.lit hb14 (Cn.lsE_in hok ⟨hN0b.1, Int.le_trans hN0b.2 hN0c.2⟩) hwa.few; obtain ⟨L0, rfl⟩ : ∃ L0, L0 = l83 := ⟨_, rfl⟩; rintro vb15 _ ⟨hvb15, rfl⟩; replace hvb15 : vb15 = .tuple _ := hvb15; subst hvb15; rintro vb16 _ ⟨hvb16, rfl⟩; replace hvb16 : vb16 = .slice _ _ _ := hvb16; subst hvb16; exact (YD0_of (y_assign (c := .slice _ _ _) rf))))))))) ?_
     refine P_ali [85] (fun e => e 85) rf rf rf (fun _ _ h => h 85 (List.mem_singleton.2 rfl)) (Over_out rf (Over_out rf (Over_in rf (Over_out rf (Over_in rf (Over_in rf (Over_nil (by intro vb18 l83 hb18; obtain ⟨la0, lk0, rfl, hP0⟩ := AskA.lit hb18 (Cn.lsE_in hok ⟨hN0b.1, Int.le_trans hN0b.2 hN0c.2⟩) hwa.few; obtain ⟨L0, rfl⟩ : ∃ L0, L0 = l83 := ⟨_, rfl⟩; rintro vb19 _ ⟨hvb19, rfl⟩; replace hvb19 : vb19 = .tuple _ := hvb19; subst hvb19; rintro vb20 _ ⟨hvb20, rfl⟩; replace hvb20 : vb20 = .int .i64 _ := hvb20; subst hvb20; exact (YD0_of (y_assign (c := .int .i64 _) rf)))))))))) ?_
     refine P_ali [86] (fun e => e 86) rf rf rf (fun _ _ h => h 86 (List.mem_singleton.2 rfl)) (Over_out rf (Over_out rf (Over_in rf (Over_out rf (Over_out rf (Over_in rf (Over_in rf (Over_nil (by intro vb22 l83 hb22; obtain ⟨la0, lk0, rfl, hP0⟩ := AskA.lit hb22 (Cn.lsE_in hok ⟨hN0b.1, Int.le_trans hN0b.2 hN0c.2⟩) hwa.few; obtain ⟨L0, rfl⟩ : ∃ L0, L0 = l83 := ⟨_, rfl⟩; rintro vb23 _ ⟨hvb23, rfl⟩; replace hvb23 : vb23 = .tuple _ := hvb23; subst hvb23; rintro vb24 _ ⟨hvb24, rfl⟩; replace hvb24 : vb24 = .int .i64 _ := hvb24; subst hvb24; exact (YD0_of (y_assign (c := .int .i64 _) rf))))))))))) ?_
     refine PW_end rf ?_
     refine OverAll_cons (fun w15 l15 => ?_)
     refine OverAll_cons (fun w14 l14 => ?_)
     refine OverAll_cons (fun w13 l13 => ?_)
     refine OverAll_cons (fun w86 l86 => ?_)
     refine OverAll_cons (fun w85 l85 => ?_)
     refine OverAll_cons (fun w84 l84 => ?_)
     refine OverAll_cons (fun w77 l77 => ?_)
     refine OverAll_cons (fun w83 l83 => ?_)
     refine OverAll_nil ?_
     rintro ⟨⟨⟨⟨⟨⟨⟨⟨-, h15⟩, h14⟩, h13⟩, h86⟩, h85⟩, h84⟩, h77⟩, h83⟩
     obtain ⟨la0, lk0, rfl, hP0⟩ := AskA.lit h83 (Cn.lsE_in hok ⟨hN0b.1, Int.le_trans hN0b.2 hN0c.2⟩) hwa.few
     obtain ⟨L0, rfl⟩ : ∃ L0, L0 = l83 := ⟨_, rfl⟩
     obtain ⟨h77, rfl⟩ := h77
     replace h77 : w77 = .tuple _ := h77
     subst h77
     obtain ⟨h84, rfl⟩ := h84
     replace h84 : w84 = .slice _ _ _ := h84
     subst h84
     obtain ⟨h85, rfl⟩ := h85
     replace h85 : w85 = .int .i64 _ := h85
     subst h85
     obtain ⟨h86, rfl⟩ := h86
     replace h86 : w86 = .int .i64 _ := h86
     subst h86
     obtain ⟨h13, rfl⟩ := h13
     replace h13 : w13 = .slice _ _ _ := h13
     subst h13
     obtain ⟨h14, rfl⟩ := h14
     replace h14 : w14 = .int .i64 _ := h14
     subst h14
     obtain ⟨h15, rfl⟩ := h15
     replace h15 : w15 = .int .i64 _ := h15
     subst h15
     refine Then_normal ?_
     refine W_seq ?_
     refine W_pull (b1, CB [.slice a1 c.n p1, .slice a2 c.inn.length p2, .int .i64 c.st] 24) zu ?_
     refine W_pull (bx, CB [.slice ys c.n yks, .slice (some ⟨bi, oi, none⟩) (c.of yx).inn.length yki, .int .i64 yx.a] 24) zu ?_
     try simp only [List.append_eq]
     refine W_sub (HSub.sub (Hn := (bx, _) :: (b1, _) :: (L0 ++ (HX ++ (HA ++ HL)))) sbA) ?_
     refine W_region_lit (fun ds => ?_)
     refine zD hF (y_loadN rf Tryz.isAgg24 Tryz.sizeOf24 (Mem.own (us := [.slice _ _ _, .slice _ _ _, .int .i64 _]) 1 rf rf) rf) ?_
     refine zm (.int .i64 _) hF ?_
     refine WS_gen hF rf (y_callL rf rf Tryz.call40 (fun w hw => ctotal_any c a1 p1 a2 p2 T0 w (hG.st w hw) hn hm (h1.st w hw) (h2.st w hw))) ?_
     rintro _ L1 hA
     obtain ⟨la1, lk1, rfl, hP1⟩ := hA.lit (by rw [hT0]; exact Cn.ttE_of hok hin) hwb.few
     refine WS_back ?_
     refine zm (.tuple _) hF ?_
     refine zD hF (y_extract (c := .slice _ _ _) rf rf) ?_
     refine zD hF (y_extract (c := .int .i64 _) rf rf) ?_
     refine zD hF (y_extract (c := .int .i64 _) rf rf) ?_
     refine za (.slice _ _ _) hF ?_
     refine za (.int .i64 _) hF ?_
     refine za (.int .i64 _) hF ?_
     refine zO ?_
     refine W_draw0 hF Tryzmixed [] dk0 (fun ds => ?_)
     refine P_det rf (Over_nil (y_loadN rf Tryz.isAgg24 Tryz.sizeOf24 (Mem.own (us := [.slice _ _ _, .slice _ _ _, .int .i64 _]) 1 rf rf) rf)) ?_
     refine P_new rf rf (Over_nil (y_buildSliceL bs22_0 rf)) ?_
     refine P_det rf (Over_out rf (Over_nil (y_fieldAddr rf fa24_1))) ?_
     refine P_det rf (Over_out rf (Over_nil (y_load1 rf Tryz.isAgg22 (Mem.own1 0 rf rf)))) ?_
     refine P_new rf rf (Over_in rf (Over_nil (by rintro _ _ ⟨b27, rfl, rfl⟩; exact (fun w hw => y_append0 rf rf Tryz.underlying22 infInt rf (Src_ints (fun w hw => (show Ints w (some ⟨bi, oi, none⟩) (c.of yx).inn.length yki (c.of yx).inn from (Bl.ints hyr h1 hB2 sbA w hw).2))) (iv_len (c.of yx).inn) om0 om0 w hw)))) ?_
     refine P_new rf rf (Over_in rf (Over_out rf (Over_nil (by intro vb29 l99 hb29; obtain ⟨z1, q1, rfl, hr1⟩ := NewRow.sl hb29; exact (y_callL rf rf Tryz.call41 (fun w hw => cboth_n c a1 p1 a2 p2 z1 q1 _ (c.of yx).inn w (hG.st w hw) hn hm (h1.st w hw) (h2.st w hw) rfl om0 (NewRow.ints hr1 rfl sbA w hw))))))) ?_
     refine P_ali [100] (fun e => e 100) rf rf rf (fun _ _ h => h 100 (List.mem_singleton.2 rfl)) (Over_in rf (Over_out rf (Over_out rf (Over_nil (by intro vb31 l100 hb31; obtain ⟨la2, lk2, rfl, hP2⟩ := AskA.lit hb31 (Cn.boE_go hok (Cn.wantB_of hok hin)) hwc.few; obtain ⟨L2, rfl⟩ : ∃ L2, L2 = l100 := ⟨_, rfl⟩; exact (YD0_of (y_move (c := .tuple _) rf))))))) ?_
     refine P_ali [94] (fun e => tupAt (e 94) 0) rf rf rf (fun _ _ h => congrArg (tupAt · 0) (h 94 (List.mem_singleton.2 rfl))) (Over_in rf (Over_in rf (Over_out rf (Over_out rf (Over_nil (by intro vb33 l100 hb33; obtain ⟨la2, lk2, rfl, hP2⟩ := AskA.lit hb33 (Cn.boE_go hok (Cn.wantB_of hok hin)) hwc.few; obtain ⟨L2, rfl⟩ : ∃ L2, L2 = l100 := ⟨_, rfl⟩; rintro vb34 _ ⟨hvb34, rfl⟩; replace hvb34 : vb34 = .tuple _ := hvb34; subst hvb34; exact (YD0_of (y_extract (c := .slice _ _ _) rf rf)))))))) ?_
     refine P_ali [94] (fun e => tupAt (e 94) 1) rf rf rf (fun _ _ h => congrArg (tupAt · 1) (h 94 (List.mem_singleton.2 rfl))) (Over_out rf (Over_in rf (Over_in rf (Over_out rf (Over_out rf (Over_nil (by intro vb36 l100 hb36; obtain ⟨la2, lk2, rfl, hP2⟩ := AskA.lit hb36 (Cn.boE_go hok (Cn.wantB_of hok hin)) hwc.few; obtain ⟨L2, rfl⟩ : ∃ L2, L2 = l100 := ⟨_, rfl⟩; rintro vb37 _ ⟨hvb37, rfl⟩; replace hvb37 : vb37 = .tuple _ := hvb37; subst hvb37; exact (YD0_of (y_extract (c := .int .i64 _) rf rf))))))))) ?_
     refine P_ali [94] (fun e => tupAt (e 94) 2) rf rf rf (fun _ _ h => congrArg (tupAt · 2) (h 94 (List.mem_singleton.2 rfl))) (Over_out rf (Over_out rf (Over_in rf (Over_in rf (Over_out rf (Over_out rf (Over_nil (by intro vb39 l100 hb39; obtain ⟨la2, lk2, rfl, hP2⟩ := AskA.lit hb39 (Cn.boE_go hok (Cn.wantB_of hok hin)) hwc.few; obtain ⟨L2, rfl⟩ : ∃ L2, L2 = l100 := ⟨_, rfl⟩; rintro vb40 _ ⟨hvb40, rfl⟩; replace hvb40 : vb40 = .tuple _ := hvb40; subst hvb40; exact (YD0_of (y_extract (c := .int .i64 _) rf rf)))))))))) ?_
     refine P_ali [101] (fun e => e 101) rf rf rf (fun _ _ h => h 101 (List.mem_singleton.2 rfl)) (Over_out rf (Over_out rf (Over_in rf (Over_in rf (Over_in rf (Over_out rf (Over_out rf (Over_nil (by intro vb42 l100 hb42; obtain ⟨la2, lk2, rfl, hP2⟩ := AskA.lit hb42 (Cn.boE_go hok (Cn.wantB_of hok hin)) hwc.few; obtain ⟨L2, rfl⟩ : ∃ L2, L2 = l100 := ⟨_, rfl⟩; rintro vb43 _ ⟨hvb43, rfl⟩; replace hvb43 : vb43 = .tuple _ := hvb43; subst hvb43; rintro vb44 _ ⟨hvb44, rfl⟩; replace hvb44 : vb44 = .slice _ _ _ := hvb44; subst hvb44; exact (YD0_of (y_assign (c := .slice _ _ _) rf))))))))))) ?_
     refine P_ali [102] (fun e => e 102) rf rf rf (fun _ _ h => h 102 (List.mem_singleton.2 rfl)) (Over_out rf (Over_out rf (Over_in rf (Over_out rf (Over_in rf (Over_in rf (Over_out rf (Over_out rf (Over_nil (by intro vb46 l100 hb46; obtain ⟨la2, lk2, rfl, hP2⟩ := AskA.lit hb46 (Cn.boE_go hok (Cn.wantB_of hok hin)) hwc.few; obtain ⟨L2, rfl⟩ : ∃ L2, L2 = l100 := ⟨_, rfl⟩; rintro vb47 _ ⟨hvb47, rfl⟩; replace hvb47 : vb47 = .tuple _ := hvb47; subst hvb47; rintro vb48 _ ⟨hvb48, rfl⟩; replace hvb48 : vb48 = .int .i64 _ := hvb48; subst hvb48; exact (YD0_of (y_assign (c := .int .i64 _) rf)))))))))))) ?_
     refine P_ali [103] (fun e => e 103) rf rf rf (fun _ _ h => h 103 (List.mem_singleton.2 rfl)) (Over_out rf (Over_out rf (Over_in rf (Over_out rf (Over_out rf (Over_in rf (Over_in rf (Over_out rf (Over_out rf (Over_nil (by intro vb50 l100 hb50; obtain ⟨la2, lk2, rfl, hP2⟩ := AskA.lit hb50 (Cn.boE_go hok (Cn.wantB_of hok hin)) hwc.few; obtain ⟨L2, rfl⟩ : ∃ L2, L2 = l100 := ⟨_, rfl⟩; rintro vb51 _ ⟨hvb51, rfl⟩; replace hvb51 : vb51 = .tuple _ := hvb51; subst hvb51; rintro vb52 _ ⟨hvb52, rfl⟩; replace hvb52 : vb52 = .int .i64 _ := hvb52; subst hvb52; exact (YD0_of (y_assign (c := .int .i64 _) rf))))))))))))) ?_
     refine PW_end rf ?_
     refine OverAll_cons (fun w21 l21 => ?_)
     refine OverAll_cons (fun w20 l20 => ?_)
     refine OverAll_cons (fun w19 l19 => ?_)
     refine OverAll_cons (fun w103 l103 => ?_)
     refine OverAll_cons (fun w102 l102 => ?_)
     refine OverAll_cons (fun w101 l101 => ?_)
     refine OverAll_cons (fun w94 l94 => ?_)
     refine OverAll_cons (fun w100 l100 => ?_)
     refine OverAll_cons (fun w99 l99 => ?_)
     refine OverAll_cons (fun w96 l96 => ?_)
     refine OverAll_nil ?_
     rintro ⟨⟨⟨⟨⟨⟨⟨⟨⟨⟨-, h21⟩, h20⟩, h19⟩, h103⟩, h102⟩, h101⟩, h94⟩, h100⟩, h99⟩, h96⟩
     obtain ⟨b26, rfl, rfl⟩ := h96
     obtain ⟨z1, q1, rfl, hr1⟩ := NewRow.sl h99
     obtain ⟨la2, lk2, rfl, hP2⟩ := AskA.lit h100 (Cn.boE_go hok (Cn.wantB_of hok hin)) hwc.few
     obtain ⟨L2, rfl⟩ : ∃ L2, L2 = l100 := ⟨_, rfl⟩
     obtain ⟨h94, rfl⟩ := h94
     replace h94 : w94 = .tuple _ := h94
     subst h94
     obtain ⟨h101, rfl⟩ := h101
     replace h101 : w101 = .slice _ _ _ := h101
     subst h101
     obtain ⟨h102, rfl⟩ := h102
     replace h102 : w102 = .int .i64 _ := h102
     subst h102
     obtain ⟨h103, rfl⟩ := h103
     replace h103 : w103 = .int .i64 _ := h103
     subst h103
     obtain ⟨h19, rfl⟩ := h19
     replace h19 : w19 = .slice _ _ _ := h19
     subst h19
     obtain ⟨h20, rfl⟩ := h20
     replace h20 : w20 = .int .i64 _ := h20
     subst h20
     obtain ⟨h21, rfl⟩ := h21
     replace h21 : w21 = .int .i64 _ := h21
     subst h21
     refine Then_normal ?_
     refine W_seq ?_
     refine W_seq ?_
     refine W_pull (b1, CB [.slice a1 c.n p1, .slice a2 c.inn.length p2, .int .i64 c.st] 24) zu ?_
     refine W_pull (bx, CB [.slice ys c.n yks, .slice (some ⟨bi, oi, none⟩) (c.of yx).inn.length yki, .int .i64 yx.a] 24) zu ?_
     try simp only [List.append_eq]
     refine W_sub (HSub.sub (Hn := (bx, _) :: (b1, _) :: (L2 ++ (L0 ++ (HX ++ (HA ++ (HL ++ L1)))))) sbA) ?_
     refine W_region_lit (fun ds => ?_)
     refine zm (.int .i64 _) hF ?_
     refine zD hF (YD_no (y_neq rf rf) dect) ?_
     refine zm (.bool _) hF ?_
     refine zm (.int .i64 _) hF ?_
     refine zD hF (YD_no (y_neq rf rf) dect) ?_
     refine zD hF (zpk (.bool _)) ?_
     refine zm (.bool _) hF ?_
     refine zm (.int .i64 _) hF ?_
     refine zD hF (YD_no (y_neq rf rf) dect) ?_
     refine zD hF (zpk (.bool _)) ?_
     refine zN ?_
     refine W_cond rf (fun c16 => ?_) (fun c16 => ?_)
     ·cases c16
     ·
      try simp only [qz1, qz2, qz3, qz4, qz5, qz6, qz7, qz8] at c16
      refine zU ?_
      refine W_seq ?_
      refine W_seq ?_
      obtain ⟨W, rfl, rfl, rfl⟩ : ∃ W : Nat → Wy, wa = W 0 ∧ wb = W 1 ∧ wc = W 2 := ⟨fun k => if k = 0 then wa else if k = 1 then wb else wc, rfl, rfl, rfl⟩
      obtain ⟨LA, rfl, rfl, rfl⟩ : ∃ LA : Nat → Option Addr, la0 = LA 0 ∧ la1 = LA 1 ∧ la2 = LA 2 := ⟨fun k => if k = 0 then la0 else if k = 1 then la1 else la2, rfl, rfl, rfl⟩
      obtain ⟨LK, rfl, rfl, rfl⟩ : ∃ LK : Nat → Nat, lk0 = LK 0 ∧ lk1 = LK 1 ∧ lk2 = LK 2 := ⟨fun k => if k = 0 then lk0 else if k = 1 then lk1 else lk2, rfl, rfl, rfl⟩
      have hti : (ps.take i).length = i := by rw [List.length_take]; omega
      have hFW : ∀ k, k < 3 → (W k).l.length ≤ i ∧ ((W k).l.length = i → (W k).back ≤ c.backK ps i ∧ ((W k).back = c.backK ps i → plt (ps.take i) (W k).l = false)) := fun k hk => by
       obtain h | h | h : k = 0 ∨ k = 1 ∨ k = 2 := by omega
       ·subst h; have a := hwa.le; have b := hwa.bk; rw [hti] at a b; exact ⟨a, b⟩
       ·subst h; have a := hwb.le; have b := hwb.bk; rw [hti] at a b; exact ⟨a, b⟩
       ·subst h; have a := hwc.le; have b := hwc.bk; rw [hti] at a b; exact ⟨a, b⟩
      have hPW : ∀ k, k < 3 → ∀ (C : Ctx) (H : List Blk) (u : World), L0.Sublist H → L1.Sublist H → L2.Sublist H → St C H u → Pos u (LA k) (W k).l.length (LK k) (W k).l := fun k hk C H u s0 s1 s2 hu => by
       obtain h | h | h : k = 0 ∨ k = 1 ∨ k = 2 := by omega
       ·subst h; exact hP0 C H u s0 hu
       ·subst h; exact hP1 C H u s1 hu
       ·subst h; exact hP2 C H u s2 hu
      refine W_region_lit (fun ds => ?_)
      refine zm (.slice _ _ _) hF ?_
      refine zm (.int .i64 _) hF ?_
      refine zD hF (y_buildL bd81_0_1 rf) ?_
      refine zm (.slice _ _ _) hF ?_
      refine zm (.int .i64 _) hF ?_
      refine zD hF (y_buildL bd81_0_1 rf) ?_
      refine zm (.slice _ _ _) hF ?_
      refine zm (.int .i64 _) hF ?_
      refine zD hF (y_buildL bd81_0_1 rf) ?_
      refine WS_newS hF rf (y_buildSliceL bs82_3_0_1_2 rf) (fun b9 => ?_)
      refine zD hF (y_len rf Tryz.runUnderlying82) ?_
      refine zm (.int .i64 _) hF ?_
      refine zN ?_
      refine W_block ?_
      refine W_loop (γ := Nat) (fun k => k ≤ 3) (fun k => [(2, .pointer (some ⟨b1, 0, none⟩)), (5, .bool true), (6, .slice (some ⟨br, 0, none⟩) (c.b0 a1 p1 a2 p2 :: bs).length kA), (7, .slice aL ps.length kL), (8, .int .i64 (c.backK ps i)), (10, .pointer (some ⟨bx, 0, none⟩)), (11, .slice (shiftA aL 0 2 kL) i kL), (12, .int .i64 T0), (13, .slice (LA 0) (W 0).l.length (LK 0)), (14, .int .i64 (W 0).back), (16, .slice (LA 1) (W 1).l.length (LK 1)), (17, .int .i64 (W 1).back), (19, .slice (LA 2) (W 2).l.length (LK 2)), (20, .int .i64 (W 2).back), (48, .slice (some ⟨br, 0, none⟩) (c.b0 a1 p1 a2 p2 :: bs).length kA), (49, .int .i64 ((c.b0 a1 p1 a2 p2 :: bs).length : Int)), (50, .int .i64 (i : Int)), (123, .slice (some ⟨b9, 0, none⟩) 3 3), (124, .int .i64 3), (125, .int .i64 (k : Int))]) (fun k => (b9, CB [.slice (LA 0) (W 0).l.length (LK 0), .int .i64 (W 0).back, .slice (LA 1) (W 1).l.length (LK 1), .int .i64 (W 1).back, .slice (LA 2) (W 2).l.length (LK 2), .int .i64 (W 2).back] 81) :: (bx, CB [.slice ys c.n yks, .slice (some ⟨bi, oi, none⟩) (c.of yx).inn.length yki, .int .i64 yx.a] 24) :: (b1, CB [.slice a1 c.n p1, .slice a2 c.inn.length p2, .int .i64 c.st] 24) :: (L2 ++ (L0 ++ (HX ++ (HA ++ (HL ++ L1)))))) (fun k => 3 - k) (0) (Nat.zero_le _) s10 ((by (try simp only [List.append_eq]); exact sbA)) ?_
      rintro k e hk
      refine zR fun ds => ?_
      refine zD hF (y_lss rf rf) ?_
      refine zO ?_
      refine W_cond rf (fun c19 => ?_) (fun c19 => ?_)
      ·
       try simp only [qz1, qz2, qz3, qz4, qz5, qz6, qz7, qz8] at c19
       have hk3 : k < 3 := by omega
       have hfw := hFW k hk3
       refine zU ?_
       refine W_seq ?_
       refine W_block ?_
       refine zR fun ds => ?_
       refine zD hF (y_index (k := k) rf rf r10 d10 Tryz.runUnderlying82 Tryz.sizeOf81) ?_
       refine zD hF (y_loadN rf Tryz.isAgg81 Tryz.sizeOf81 (fun w hw => (show At w b9 (0 + k * 2) [.slice (LA k) (W k).l.length (LK k), .int .i64 (W k).back] by obtain h | h | h : k = 0 ∨ k = 1 ∨ k = 2 := om0 <;> subst h <;> exact Mem.own (us := [.slice _ _ _, .int _ _]) 0 rf rf w hw)) rf) ?_
       refine WS_new hF rf (y_alloc Tryz.zeroValue81 rf) (fun bw => ?_)
       refine WS_store hF (us := [.slice _ _ _, .int .i64 _]) (i := 0) rf rf Tryz.sizeOf81 rf rf rf d20 ?_
       refine zP fun ds => ?_
       refine zD hF (y_fieldAddr rf fa81_0) ?_
       refine zD hF (y_load1 rf Tryz.isAgg35 (Mem.own1 0 rf rf)) ?_
       refine zD hF (y_len rf Tryz.runUnderlying35) ?_
       refine zm (.slice _ _ _) hF ?_
       refine zD hF (y_len rf Tryz.runUnderlying35) ?_
       refine zD hF (YD_no (y_gtr rf rf) dect) ?_
       refine zm (.bool _) hF ?_
       refine zD hF (y_fieldAddr rf fa81_0) ?_
       refine zD hF (y_load1 rf Tryz.isAgg35 (Mem.own1 0 rf rf)) ?_
       refine zD hF (y_len rf Tryz.runUnderlying35) ?_
       refine zm (.slice _ _ _) hF ?_
       refine zD hF (y_len rf Tryz.runUnderlying35) ?_
       refine zD hF (y_eql rf rf) ?_
       refine zm (.bool _) hF ?_
       refine WS_split 142 rf (fun g21_13 => ?_) (fun g21_13 => ?_)
       ·
        try simp only [qz1, qz2, qz3, qz4, qz5, qz6, qz7, qz8] at g21_13
        have hq := hfw.2 om0
        refine zD hF (y_fieldAddr rf fa81_1) ?_
        refine zD hF (y_load1 rf Tryz.isAgg3 (Mem.own1 0 rf rf)) ?_
        refine zm (.int .i64 _) hF ?_
        refine zD hF (YD_no (y_gtr rf rf) dect) ?_
        refine zm (.bool _) hF ?_
        refine zD hF (y_fieldAddr rf fa81_1) ?_
        refine zD hF (y_load1 rf Tryz.isAgg3 (Mem.own1 0 rf rf)) ?_
        refine zm (.int .i64 _) hF ?_
        refine zD hF (y_eql rf rf) ?_
        refine zm (.bool _) hF ?_
        refine WS_split 152 rf (fun g21_23 => ?_) (fun g21_23 => ?_)
        ·
         try simp only [qz1, qz2, qz3, qz4, qz5, qz6, qz7, qz8] at g21_23
         have hq2 := hq.2 g21_23
         refine zm (.slice _ _ _) hF ?_
         refine zD hF (y_fieldAddr rf fa81_0) ?_
         refine zD hF (y_load1 rf Tryz.isAgg35 (Mem.own1 0 rf rf)) ?_
         refine zD hF (y_callL rf rf Tryz.call42 (fun w hw => Ct_eq (lsooner_n (ps.take i) (W k).l _ i kL _ _ w hti om0 om0 (Rws.pre (hS.pos sbA w hw) hip) (hPW k hk3 _ _ w sbA sbA sbA hw)) (show Value.bool (plt (ps.take i) (W k).l) = .bool false by rw [hq2]))) ?_
         refine zD hF (zpk (.bool _)) ?_
         refine zD hF (zpk (.bool _)) ?_
         refine zD hF (zpk (.bool _)) ?_
         refine zD hF (zpk (.bool _)) ?_
         refine zN ?_
         refine W_cond rf (fun c21 => ?_) (fun c21 => ?_)
         ·cases c21
         ·
          try simp only [qz1, qz2, qz3, qz4, qz5, qz6, qz7, qz8] at c21
          refine W_skip ?_
          refine InB_normal ?_
          refine zT fun ds => ?_
          refine zD hF (y_add rf rf ui) ?_
          refine zm (.int .i64 _) hF ?_
          refine WS_nil ?_
          exact Loop_next (k + 1) om0 s10 sbA om0
        ·
         try simp only [qz1, qz2, qz3, qz4, qz5, qz6, qz7, qz8] at g21_23
         refine zno hF ?_
         refine zno hF ?_
         refine zno hF ?_
         refine zno hF ?_
         refine zD hF (zpk (.bool _)) ?_
         refine zD hF (zpk (.bool _)) ?_
         refine zD hF (zpk (.bool _)) ?_
         refine zD hF (zpk (.bool _)) ?_
         refine zN ?_
         refine W_cond rf (fun c21 => ?_) (fun c21 => ?_)
         ·cases c21
         ·
          try simp only [qz1, qz2, qz3, qz4, qz5, qz6, qz7, qz8] at c21
          refine W_skip ?_
          refine InB_normal ?_
          refine zT fun ds => ?_
          refine zD hF (y_add rf rf ui) ?_
          refine zm (.int .i64 _) hF ?_
          refine WS_nil ?_
          exact Loop_next (k + 1) om0 s10 sbA om0
       ·
        try simp only [qz1, qz2, qz3, qz4, qz5, qz6, qz7, qz8] at g21_13
        refine zno hF ?_
        refine zno hF ?_
        refine zno hF ?_
        refine zno hF ?_
        refine zno hF ?_
        refine zno hF ?_
        refine zno hF ?_
        refine zno hF ?_
        refine zno hF ?_
        refine zno hF ?_
        refine zno hF ?_
        refine zno hF ?_
        refine zno hF ?_
        refine zno hF ?_
        refine zno hF ?_
        refine zno hF ?_
        refine zD hF (zpk (.bool _)) ?_
        refine zD hF (zpk (.bool _)) ?_
        refine zN ?_
        refine W_cond rf (fun c21 => ?_) (fun c21 => ?_)
        ·cases c21
        ·
         try simp only [qz1, qz2, qz3, qz4, qz5, qz6, qz7, qz8] at c21
         refine W_skip ?_
         refine InB_normal ?_
         refine zT fun ds => ?_
         refine zD hF (y_add rf rf ui) ?_
         refine zm (.int .i64 _) hF ?_
         refine WS_nil ?_
         exact Loop_next (k + 1) om0 s10 sbA om0
      ·
       try simp only [qz1, qz2, qz3, qz4, qz5, qz6, qz7, qz8] at c19
       refine W_exit ?_
       refine Then_exit ?_
       refine Loop_exit ?_
       refine InB_same ?_
       refine Then_normal ?_
       refine W_seq ?_
       have hx0 := hwa.px
       have hx1 := hwb.px
       have hx2 := hwc.px
       have hb0 := hwa.back
       have hb1 := hwb.back
       have hb2 := hwc.back
       have hi1 : c.In (c.runK (W 1).l (W 1).l.length) := hok.run_in fun j hj => hwb.run j hj
       refine W_region_lit (fun ds => ?_)
       refine zD hF (y_loadN rf Tryz.isAgg24 Tryz.sizeOf24 (Mem.own (us := [.slice _ _ _, .slice _ _ _, .int .i64 _]) 2 rf rf) rf) ?_
       refine zm (.slice _ _ _) hF ?_
       refine WS_gen hF rf (y_callL rf rf Tryz.call20 (fun w hw => lleads_any c a1 p1 a2 p2 (W 0).l (LA 0) (LK 0) w hok hn hm (h1.st w hw) (h2.st w hw) (by have := hwa.len; omega) hwa.run (hPW 0 dc _ _ w sbA sbA sbA hw))) ?_
       rintro _ D0 ⟨u0, rfl, hux0, hur0⟩
       refine WS_back ?_
       try simp only [List.append_eq]
       refine zm (.tuple _) hF ?_
       refine zD hF (y_extract (c := .agg _) rf rf) ?_
       refine zD hF (y_extract (c := .int .i64 _) rf rf) ?_
       refine zD hF (y_extract (c := .bool _) rf rf) ?_
       refine WS_new hF rf (y_alloc Tryz.zeroValue24 rf) (fun d0 => ?_)
       refine WS_store hF (us := [.slice _ _ _, .slice _ _ _, .int .i64 _]) (i := 0) rf rf Tryz.sizeOf24 rf rf rf d20 ?_
       refine za (.int .i64 _) hF ?_
       refine za (.bool _) hF ?_
       refine zP fun ds => ?_
       refine zD hF (y_loadN rf Tryz.isAgg24 Tryz.sizeOf24 (Mem.own (us := [.slice _ _ _, .slice _ _ _, .int .i64 _]) 3 rf rf) rf) ?_
       refine zm (.slice _ _ _) hF ?_
       refine WS_gen hF rf (y_callL rf rf Tryz.call20 (fun w hw => lleads_any c a1 p1 a2 p2 (W 1).l (LA 1) (LK 1) w hok hn hm (h1.st w hw) (h2.st w hw) (by have := hwb.len; omega) hwb.run (hPW 1 dc _ _ w sbA sbA sbA hw))) ?_
       rintro _ D1 ⟨u1, rfl, hux1, hur1⟩
       refine WS_back ?_
       try simp only [List.append_eq]
       refine zm (.tuple _) hF ?_
       refine zD hF (y_extract (c := .agg _) rf rf) ?_
       refine zD hF (y_extract (c := .int .i64 _) rf rf) ?_
       refine zD hF (y_extract (c := .bool _) rf rf) ?_
       refine WS_new hF rf (y_alloc Tryz.zeroValue24 rf) (fun d1 => ?_)
       refine WS_store hF (us := [.slice _ _ _, .slice _ _ _, .int .i64 _]) (i := 0) rf rf Tryz.sizeOf24 rf rf rf d20 ?_
       refine za (.int .i64 _) hF ?_
       refine za (.bool _) hF ?_
       refine zP fun ds => ?_
       refine zD hF (y_loadN rf Tryz.isAgg24 Tryz.sizeOf24 (Mem.own (us := [.slice _ _ _, .slice _ _ _, .int .i64 _]) 4 rf rf) rf) ?_
       refine zm (.slice _ _ _) hF ?_
       refine WS_gen hF rf (y_callL rf rf Tryz.call20 (fun w hw => lleads_any c a1 p1 a2 p2 (W 2).l (LA 2) (LK 2) w hok hn hm (h1.st w hw) (h2.st w hw) (by have := hwc.len; omega) hwc.run (hPW 2 dc _ _ w sbA sbA sbA hw))) ?_
       rintro _ D2 ⟨u2, rfl, hux2, hur2⟩
       refine WS_back ?_
       try simp only [List.append_eq]
       refine zm (.tuple _) hF ?_
       refine zD hF (y_extract (c := .agg _) rf rf) ?_
       refine zD hF (y_extract (c := .int .i64 _) rf rf) ?_
       refine zD hF (y_extract (c := .bool _) rf rf) ?_
       refine WS_new hF rf (y_alloc Tryz.zeroValue24 rf) (fun d2 => ?_)
       refine WS_store hF (us := [.slice _ _ _, .slice _ _ _, .int .i64 _]) (i := 0) rf rf Tryz.sizeOf24 rf rf rf d20 ?_
       refine za (.int .i64 _) hF ?_
       refine za (.bool _) hF ?_
       refine zO ?_
       try simp only [List.append_eq]
       rw [← hux0] at hx0
       rw [← hux1] at hx1 hi1
       rw [← hux2] at hx2
       have ho1 := hok.of hi1
       have hl0 := c.of_len u0.x hn3
       have hl1 := c.of_len u1.x hn3
       have hl2 := c.of_len u2.x hn3
       have hm0 : N0 ∈ (c.of u0.x).inn := Cn.someP_iff.1 hx0
       have hm1 : sumL (c.of u1.x).inn = T0 := (Cn.tot_of hok hi1).1 hx1
       have hm2 : (c.of u2.x).inn = (c.of yx).inn := Cn.both_eq hok hin hx2
       have hua0 : 0 ≤ u1.x.a := hi1.lo 0 dc
       have hua1 : u1.x.a ≤ 600 := hi1.hi 0 (Nat.zero_le _)
       have hsu : (c.of u1.x).st = u1.x.a := rfl
       refine W_draw0 hF Tryzmixed [] dk0 (fun ds => ?_)
       refine P_det rf (Over_nil (y_move (c := .bool _) rf)) ?_
       refine P_det rf (Over_nil (y_not rf)) ?_
       refine P_det rf (Over_nil (y_move (c := .bool _) rf)) ?_
       refine P_det rf (Over_nil (y_move (c := .int .i64 _) rf)) ?_
       refine P_det rf (Over_nil (y_move (c := .int .i64 _) rf)) ?_
       refine P_det rf (Over_nil (YD_no (y_neq rf rf) dect)) ?_
       refine P_det rf (Over_nil (by first | exact y_pick_t (c := .bool _) rf rf | exact y_pick_f (c := .bool _) rf rf)) ?_
       refine P_det rf (Over_nil (y_move (c := .bool _) rf)) ?_
       refine P_det rf (Over_nil (y_fieldAddr rf fa24_1)) ?_
       refine P_det rf (Over_nil (y_load1 rf Tryz.isAgg22 (Mem.own1 2 rf rf))) ?_
       refine P_det rf (Over_nil (y_fieldAddr rf fa24_1)) ?_
       refine P_det rf (Over_nil (y_load1 rf Tryz.isAgg22 (Mem.own1 4 rf rf))) ?_
       refine P_det rf (Over_nil (y_index (k := 0) rf rf r10 d10 Tryz.runUnderlying22 Tryz.sizeOf3)) ?_
       refine P_det rf (Over_nil (y_load1 rf Tryz.isAgg3 (fun w hw => (show At w bi (oi + 0 * 1) [.int .i64 N0] by rw [hN0]; exact (Bl.ints hyr h1 hB2 sbA w hw).2.at (k := 0) (by show 0 < (c.of yx).inn.length; omega))))) ?_
       refine P_det rf (Over_nil (y_callL rf rf Tryz.call18 (fun w hw => Ct_eq (lhas_any u0.i _ u0.ki (c.of u0.x).inn N0 w om0 (Bl.ints hur0 h1 hB2 sbA w hw).2) (show Value.bool (decide (N0 ∈ (c.of u0.x).inn)) = .bool true by rw [decide_eq_true hm0])))) ?_
       refine P_det rf (Over_nil (y_not rf)) ?_
       refine P_det rf (Over_nil (by first | exact y_pick_t (c := .bool _) rf rf | exact y_pick_f (c := .bool _) rf rf)) ?_
       refine P_det rf (Over_nil (y_move (c := .bool _) rf)) ?_
       refine P_det rf (Over_nil (y_move (c := .bool _) rf)) ?_
       refine P_det rf (Over_nil (y_not rf)) ?_
       refine P_det rf (Over_nil (by first | exact y_pick_t (c := .bool _) rf rf | exact y_pick_f (c := .bool _) rf rf)) ?_
       refine P_det rf (Over_nil (y_move (c := .bool _) rf)) ?_
       refine P_det rf (Over_nil (y_move (c := .int .i64 _) rf)) ?_
       refine P_det rf (Over_nil (y_move (c := .int .i64 _) rf)) ?_
       refine P_det rf (Over_nil (YD_no (y_neq rf rf) dect)) ?_
       refine P_det rf (Over_nil (by first | exact y_pick_t (c := .bool _) rf rf | exact y_pick_f (c := .bool _) rf rf)) ?_
       refine P_det rf (Over_nil (y_move (c := .bool _) rf)) ?_
       refine P_det rf (Over_nil (y_loadN rf Tryz.isAgg24 Tryz.sizeOf24 (Mem.own (us := [.slice _ _ _, .slice _ _ _, .int .i64 _]) 1 rf rf) rf)) ?_
       refine P_det rf (Over_nil (y_callL rf rf Tryz.call33 (fun w hw => rcsum_any (c.of u1.x) u1.s u1.ks u1.i u1.ki w ho1.inn_bd.1 ⟨ho1.st0, ho1.st1⟩ ho1.inn_bd.2 (Bl.ints hur1 h1 hB2 sbA w hw).2))) ?_
       refine P_det rf (Over_nil (y_fieldAddr rf fa24_2)) ?_
       refine P_det rf (Over_nil (y_load1 rf Tryz.isAgg3 (Mem.own1 1 rf rf))) ?_
       refine P_det rf (Over_nil (y_sub rf rf (by rw [hm1, hsu]; unfold I64; omega))) ?_
       refine P_det rf (Over_nil (y_move (c := .int .i64 _) rf)) ?_
       refine P_det rf (Over_nil (YD_no (y_neq rf rf) dect)) ?_
       refine P_det rf (Over_nil (by first | exact y_pick_t (c := .bool _) rf rf | exact y_pick_f (c := .bool _) rf rf)) ?_
       refine P_det rf (Over_nil (y_move (c := .bool _) rf)) ?_
       refine P_det rf (Over_nil (y_move (c := .bool _) rf)) ?_
       refine P_det rf (Over_nil (y_not rf)) ?_
       refine P_det rf (Over_nil (by first | exact y_pick_t (c := .bool _) rf rf | exact y_pick_f (c := .bool _) rf rf)) ?_
       refine P_det rf (Over_nil (y_move (c := .bool _) rf)) ?_
       refine P_det rf (Over_nil (y_move (c := .int .i64 _) rf)) ?_
       refine P_det rf (Over_nil (y_move (c := .int .i64 _) rf)) ?_
       refine P_det rf (Over_nil (YD_no (y_neq rf rf) dect)) ?_
       refine P_det rf (Over_nil (by first | exact y_pick_t (c := .bool _) rf rf | exact y_pick_f (c := .bool _) rf rf)) ?_
       refine P_det rf (Over_nil (y_move (c := .bool _) rf)) ?_
       refine P_det rf (Over_nil (y_fieldAddr rf fa24_1)) ?_
       refine P_det rf (Over_nil (y_load1 rf Tryz.isAgg22 (Mem.own1 0 rf rf))) ?_
       refine P_det rf (Over_nil (y_fieldAddr rf fa24_1)) ?_
       refine P_det rf (Over_nil (y_load1 rf Tryz.isAgg22 (Mem.own1 4 rf rf))) ?_
       refine P_det rf (Over_nil (y_callL rf rf Tryz.call23 (fun w hw => Ct_eq (sameInts2_any u2.i (some ⟨bi, oi, none⟩) _ _ u2.ki yki (c.of u2.x).inn (c.of yx).inn w om0 (Bl.ints hur2 h1 hB2 sbA w hw).2 (show Ints w (some ⟨bi, oi, none⟩) (c.of yx).inn.length yki (c.of yx).inn from (Bl.ints hyr h1 hB2 sbA w hw).2)) (show Value.bool (decide ((c.of u2.x).inn = (c.of yx).inn)) = .bool true by rw [decide_eq_true hm2])))) ?_
       refine P_det rf (Over_nil (y_not rf)) ?_
       refine P_det rf (Over_nil (by first | exact y_pick_t (c := .bool _) rf rf | exact y_pick_f (c := .bool _) rf rf)) ?_
       refine PW_end rf ?_
       refine OverAll_nil ?_
       rintro -
       refine Then_normal ?_
       refine W_cond rf (fun c27 => ?_) (fun c27 => ?_)
       ·cases c27
       ·
        try simp only [qz1, qz2, qz3, qz4, qz5, qz6, qz7, qz8] at c27
        refine W_skip ?_
        refine InB_normal ?_
        refine Then_normal ?_
        try simp only [List.append_eq]
        refine W_region_lit (fun ds => ?_)
        refine zD hF (y_add rf rf ui) ?_
        refine zm (.int .i64 _) hF ?_
        refine WS_nil ?_
        exact Loop_next (i + 1) om0 s10 sbA om0
    ·
     intro J11
     refine W_seq ?_
     refine zR fun ds => ?_
     refine zm (.int .i64 _) hF ?_
     refine zD hF (y_gtr rf rf) ?_
     refine zN ?_
     refine W_cond rf (fun c9 => ?_) (fun c9 => ?_)
     ·
      try simp only [qz1, qz2, qz3, qz4, qz5, qz6, qz7, qz8] at c9
      have hi0 : 0 < i := by omega
      obtain ⟨y0, hy0, hyx0, hyr0⟩ := hS.get (c.b0x a1 p1 a2 p2) (k := i - 1) om0
      have hin0 : c.In y0.x := by rw [hyx0]; exact hok.run_in fun j hj => hS.run j om0
      have hza0 : 0 ≤ y0.x.a := hin0.lo 0 dc
      have hza1 : y0.x.a ≤ 600 := hin0.hi 0 (Nat.zero_le _)
      have hbs : bkP c ps i + max 0 (yx.a - y0.x.a) = c.backK ps i := by
       obtain ⟨j, rfl⟩ : ∃ j, i = j + 1 := ⟨i - 1, by omega⟩
       rw [hyx, hyx0]; rfl
      have hbp : bkP c ps i = c.backK ps (i - 1) := rfl
      refine W_draw0 hF Tryzmixed [] dk0 (fun ds => ?_)
      refine P_det rf (Over_nil (y_move (c := .int .i64 _) rf)) ?_
      refine P_det rf (Over_nil (y_fieldAddr rf fa24_2)) ?_
      refine P_det rf (Over_nil (y_load1 rf Tryz.isAgg3 (Mem.own1 0 rf rf))) ?_
      refine P_det rf (Over_nil (y_move (c := .slice _ _ _) rf)) ?_
      refine P_det rf (Over_nil (y_move (c := .int .i64 _) rf)) ?_
      refine P_det rf (Over_nil (y_sub rf rf ui)) ?_
      refine P_det rf (Over_nil (y_index (k := i - 1) rf rf r10 d10 Tryz.runUnderlying34 Tryz.sizeOf24)) ?_
      refine P_det rf (Over_nil (y_fieldAddr rf fa24_2)) ?_
      refine P_det rf (Over_nil (y_load1 rf Tryz.isAgg3 (fun w hw => ⟨(hS.cell (k := i - 1) om0 hy0 sbA w hw).2.2.1, trivial⟩))) ?_
      refine P_det rf (Over_nil (y_sub rf rf ui)) ?_
      refine P_det rf (Over_nil (y_max rf rf)) ?_
      refine P_det rf (Over_nil (y_add rf rf ui)) ?_
      refine P_det rf (Over_nil (y_assign (c := .int .i64 _) rf)) ?_
      refine PW_end rf ?_
      refine OverAll_nil ?_
      rintro -
      refine Then_normal ?_
      first | rw [show bkP c ps i = c.backK ps i from (by have h0 : i = 0 := om0; rw [h0]; rfl)] | rw [hbs]
      exact J11 () _ _  trivial slt slt (HSub.sub sbA)
     ·
      try simp only [qz1, qz2, qz3, qz4, qz5, qz6, qz7, qz8] at c9
      refine zU ?_
      first | rw [show bkP c ps i = c.backK ps i from (by have h0 : i = 0 := om0; rw [h0]; rfl)] | rw [hbs]
      exact J11 () _ _  trivial slt slt (HSub.sub sbA)
   ·
    try simp only [qz1, qz2, qz3, qz4, qz5, qz6, qz7, qz8] at c7
    refine W_exit ?_
    refine Then_exit ?_
    refine Loop_exit ?_
    refine InB_same ?_
    refine zS fun ds => ?_
    refine zm (.bool _) hF ?_
    refine za (.bool _) hF ?_
    refine zN ?_
    refine W_ret ?_
    refine Fin_ret [.bool _] [] Tryz.results10 ⟨by rfl, trivial⟩ HSub.nil ?_
    rfl
end Go.Proofs.YtjekjehgmljbgaaGreatDoor.T
namespace Go.Proofs.YtjekjehgmljbgaaGreatDoor.T
open Go.RowKit Go.Proofs Go.Eng Go.ChangeShapes Go.WideShapes Go.ChangeAt Go.Joins Go.Deep
set_option maxRecDepth 100000
set_option maxHeartbeats 1000000
section
variable {H : Type} {enc : TypeId × Value → H} {w : World} {base : Nat} {spare : Nat → Bool} {held : Bool}
theorem open_intsT {fuel : Nat} {v : Value} {y : DataW H × List MemPlace} (h : DataW.trod enc Tryz.prog w base spare held fuel 22 [v] = some y) (hs : ∀ b, spare b = true) : ∃ a n cap xs, v = .slice a n cap ∧ Ints w a n cap xs := by
 rcases open_ints Tryz.underlying22 Tryz.underlying3 (by kernel_rfl) h with ⟨hcs, _⟩ | ⟨x, l, c, zs, hcs, _, hl, hm, hz, _, hcell, hwz⟩
 ·simp only [List.cons.injEq, and_true] at hcs
  subst hcs
  exact ⟨_, _, _, [], rfl, Ints.nil _ _ _⟩
 ·simp only [List.cons.injEq, and_true] at hcs
  subst hcs
  rw [hs, if_pos rfl] at hz
  refine ⟨_, _, _, zs.take l, rfl, by simp; omega, hl, fun k hk => ?_⟩
  have hc := hcell k om0
  obtain ⟨b, off, spot⟩ := x
  have hspot : spot = none := by
   have := World.cell?_spot (hcell 0 om0)
   simpa [Addr.add] using this
  subst hspot
  have ha : (⟨b, off, none⟩ : Addr).add k = ⟨b, off + k * 1, none⟩ := by unfold Addr.add; split <;> simp_all
  rw [ha] at hc
  refine ⟨b, off, rfl, ?_, trivial⟩
  rw [hc]
  simp [List.getD_eq_getElem?_getD, hk]
end
theorem own : ownKnob Tryz.prog.godebug = none := by kernel_rfl
theorem laidOut : laidOutB Tryz.prog = true := by kernel_rfl
set_option maxRecDepth 100000
set_option maxHeartbeats 1000000
section
variable {H : Type} {enc : TypeId × Value → H} {w : World} {base : Nat} {spare : Nat → Bool} {held : Bool}
theorem open_cans {r : Reach} {b0 : Nat} {v : Value} {d : DataW H} {p : List MemPlace} (hv : Value.okWide Tryz.prog w r b0 24 v) (h : DataW.Trod enc Tryz.prog w base spare held 24 v d p) (hs : ∀ b, spare b = true) :
  ∃ (c : Cn) (a1 : Option Addr) (p1 : Nat) (a2 : Option Addr) (p2 : Nat), v = .agg #[.slice a1 c.n p1, .slice a2 c.inn.length p2, .int .i64 c.st] ∧ Ints w a1 c.n p1 c.sz ∧ Ints w a2 c.inn.length p2 c.inn := by
 obtain ⟨v0, v1, v2, y0, y1, y2, n, rfl, _, _, h0, h1, h2⟩ := open_agg3 Tryz.underlying24 (by kernel_rfl) (by kernel_rfl) hv h
 obtain ⟨a1, m1, p1, xs, rfl, hx⟩ := open_intsT h0 hs
 obtain ⟨a2, m2, p2, ys, rfl, hy⟩ := open_intsT h1 hs
 obtain ⟨l, hl, _, _⟩ := DataW.trod_int Tryz.underlying3 h2
 simp only [List.cons.injEq, and_true] at hl
 subst hl
 have := hx.len
 subst this
 have := hy.len
 subst this
 exact ⟨⟨xs, ys, l⟩, a1, p1, a2, p2, rfl, hx, hy⟩
end
def laidC : List (String × DataW Unit) := [("oilcake/can.checks", Rows.laid_oilcake_can_checks)]
theorem gChecks : Tryz.prog.globalNamed "oilcake/can.checks" = some 0 := by kernel_rfl
theorem tChecks : (Tryz.prog.globals[0]?).map (·.type) = some 159 := by kernel_rfl
theorem door_met (os : Os) (args : Array Value) : laidMetH Tryz.prog laidC ((World.doorLaid Tryz.prog 400 os).forCall (fun _ _ => 0) ⟨#[], args, []⟩).memory :=
 laidMetH_of_parts3 (fuel := 8) (laidMet_of_run' 8 (by kernel_rfl) (by kernel_rfl)) (by kernel_rfl) (by kernel_rfl)
theorem cellsChk : Tryz.prog.cellsOf 158 = 1 := by kernel_rfl
theorem cellsChk3 : Tryz.prog.cellsOf 159 = 3 := by kernel_rfl
theorem cellsFn : Tryz.prog.cellsOf 27 = 1 := by kernel_rfl
theorem chk_fn {W : World} {sp : Nat → Bool} {fuel : Nat} {v : Value} {x : DataW (List UInt8) × List MemPlace} {b : UInt8} {r : List UInt8} {f0 : FuncId}
  (hone : ((List.range Tryz.prog.funcs.size).filter fun f => (Tryz.prog.funcs[f]?).any (·.name.toUTF8.data.toList == b :: r)) = [f0])
  (h : DataW.trod (funcToken Tryz.prog) Tryz.prog W 0 sp true fuel 158 [v] = some x) (hx : x.1 = .agg [.held (b :: r)]) : v = .func (.func f0) #[] #[] := by
 obtain ⟨y0, n, rfl, _, h0⟩ := trod_struct1 Tryz.underlying158 h
 obtain ⟨y, q⟩ := y0
 simp only [DataW.agg.injEq, List.cons.injEq, and_true] at hx
 subst hx
 simp only [cellsFn, List.drop_zero, List.take_succ_cons, List.take_zero] at h0
 exact func_of_trod Tryz.underlying27 hone h0
theorem of_laid {W : World} (h : laidMetH Tryz.prog laidC W) : Gv W := by
 obtain ⟨g, t, cs, fuel, p, hg, ht, hv, hd⟩ := h.funcs (List.mem_singleton.2 rfl)
 obtain rfl := Option.some.inj (gChecks.symm.trans hg)
 obtain rfl := Option.some.inj (tChecks.symm.trans ht)
 have hd' : DataW.trod (funcToken Tryz.prog) Tryz.prog W 0 (fun _ => true) true fuel 159 cs.toList = some (.agg [.agg [.held [111, 105, 108, 99, 97, 107, 101, 47, 99, 97, 110, 46, 99, 104, 101, 99, 107, 115, 36, 49]], .agg [.held [111, 105, 108, 99, 97, 107, 101, 47, 99, 97, 110, 46, 99, 104, 101, 99, 107, 115, 36, 50]], .agg [.held [111, 105, 108, 99, 97, 107, 101, 47, 99, 97, 110, 46, 99, 104, 101, 99, 107, 115, 36, 51]]], p) := hd
 obtain ⟨xs, m1, rfl, hx1, hlen, hn3, hel⟩ := DataW.trod_array Tryz.underlying159 hd'
 simp only [Prod.mk.injEq, DataW.agg.injEq] at hx1
 rw [cellsChk3] at hlen
 have hc := fun i => World.var?_cell hg hv i
 obtain ⟨cl⟩ := cs
 match xs, hn3, hx1, cl, hlen, hel, hc with
 | [x0, x1, x2], _, hx1, [c0, c1, c2], _, hel, hc =>
  simp only [List.map_cons, List.map_nil, List.cons.injEq, and_true] at hx1
  have e0 := hel 0 dc
  have e1 := hel 1 dc
  have e2 := hel 2 dc
  simp only [cellsChk, Nat.zero_mul, Nat.one_mul, Nat.mul_one, List.drop_zero, List.drop_succ_cons, List.take_succ_cons, List.take_zero, List.getElem?_cons_zero, List.getElem?_cons_succ] at e0 e1 e2
  obtain rfl := chk_fn (f0 := 190) (by kernel_rfl) e0 hx1.1.1.symm
  obtain rfl := chk_fn (f0 := 191) (by kernel_rfl) e1 hx1.1.2.1.symm
  obtain rfl := chk_fn (f0 := 192) (by kernel_rfl) e2 hx1.1.2.2.symm
  exact ⟨hc 0, hc 1, hc 2, trivial⟩
set_option maxRecDepth 100000
set_option maxHeartbeats 1000000
section
variable {H : Type} {enc : TypeId × Value → H} {w : World} {base : Nat} {spare : Nat → Bool} {held : Bool}
theorem open_u32s {r : Reach} {b0 : Nat} {v : Value} {d : DataW H} {p : List MemPlace} (hv : Value.okWide Tryz.prog w r b0 25 v) (hd : DataW.Trod enc Tryz.prog w base spare held 25 v d p) (hs : ∀ b, spare b = true) : ∃ (a : Option Addr) (n cap : Nat) (xs : List Int), v = .slice a n cap ∧ U4s w a n cap xs := by
 obtain ⟨a, n, cap, rfl⟩ := okWide_slice Tryz.underlying25 hv
 obtain ⟨fuel, h⟩ := hd
 rcases open_ints Tryz.underlying25 Tryz.underlying169 (by kernel_rfl) h with ⟨hcs, _⟩ | ⟨x, l, c, zs, hcs, _, hl, hm, hz, _, hcell, hwz⟩
 ·simp only [Value.cells, List.cons.injEq, and_true] at hcs
  cases hcs
  exact ⟨_, _, _, [], rfl, ⟨Rws.nil _ _ _, fun k hk => absurd hk (Nat.not_lt_zero _), Nat.zero_le _⟩⟩
 ·simp only [Value.cells, List.cons.injEq, and_true] at hcs
  cases hcs
  rw [hs, if_pos rfl] at hz
  have hget : ∀ k, k < n → (zs.take n).getD k 0 = zs.getD k 0 := fun k hk => by simp [List.getD_eq_getElem?_getD, hk]
  refine ⟨_, _, _, zs.take n, rfl, ⟨⟨by simp; omega, hl, fun k hk => ?_⟩, fun k hk => ?_, ?_⟩⟩
  ·have hc := hcell k om0
   obtain ⟨b, off, spot⟩ := x
   have hspot : spot = none := by
    have := World.cell?_spot (hcell 0 om0)
    simpa [Addr.add] using this
   subst hspot
   have ha : (⟨b, off, none⟩ : Addr).add k = ⟨b, off + k * 1, none⟩ := by unfold Addr.add; split <;> simp_all
   rw [ha] at hc
   refine ⟨b, off, rfl, ?_, trivial⟩
   rw [hc, hget k hk]
  ·rw [hget k hk]
   have hw := hwz (zs.getD k 0) (by rw [List.getD_eq_getElem?_getD, List.getElem?_eq_getElem om0]; exact List.getElem_mem _)
   have hw' : (decide ((0 : Int) ≤ zs.getD k 0) && decide (zs.getD k 0 ≤ 4294967295)) = true := hw
   simpa only [Bool.and_eq_true, decide_eq_true_eq] using hw'
  ·have : cap ≤ 9223372036854775807 := hm
   omega
end
end Go.Proofs.YtjekjehgmljbgaaGreatDoor.T
namespace Go.Proofs.YtjekjehgmljbgaaGreatDoor.T
open Go.RowKit Go.Proofs Go.Eng Go.ChangeShapes Go.WideShapes Go.ChangeAt Go.Joins
set_option maxRecDepth 100000
set_option maxHeartbeats 1000000
section
variable {H : Type} {enc : TypeId × Value → H} {w : World} {base : Nat} {spare : Nat → Bool} {held : Bool}
end
end Go.Proofs.YtjekjehgmljbgaaGreatDoor.T
namespace Go.Proofs.YtjekjehgmljbgaaGreatDoor.T
open Go.RowKit Go.Proofs Go.Eng Go.ChangeShapes Go.WideShapes Go.ChangeAt Go.Joins Go.Deep
set_option maxRecDepth 100000
set_option maxHeartbeats 1000000
section
variable {H : Type} {enc : TypeId × Value → H} {w : World} {base : Nat} {spare : Nat → Bool} {held : Bool}
end
end Go.Proofs.YtjekjehgmljbgaaGreatDoor.T
namespace Go.Proofs.YtjekjehgmljbgaaGreatDoor
open Go.RowKit Go.Proofs Go.Eng Go.ChangeShapes Go.WideShapes Go.ChangeAt Go.Joins T
set_option maxRecDepth 100000
set_option maxHeartbeats 1000000
theorem walkCanFewest (v0 v1 : Value) (W : World) (hG : Gv W) (h0 : ∃ (c0 : Cn) (a0 : Option Addr) (p0 : Nat) (b0 : Option Addr) (q0 : Nat), v0 = .agg #[.slice a0 c0.n p0, .slice b0 c0.inn.length q0, .int .i64 c0.st] ∧ Ints W a0 c0.n p0 c0.sz ∧ Ints W b0 c0.inn.length q0 c0.inn) (h1 : ∃ (ta1 : Option Addr) (tn1 tcap1 : Nat) (D1 : List Int), v1 = .slice ta1 tn1 tcap1 ∧ U4s W ta1 tn1 tcap1 D1) :
  Calls Tryz.prog 10 #[v0, v1] W fun e W' => e = .returned (.bool true) ∧ Below W.heap.size W W' := by
 obtain ⟨c0, a0, p0, b0, q0, rfl, hx0, hy0⟩ := h0
 obtain ⟨ta1, tn1, tcap1, D1, rfl, hD1⟩ := h1
 refine Calls.mono (canFewest_any c0 a0 p0 b0 q0 ta1 tn1 tcap1 D1 W hG hx0 hy0 hD1) ?_
 rintro e W' ⟨v, rfl, Hn, hb, _, rfl⟩
 exact ⟨rfl, hb⟩
theorem liftCanFewest (os : Os) (started : os.Started) (H : Type) (enc : TypeId × Value → H) :
  ReturnsInHanded {} Tryz.checked os 10 .any (fun w args => (Rows.canFewestSpec.pre enc Tryz.prog Tryz.f10 [] false w args ∧ laidMetH Tryz.prog laidC w) ∧ sizedMet enc Tryz.prog Tryz.f10 (OpenSpec.ofChange Rows.canFewestSpec) false w args) (Rows.canFewestSpec.post enc Tryz.prog Tryz.f10 false true false false) := by
 refine returnsInHanded_of_change_and (C := Tryz.checked) (X := fun w _ => laidMetH Tryz.prog laidC w) (fun _ _ _ hh h => h.of_heap hh) own started (by kernel_rfl) Tryz.func10
  (ChangeSpec.witness_shaped (enc := enc) (C := Tryz.checked) (os := os) (X := fun w _ => laidMetH Tryz.prog laidC w) false (World.doorLaid Tryz.prog 400 os) #[.agg #[.slice none 0 0, .slice none 0 0, .int .i64 0], .slice none 0 0] 8 rfl (World.shaped_of_RefB (by kernel_rfl) (by kernel_rfl)) (by kernel_rfl) (by kernel_rfl) (by kernel_rfl) (door_met os _)) ?_
 intro W base args ds gs before hval0 hW _ _ hL _
 have hval : ∀ (j : Nat) t v, Tryz.f10.params[j]? = some t → args[j]? = some v → Value.okWide Tryz.prog W .any base t v := hval0
 have hW' := hW
 obtain ⟨p, q, hA0, hV, rfl, hfz, hnd⟩ := hW
 have hA : DataW.TrodAll enc Tryz.prog W 0 (fun _ => true) true Tryz.f10.params.toList args.toList ds p := hA0
 rw [Tryz.params10] at hA hval
 obtain ⟨v0, vs0, d0, ds0, p0, q0, hargs, rfl, rfl, h0, r0⟩ := trodAll_cons hA
 obtain ⟨v1, vs1, d1, ds1, p1, q1, rfl, rfl, rfl, h1, r1⟩ := trodAll_cons r0
 obtain ⟨rfl, rfl, rfl⟩ := trodAll_nil r1
 obtain rfl : args = #[v0, v1] := by cases args; simp_all
 obtain ⟨rfl, rfl⟩ := trodVars_none hV
 have lt0 : ∀ x ∈ p0, x.block < W.heap.size := by obtain ⟨m, hm⟩ := h0; exact DataW.trod_lt m _ _ _ hm
 have lt1 : ∀ x ∈ p1, x.block < W.heap.size := by obtain ⟨m, hm⟩ := h1; exact DataW.trod_lt m _ _ _ hm
 have o0 : ∃ (c0 : Cn) (a0 : Option Addr) (p0 : Nat) (b0 : Option Addr) (q0 : Nat), v0 = .agg #[.slice a0 c0.n p0, .slice b0 c0.inn.length q0, .int .i64 c0.st] ∧ Ints W a0 c0.n p0 c0.sz ∧ Ints W b0 c0.inn.length q0 c0.inn := open_cans (hval 0 _ v0 rfl rfl) h0 (fun _ => rfl)
 have o1 : ∃ (ta1 : Option Addr) (tn1 tcap1 : Nat) (D1 : List Int), v1 = .slice ta1 tn1 tcap1 ∧ U4s W ta1 tn1 tcap1 D1 := open_u32s (hval 1 _ v1 rfl rfl) h1 (fun _ => rfl)
 clear hA0 hval0
 refine (walkCanFewest v0 v1 W (of_laid hL) o0 o1).mono fun e W' ⟨he, bel⟩ => ?_
 subst he
 exact ⟨_, rfl, _, _, _, [], _, [], hW', trodAll_mk1 (shut_bool Tryz.underlying4 _),
  (trodAll_cons_mk (Below.trod laidOut (by kernel_rfl) (of_decide_eq_true (by kernel_rfl)) h0 bel lt0) (trodAll_cons_mk (Below.trod laidOut (by kernel_rfl) (of_decide_eq_true (by kernel_rfl)) h1 bel lt1) trodAll_mk0)), rfl, bel.frame _, fun h => by cases h⟩
theorem canFewestH : Rows.CanFewestSaid :=
 OpenClaim.holds_of_wide 10 Tryz.f10 rfl rfl rfl rfl rfl rfl rfl ⟨rfl, rfl, rfl, rfl, rfl⟩ rfl rfl rfl rfl rfl (by kernel_rfl) Tryz.func10 (by kernel_rfl)
  (of_decide_eq_true (by kernel_rfl)) (by unfold Func.isWrapper; first | (rw [if_pos dk0]; kernel_rfl) | (rw [if_neg dk0]; exact ⟨rfl, rfl⟩))
  (fun os started H enc _ => liftCanFewest os started H enc)
theorem canFewest : Rows.CanFewestCardSaid :=
 Claim7.holds_tied_plain_at .later [] [.funcs] true (true, "114ba46d525c684db3e97d3e5daf22351e8b02d0b87f957e3b74fac149e509e6") false
  canFewestH (fun _ h => by cases h) (by kernel_rfl) (fun _ h => by cases h) canFewest_row_tie rfl ⟨rfl, rfl⟩ (by kernel_rfl) rfl
  (fun f fn hf hfn => by
   obtain rfl : f = 10 := Option.some.inj ((show Tryz.prog.funcNamed "oilcake/oilcakelaw08.CanFewest" = some 10 by kernel_rfl).symm.trans hf) |>.symm
   obtain rfl : fn = Tryz.f10 := (Option.some.inj (Tryz.func10.symm.trans hfn)).symm
   exact ⟨by kernel_rfl, fun j t ht => by
    rw [Tryz.params10] at ht
    have hm : t ∈ [24, 25] := by simpa using Array.mem_of_getElem? ht
    have hall : ([24, 25].all fun u => !Tryz.prog.wantsStandIn u) = true := by kernel_rfl
    exact (show Tryz.prog.wantsStandIn t = false by simpa using List.all_eq_true.1 hall t hm)⟩)
  (by kernel_rfl)
end Go.Proofs.YtjekjehgmljbgaaGreatDoor
