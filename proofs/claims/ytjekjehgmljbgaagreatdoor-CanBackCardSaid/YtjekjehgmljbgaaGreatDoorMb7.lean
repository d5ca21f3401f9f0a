/- Pourings by choices: walked. -/
import Derived.Test.YtjekjehgmljbgaaGreatDoorMb6
import Derived.Shelf.Spec.SlicesGrow
import Derived.Test.YtjekjehgmljbgaaGreatDoorMb4
import Derived.Test.YtjekjehgmljbgaaGreatDoorMb5
set_option linter.unusedVariables false
set_option linter.unusedSimpArgs false
namespace Go.Proofs.YtjekjehgmljbgaaGreatDoor.T
open Go.RowKit Go.Proofs Go.Eng
set_option maxRecDepth 100000
set_option maxHeartbeats 1000000
def Cn.more (c : Cn) (n : Int) : Cn := ⟨c.sz ++ [n], c.inn ++ [0], c.st⟩
theorem iv_snoc (xs : List Int) (n : Int) : iv xs ++ [Value.int .i64 n] = iv (xs ++ [n]) := by simp [iv]
theorem Cn.more_n (c : Cn) (n : Int) : (c.more n).n = c.n + 1 := by unfold Cn.more Cn.n; simp
theorem Cn.more_m (c : Cn) (n : Int) : (c.more n).inn.length = c.inn.length + 1 := by unfold Cn.more; simp
theorem cwith_any (c : Cn) (a1 : Option Addr) (p1 : Nat) (a2 : Option Addr) (p2 : Nat) (n : Int) (w : World) (hn : c.n ≤ 1000000) (hm : c.inn.length ≤ 1000000) (h1 : Ints w a1 c.n p1 c.sz) (h2 : Ints w a2 c.inn.length p2 c.inn) : Ct Tryz.prog 82 #[.agg #[.slice a1 c.n p1, .slice a2 c.inn.length p2, .int .i64 c.st], .int .i64 n] w (TwinC (c.more n)) := by
 have hn' : c.sz.length ≤ 1000000 := hn
 have hmn := c.more_n n
 have hmm := c.more_m n
 have hF := wide_wide
 refine Ct_start (args := [_, _]) Tryz.func82 rf Tryz.ntmps82 rf ?_
 refine zR fun ds => ?_
 refine WS_new hF rf (y_box rf) (fun b2 => ?_)
 refine WS_new hF rf (y_alloc Tryz.zeroValue24 rf) (fun b4 => ?_)
 refine zO ?_
 refine W_tailH 14 Tryzmixed (fun e2 H2 => ∃ s1 k1 s2 k2 K1 K2, NewRow 3 1 (c.more n).n (iv (c.more n).sz) (.slice s1 (c.more n).n k1) K1 ∧ NewRow 3 1 (c.more n).inn.length (iv (c.more n).inn) (.slice s2 (c.more n).inn.length k2) K2 ∧ Slots e2 [(4, .pointer (some ⟨b4, 0, none⟩)), (18, .agg #[.slice s1 (c.more n).n k1, .slice s2 (c.more n).inn.length k2, .int .i64 c.st])] ∧ HSub H2 ((b4, CB [.slice none 0 0, .slice none 0 0, .int .i64 0] 24) :: (K1 ++ K2))) dk0 (fun ds e2 H2 hmid => ?_) (fun ds => ?_)
 ·
  obtain ⟨s1, k1, s2, k2, K1, K2, hr1, hr2, hsl, hsb⟩ := hmid
  rw [← hsl.sets]
  refine WS_sub hsb ?_
  refine WS_store hF (i := 0) rf rf Tryz.sizeOf24 rf rf rf d20 ?_
  refine zN ?_
  refine W_ret ?_
  refine Fin_ret [_] (K1 ++ K2) Tryz.results82 ⟨lvN rf Tryz.isAgg24 Tryz.sizeOf24 (Mem.own (us := [.slice _ _ _, .slice _ _ _, .int .i64 _]) 0 rf rf) rf, trivial⟩ (HSub.sub sbA) ?_
  exact ⟨_, _, _, _, K1, K2, rfl, hr1, hr2, rfl⟩
 ·
  refine WH_as (fun X hX => ?_)
  have J2_4_5_8_9 : ∀ (ka : Option Addr) (kk : Nat) (K1 : List Blk) (da : Option Addr) (dk : Nat) (Hd : List Blk) (bt : Nat) (hk1 : NewRow 3 1 (c.more n).n (iv (c.more n).sz) (.slice ka (c.more n).n kk) K1) (hd1 : NewRow 3 1 c.inn.length (iv c.inn) (.slice da c.inn.length dk) Hd) (e2 : Env) (H2 : List Blk), Slots e2 [(2, .pointer (some ⟨b2, 0, none⟩)), (4, .pointer (some ⟨b4, 0, none⟩)), (6, .slice a1 c.n p1), (8, .int .i64 n), (12, .slice a2 c.inn.length p2), (17, .int .i64 c.st), (10, .slice ka (c.n + 1) kk), (13, .slice da c.inn.length dk), (14, .slice (some ⟨bt, 0, none⟩) 1 1)] → HSub H2 ((bt, CB [.int .i64 0] 3) :: (b4, CB [.slice none 0 0, .slice none 0 0, .int .i64 0] 24) :: (b2, CB [.slice a1 c.n p1, .slice a2 c.inn.length p2, .int .i64 c.st] 24) :: K1 ++ (Hd)) → X 2 #[true, true, true, true, true, true, true, true, true, true, false, true, true, false] e2 H2 := by
   intro ka kk K1 da dk Hd bt hk1 hd1 e2 H2 hsl hsb
   rw [← hsl.sets, hX]
   refine WH_sub hsb (HSub.sub sbA) ?_
   refine WH_step1 10 dk0 (fun _ h => St.sub h sbA) rf ?_
   ·
    refine WS_pull (bt, _) zu ?_
    refine WS_pullE Hd (by repeat (first | exact PulE.hd | exact PulE.snd | exact PulE.one | apply PulE.cons | apply PulE.app)) ?_
    refine WS_appendN hF (H1 := (_ :: _ :: _ :: (K1))) (Hn := Hd) rf rf rf Tryz.underlying22 infInt rf rf hd1 (iv_len c.inn) (.inr ⟨bt, 0, rfl, Mem.own1 0 rf rf⟩) rf rf om0 om0 om0 ?_
    intro ma mk K2 hr4
    have hk2 : NewRow 3 1 (c.more n).inn.length (iv (c.more n).inn) (.slice ma (c.more n).inn.length mk) K2 := by rw [hmm]; show NewRow _ _ _ (iv (c.inn ++ [0])) _ _; rw [← iv_snoc]; exact hr4
    refine WS_nil ?_
    refine WH_take 13 dk0 rf dk0 dk0 rf (ye_buildL bd24_0_1_2 rf) ?_
    refine WH_done dk0 (fun _ h => St.sub h sbA) ?_
    rw [← hmn, ← hmm]
    exact ⟨_, _, _, _, K1, K2, hk1, hk2, s30, HSub.sub sbA⟩
  have J2_4_5_8 : ∀ (ka : Option Addr) (kk : Nat) (K1 : List Blk) (da : Option Addr) (dk : Nat) (Hd : List Blk) (hk1 : NewRow 3 1 (c.more n).n (iv (c.more n).sz) (.slice ka (c.more n).n kk) K1) (hd1 : NewRow 3 1 c.inn.length (iv c.inn) (.slice da c.inn.length dk) Hd) (e2 : Env) (H2 : List Blk), Slots e2 [(2, .pointer (some ⟨b2, 0, none⟩)), (4, .pointer (some ⟨b4, 0, none⟩)), (6, .slice a1 c.n p1), (8, .int .i64 n), (12, .slice a2 c.inn.length p2), (17, .int .i64 c.st), (10, .slice ka (c.n + 1) kk), (13, .slice da c.inn.length dk)] → HSub H2 ((b4, CB [.slice none 0 0, .slice none 0 0, .int .i64 0] 24) :: (b2, CB [.slice a1 c.n p1, .slice a2 c.inn.length p2, .int .i64 c.st] 24) :: K1 ++ (Hd)) → X 3 #[true, true, true, true, true, true, true, true, true, false, false, true, true, false] e2 H2 := by
   intro ka kk K1 da dk Hd hk1 hd1 e2 H2 hsl hsb
   rw [← hsl.sets, hX]
   refine WH_sub hsb (HSub.sub sbA) ?_
   refine WH_step1 9 dk0 (fun _ h => St.sub h sbA) rf ?_
   ·
    refine WS_newS hF rf (y_buildSliceL bs22_1_0 rf) (fun bt => ?_)
    refine WS_nil ?_
    refine WH_pullL Hd (by repeat (first | exact PulL.base | exact PulL.base1 | apply PulL.cons | apply PulL.app)) ?_
    refine WH_pullL K1 (by repeat (first | exact PulL.base | exact PulL.base1 | apply PulL.cons | apply PulL.app)) ?_
    refine WH_pull (b2, CB [.slice a1 c.n p1, .slice a2 c.inn.length p2, .int .i64 c.st] 24) zu ?_
    refine WH_pull (b4, CB [.slice none 0 0, .slice none 0 0, .int .i64 0] 24) zu ?_
    refine WH_pull (bt, CB [.int .i64 0] 3) zu ?_
    exact WH_of hX rf dk0 (J2_4_5_8_9 ka kk K1 da dk Hd bt hk1 hd1 _ _ s10 (HSub.sub (by repeat (first | exact List.nil_sublist _ | exact List.Sublist.refl _ | exact List.sublist_append_left _ _ | apply List.Sublist.cons_cons | apply List.Sublist.append_left))))
  have J2_4_5_9 : ∀ (ka : Option Addr) (kk : Nat) (K1 : List Blk) (bt : Nat) (hk1 : NewRow 3 1 (c.more n).n (iv (c.more n).sz) (.slice ka (c.more n).n kk) K1) (e2 : Env) (H2 : List Blk), Slots e2 [(2, .pointer (some ⟨b2, 0, none⟩)), (4, .pointer (some ⟨b4, 0, none⟩)), (6, .slice a1 c.n p1), (8, .int .i64 n), (12, .slice a2 c.inn.length p2), (17, .int .i64 c.st), (10, .slice ka (c.n + 1) kk), (14, .slice (some ⟨bt, 0, none⟩) 1 1)] → HSub H2 ((bt, CB [.int .i64 0] 3) :: (b4, CB [.slice none 0 0, .slice none 0 0, .int .i64 0] 24) :: (b2, CB [.slice a1 c.n p1, .slice a2 c.inn.length p2, .int .i64 c.st] 24) :: K1) → X 3 #[true, true, true, true, true, true, true, true, false, true, false, true, true, false] e2 H2 := by
   intro ka kk K1 bt hk1 e2 H2 hsl hsb
   rw [← hsl.sets, hX]
   refine WH_sub hsb (HSub.sub sbA) ?_
   refine WH_step1 8 dk0 (fun _ h => St.sub h sbA) rf ?_
   ·
    refine WS_gen hF rf (y_callL rf rf Tryz.call72 (fun w hw => cloneN_any a2 c.inn.length p2 c.inn w hm (h2.st w hw))) ?_
    rintro _ Hd ⟨da, dk, rfl, hd1⟩
    refine WS_nil ?_
    refine WH_pullL Hd (by repeat (first | exact PulL.base | exact PulL.base1 | apply PulL.cons | apply PulL.app)) ?_
    refine WH_pullL K1 (by repeat (first | exact PulL.base | exact PulL.base1 | apply PulL.cons | apply PulL.app)) ?_
    refine WH_pull (b2, CB [.slice a1 c.n p1, .slice a2 c.inn.length p2, .int .i64 c.st] 24) zu ?_
    refine WH_pull (b4, CB [.slice none 0 0, .slice none 0 0, .int .i64 0] 24) zu ?_
    refine WH_pull (bt, CB [.int .i64 0] 3) zu ?_
    exact WH_of hX rf dk0 (J2_4_5_8_9 ka kk K1 da dk Hd bt hk1 hd1 _ _ s10 (HSub.sub (by repeat (first | exact List.nil_sublist _ | exact List.Sublist.refl _ | exact List.sublist_append_left _ _ | apply List.Sublist.cons_cons | apply List.Sublist.append_left))))
  have J2_4_5 : ∀ (ka : Option Addr) (kk : Nat) (K1 : List Blk) (hk1 : NewRow 3 1 (c.more n).n (iv (c.more n).sz) (.slice ka (c.more n).n kk) K1) (e2 : Env) (H2 : List Blk), Slots e2 [(2, .pointer (some ⟨b2, 0, none⟩)), (4, .pointer (some ⟨b4, 0, none⟩)), (6, .slice a1 c.n p1), (8, .int .i64 n), (12, .slice a2 c.inn.length p2), (17, .int .i64 c.st), (10, .slice ka (c.n + 1) kk)] → HSub H2 ((b4, CB [.slice none 0 0, .slice none 0 0, .int .i64 0] 24) :: (b2, CB [.slice a1 c.n p1, .slice a2 c.inn.length p2, .int .i64 c.st] 24) :: K1) → X 4 #[true, true, true, true, true, true, true, true, false, false, false, true, true, false] e2 H2 := by
   intro ka kk K1 hk1 e2 H2 hsl hsb
   rw [← hsl.sets, hX]
   refine WH_sub hsb (HSub.sub sbA) ?_
   refine WH_step2 8 9 dk0 (fun _ h => St.sub h sbA) rf rf ?_ ?_
   ·
    refine WS_gen hF rf (y_callL rf rf Tryz.call72 (fun w hw => cloneN_any a2 c.inn.length p2 c.inn w hm (h2.st w hw))) ?_
    rintro _ Hd ⟨da, dk, rfl, hd1⟩
    refine WS_nil ?_
    refine WH_pullL Hd (by repeat (first | exact PulL.base | exact PulL.base1 | apply PulL.cons | apply PulL.app)) ?_
    refine WH_pullL K1 (by repeat (first | exact PulL.base | exact PulL.base1 | apply PulL.cons | apply PulL.app)) ?_
    refine WH_pull (b2, CB [.slice a1 c.n p1, .slice a2 c.inn.length p2, .int .i64 c.st] 24) zu ?_
    refine WH_pull (b4, CB [.slice none 0 0, .slice none 0 0, .int .i64 0] 24) zu ?_
    exact WH_of hX rf dk0 (J2_4_5_8 ka kk K1 da dk Hd hk1 hd1 _ _ s10 (HSub.sub (by repeat (first | exact List.nil_sublist _ | exact List.Sublist.refl _ | exact List.sublist_append_left _ _ | apply List.Sublist.cons_cons | apply List.Sublist.append_left))))
   ·
    refine WS_newS hF rf (y_buildSliceL bs22_1_0 rf) (fun bt => ?_)
    refine WS_nil ?_
    refine WH_pullL K1 (by repeat (first | exact PulL.base | exact PulL.base1 | apply PulL.cons | apply PulL.app)) ?_
    refine WH_pull (b2, CB [.slice a1 c.n p1, .slice a2 c.inn.length p2, .int .i64 c.st] 24) zu ?_
    refine WH_pull (b4, CB [.slice none 0 0, .slice none 0 0, .int .i64 0] 24) zu ?_
    refine WH_pull (bt, CB [.int .i64 0] 3) zu ?_
    exact WH_of hX rf dk0 (J2_4_5_9 ka kk K1 bt hk1 _ _ s10 (HSub.sub (by repeat (first | exact List.nil_sublist _ | exact List.Sublist.refl _ | exact List.sublist_append_left _ _ | apply List.Sublist.cons_cons | apply List.Sublist.append_left))))
  have J2_4_9 : ∀ (ca : Option Addr) (ck : Nat) (Hc : List Blk) (bs : Nat) (bt : Nat) (hc1 : NewRow 3 1 c.n (iv c.sz) (.slice ca c.n ck) Hc) (e2 : Env) (H2 : List Blk), Slots e2 [(2, .pointer (some ⟨b2, 0, none⟩)), (4, .pointer (some ⟨b4, 0, none⟩)), (6, .slice a1 c.n p1), (8, .int .i64 n), (12, .slice a2 c.inn.length p2), (17, .int .i64 c.st), (7, .slice ca c.n ck), (9, .slice (some ⟨bs, 0, none⟩) 1 1), (14, .slice (some ⟨bt, 0, none⟩) 1 1)] → HSub H2 ((bs, CB [.int .i64 n] 3) :: (bt, CB [.int .i64 0] 3) :: (b4, CB [.slice none 0 0, .slice none 0 0, .int .i64 0] 24) :: (b2, CB [.slice a1 c.n p1, .slice a2 c.inn.length p2, .int .i64 c.st] 24) :: Hc) → X 4 #[true, true, true, true, true, false, true, true, false, true, false, true, true, false] e2 H2 := by
   intro ca ck Hc bs bt hc1 e2 H2 hsl hsb
   rw [← hsl.sets, hX]
   refine WH_sub hsb (HSub.sub sbA) ?_
   refine WH_step1 5 dk0 (fun _ h => St.sub h sbA) rf ?_
   ·
    refine WS_pull (bs, _) zu ?_
    refine WS_pullE Hc (by repeat (first | exact PulE.hd | exact PulE.snd | exact PulE.one | apply PulE.cons | apply PulE.app)) ?_
    refine WS_appendN hF (H1 := (_ :: _ :: _ :: _ :: [])) (Hn := Hc) rf rf rf Tryz.underlying22 infInt rf rf hc1 (iv_len c.sz) (.inr ⟨bs, 0, rfl, Mem.own1 0 rf rf⟩) rf rf om0 om0 om0 ?_
    intro ka kk K1 hr3
    have hk1 : NewRow 3 1 (c.more n).n (iv (c.more n).sz) (.slice ka (c.more n).n kk) K1 := by rw [hmn]; show NewRow _ _ _ (iv (c.sz ++ [n])) _ _; rw [← iv_snoc]; exact hr3
    refine WS_nil ?_
    refine WH_pullL K1 (by repeat (first | exact PulL.base | exact PulL.base1 | apply PulL.cons | apply PulL.app)) ?_
    refine WH_pull (b2, CB [.slice a1 c.n p1, .slice a2 c.inn.length p2, .int .i64 c.st] 24) zu ?_
    refine WH_pull (b4, CB [.slice none 0 0, .slice none 0 0, .int .i64 0] 24) zu ?_
    refine WH_pull (bt, CB [.int .i64 0] 3) zu ?_
    exact WH_of hX rf dk0 (J2_4_5_9 ka kk K1 bt hk1 _ _ s10 (HSub.sub (by repeat (first | exact List.nil_sublist _ | exact List.Sublist.refl _ | exact List.sublist_append_left _ _ | apply List.Sublist.cons_cons | apply List.Sublist.append_left))))
  have J2_4 : ∀ (ca : Option Addr) (ck : Nat) (Hc : List Blk) (bs : Nat) (hc1 : NewRow 3 1 c.n (iv c.sz) (.slice ca c.n ck) Hc) (e2 : Env) (H2 : List Blk), Slots e2 [(2, .pointer (some ⟨b2, 0, none⟩)), (4, .pointer (some ⟨b4, 0, none⟩)), (6, .slice a1 c.n p1), (8, .int .i64 n), (12, .slice a2 c.inn.length p2), (17, .int .i64 c.st), (7, .slice ca c.n ck), (9, .slice (some ⟨bs, 0, none⟩) 1 1)] → HSub H2 ((bs, CB [.int .i64 n] 3) :: (b4, CB [.slice none 0 0, .slice none 0 0, .int .i64 0] 24) :: (b2, CB [.slice a1 c.n p1, .slice a2 c.inn.length p2, .int .i64 c.st] 24) :: Hc) → X 5 #[true, true, true, true, true, false, true, true, false, false, false, true, true, false] e2 H2 := by
   intro ca ck Hc bs hc1 e2 H2 hsl hsb
   rw [← hsl.sets, hX]
   refine WH_sub hsb (HSub.sub sbA) ?_
   refine WH_step2 5 9 dk0 (fun _ h => St.sub h sbA) rf rf ?_ ?_
   ·
    refine WS_pull (bs, _) zu ?_
    refine WS_pullE Hc (by repeat (first | exact PulE.hd | exact PulE.snd | exact PulE.one | apply PulE.cons | apply PulE.app)) ?_
    refine WS_appendN hF (H1 := (_ :: _ :: _ :: [])) (Hn := Hc) rf rf rf Tryz.underlying22 infInt rf rf hc1 (iv_len c.sz) (.inr ⟨bs, 0, rfl, Mem.own1 0 rf rf⟩) rf rf om0 om0 om0 ?_
    intro ka kk K1 hr3
    have hk1 : NewRow 3 1 (c.more n).n (iv (c.more n).sz) (.slice ka (c.more n).n kk) K1 := by rw [hmn]; show NewRow _ _ _ (iv (c.sz ++ [n])) _ _; rw [← iv_snoc]; exact hr3
    refine WS_nil ?_
    refine WH_pullL K1 (by repeat (first | exact PulL.base | exact PulL.base1 | apply PulL.cons | apply PulL.app)) ?_
    refine WH_pull (b2, CB [.slice a1 c.n p1, .slice a2 c.inn.length p2, .int .i64 c.st] 24) zu ?_
    refine WH_pull (b4, CB [.slice none 0 0, .slice none 0 0, .int .i64 0] 24) zu ?_
    exact WH_of hX rf dk0 (J2_4_5 ka kk K1 hk1 _ _ s10 (HSub.sub (by repeat (first | exact List.nil_sublist _ | exact List.Sublist.refl _ | exact List.sublist_append_left _ _ | apply List.Sublist.cons_cons | apply List.Sublist.append_left))))
   ·
    refine WS_newS hF rf (y_buildSliceL bs22_1_0 rf) (fun bt => ?_)
    refine WS_nil ?_
    refine WH_pullL Hc (by repeat (first | exact PulL.base | exact PulL.base1 | apply PulL.cons | apply PulL.app)) ?_
    refine WH_pull (b2, CB [.slice a1 c.n p1, .slice a2 c.inn.length p2, .int .i64 c.st] 24) zu ?_
    refine WH_pull (b4, CB [.slice none 0 0, .slice none 0 0, .int .i64 0] 24) zu ?_
    refine WH_pull (bt, CB [.int .i64 0] 3) zu ?_
    refine WH_pull (bs, CB [.int .i64 n] 3) zu ?_
    exact WH_of hX rf dk0 (J2_4_9 ca ck Hc bs bt hc1 _ _ s10 (HSub.sub (by repeat (first | exact List.nil_sublist _ | exact List.Sublist.refl _ | exact List.sublist_append_left _ _ | apply List.Sublist.cons_cons | apply List.Sublist.append_left))))
  have J2_9 : ∀ (ca : Option Addr) (ck : Nat) (Hc : List Blk) (bt : Nat) (hc1 : NewRow 3 1 c.n (iv c.sz) (.slice ca c.n ck) Hc) (e2 : Env) (H2 : List Blk), Slots e2 [(2, .pointer (some ⟨b2, 0, none⟩)), (4, .pointer (some ⟨b4, 0, none⟩)), (6, .slice a1 c.n p1), (8, .int .i64 n), (12, .slice a2 c.inn.length p2), (17, .int .i64 c.st), (7, .slice ca c.n ck), (14, .slice (some ⟨bt, 0, none⟩) 1 1)] → HSub H2 ((bt, CB [.int .i64 0] 3) :: (b4, CB [.slice none 0 0, .slice none 0 0, .int .i64 0] 24) :: (b2, CB [.slice a1 c.n p1, .slice a2 c.inn.length p2, .int .i64 c.st] 24) :: Hc) → X 5 #[true, true, true, true, false, false, true, true, false, true, false, true, true, false] e2 H2 := by
   intro ca ck Hc bt hc1 e2 H2 hsl hsb
   rw [← hsl.sets, hX]
   refine WH_sub hsb (HSub.sub sbA) ?_
   refine WH_step1 4 dk0 (fun _ h => St.sub h sbA) rf ?_
   ·
    refine WS_newS hF rf (y_buildSliceL bs22_1_0 rf) (fun bs => ?_)
    refine WS_nil ?_
    refine WH_pullL Hc (by repeat (first | exact PulL.base | exact PulL.base1 | apply PulL.cons | apply PulL.app)) ?_
    refine WH_pull (b2, CB [.slice a1 c.n p1, .slice a2 c.inn.length p2, .int .i64 c.st] 24) zu ?_
    refine WH_pull (b4, CB [.slice none 0 0, .slice none 0 0, .int .i64 0] 24) zu ?_
    refine WH_pull (bt, CB [.int .i64 0] 3) zu ?_
    refine WH_pull (bs, CB [.int .i64 n] 3) zu ?_
    exact WH_of hX rf dk0 (J2_4_9 ca ck Hc bs bt hc1 _ _ s10 (HSub.sub (by repeat (first | exact List.nil_sublist _ | exact List.Sublist.refl _ | exact List.sublist_append_left _ _ | apply List.Sublist.cons_cons | apply List.Sublist.append_left))))
  have J4_9 : ∀ (bs : Nat) (bt : Nat) (e2 : Env) (H2 : List Blk), Slots e2 [(2, .pointer (some ⟨b2, 0, none⟩)), (4, .pointer (some ⟨b4, 0, none⟩)), (6, .slice a1 c.n p1), (8, .int .i64 n), (12, .slice a2 c.inn.length p2), (17, .int .i64 c.st), (9, .slice (some ⟨bs, 0, none⟩) 1 1), (14, .slice (some ⟨bt, 0, none⟩) 1 1)] → HSub H2 ((bs, CB [.int .i64 n] 3) :: (bt, CB [.int .i64 0] 3) :: (b4, CB [.slice none 0 0, .slice none 0 0, .int .i64 0] 24) :: (b2, CB [.slice a1 c.n p1, .slice a2 c.inn.length p2, .int .i64 c.st] 24) :: []) → X 5 #[true, true, false, true, true, false, true, true, false, true, false, true, true, false] e2 H2 := by
   intro bs bt e2 H2 hsl hsb
   rw [← hsl.sets, hX]
   refine WH_sub hsb (HSub.sub sbA) ?_
   refine WH_step1 2 dk0 (fun _ h => St.sub h sbA) rf ?_
   ·
    refine WS_gen hF rf (y_callL rf rf Tryz.call72 (fun w hw => cloneN_any a1 c.n p1 c.sz w hn (h1.st w hw))) ?_
    rintro _ Hc ⟨ca, ck, rfl, hc1⟩
    refine WS_nil ?_
    refine WH_pullL Hc (by repeat (first | exact PulL.base | exact PulL.base1 | apply PulL.cons | apply PulL.app)) ?_
    refine WH_pull (b2, CB [.slice a1 c.n p1, .slice a2 c.inn.length p2, .int .i64 c.st] 24) zu ?_
    refine WH_pull (b4, CB [.slice none 0 0, .slice none 0 0, .int .i64 0] 24) zu ?_
    refine WH_pull (bt, CB [.int .i64 0] 3) zu ?_
    refine WH_pull (bs, CB [.int .i64 n] 3) zu ?_
    exact WH_of hX rf dk0 (J2_4_9 ca ck Hc bs bt hc1 _ _ s10 (HSub.sub (by repeat (first | exact List.nil_sublist _ | exact List.Sublist.refl _ | exact List.sublist_append_left _ _ | apply List.Sublist.cons_cons | apply List.Sublist.append_left))))
  have J2 : ∀ (ca : Option Addr) (ck : Nat) (Hc : List Blk) (hc1 : NewRow 3 1 c.n (iv c.sz) (.slice ca c.n ck) Hc) (e2 : Env) (H2 : List Blk), Slots e2 [(2, .pointer (some ⟨b2, 0, none⟩)), (4, .pointer (some ⟨b4, 0, none⟩)), (6, .slice a1 c.n p1), (8, .int .i64 n), (12, .slice a2 c.inn.length p2), (17, .int .i64 c.st), (7, .slice ca c.n ck)] → HSub H2 ((b4, CB [.slice none 0 0, .slice none 0 0, .int .i64 0] 24) :: (b2, CB [.slice a1 c.n p1, .slice a2 c.inn.length p2, .int .i64 c.st] 24) :: Hc) → X 6 #[true, true, true, true, false, false, true, true, false, false, false, true, true, false] e2 H2 := by
   intro ca ck Hc hc1 e2 H2 hsl hsb
   rw [← hsl.sets, hX]
   refine WH_sub hsb (HSub.sub sbA) ?_
   refine WH_step2 4 9 dk0 (fun _ h => St.sub h sbA) rf rf ?_ ?_
   ·
    refine WS_newS hF rf (y_buildSliceL bs22_1_0 rf) (fun bs => ?_)
    refine WS_nil ?_
    refine WH_pullL Hc (by repeat (first | exact PulL.base | exact PulL.base1 | apply PulL.cons | apply PulL.app)) ?_
    refine WH_pull (b2, CB [.slice a1 c.n p1, .slice a2 c.inn.length p2, .int .i64 c.st] 24) zu ?_
    refine WH_pull (b4, CB [.slice none 0 0, .slice none 0 0, .int .i64 0] 24) zu ?_
    refine WH_pull (bs, CB [.int .i64 n] 3) zu ?_
    exact WH_of hX rf dk0 (J2_4 ca ck Hc bs hc1 _ _ s10 (HSub.sub (by repeat (first | exact List.nil_sublist _ | exact List.Sublist.refl _ | exact List.sublist_append_left _ _ | apply List.Sublist.cons_cons | apply List.Sublist.append_left))))
   ·
    refine WS_newS hF rf (y_buildSliceL bs22_1_0 rf) (fun bt => ?_)
    refine WS_nil ?_
    refine WH_pullL Hc (by repeat (first | exact PulL.base | exact PulL.base1 | apply PulL.cons | apply PulL.app)) ?_
    refine WH_pull (b2, CB [.slice a1 c.n p1, .slice a2 c.inn.length p2, .int .i64 c.st] 24) zu ?_
    refine WH_pull (b4, CB [.slice none 0 0, .slice none 0 0, .int .i64 0] 24) zu ?_
    refine WH_pull (bt, CB [.int .i64 0] 3) zu ?_
    exact WH_of hX rf dk0 (J2_9 ca ck Hc bt hc1 _ _ s10 (HSub.sub (by repeat (first | exact List.nil_sublist _ | exact List.Sublist.refl _ | exact List.sublist_append_left _ _ | apply List.Sublist.cons_cons | apply List.Sublist.append_left))))
  have J4 : ∀ (bs : Nat) (e2 : Env) (H2 : List Blk), Slots e2 [(2, .pointer (some ⟨b2, 0, none⟩)), (4, .pointer (some ⟨b4, 0, none⟩)), (6, .slice a1 c.n p1), (8, .int .i64 n), (12, .slice a2 c.inn.length p2), (17, .int .i64 c.st), (9, .slice (some ⟨bs, 0, none⟩) 1 1)] → HSub H2 ((bs, CB [.int .i64 n] 3) :: (b4, CB [.slice none 0 0, .slice none 0 0, .int .i64 0] 24) :: (b2, CB [.slice a1 c.n p1, .slice a2 c.inn.length p2, .int .i64 c.st] 24) :: []) → X 6 #[true, true, false, true, true, false, true, true, false, false, false, true, true, false] e2 H2 := by
   intro bs e2 H2 hsl hsb
   rw [← hsl.sets, hX]
   refine WH_sub hsb (HSub.sub sbA) ?_
   refine WH_step2 2 9 dk0 (fun _ h => St.sub h sbA) rf rf ?_ ?_
   ·
    refine WS_gen hF rf (y_callL rf rf Tryz.call72 (fun w hw => cloneN_any a1 c.n p1 c.sz w hn (h1.st w hw))) ?_
    rintro _ Hc ⟨ca, ck, rfl, hc1⟩
    refine WS_nil ?_
    refine WH_pullL Hc (by repeat (first | exact PulL.base | exact PulL.base1 | apply PulL.cons | apply PulL.app)) ?_
    refine WH_pull (b2, CB [.slice a1 c.n p1, .slice a2 c.inn.length p2, .int .i64 c.st] 24) zu ?_
    refine WH_pull (b4, CB [.slice none 0 0, .slice none 0 0, .int .i64 0] 24) zu ?_
    refine WH_pull (bs, CB [.int .i64 n] 3) zu ?_
    exact WH_of hX rf dk0 (J2_4 ca ck Hc bs hc1 _ _ s10 (HSub.sub (by repeat (first | exact List.nil_sublist _ | exact List.Sublist.refl _ | exact List.sublist_append_left _ _ | apply List.Sublist.cons_cons | apply List.Sublist.append_left))))
   ·
    refine WS_newS hF rf (y_buildSliceL bs22_1_0 rf) (fun bt => ?_)
    refine WS_nil ?_
    refine WH_pull (b2, CB [.slice a1 c.n p1, .slice a2 c.inn.length p2, .int .i64 c.st] 24) zu ?_
    refine WH_pull (b4, CB [.slice none 0 0, .slice none 0 0, .int .i64 0] 24) zu ?_
    refine WH_pull (bt, CB [.int .i64 0] 3) zu ?_
    refine WH_pull (bs, CB [.int .i64 n] 3) zu ?_
    exact WH_of hX rf dk0 (J4_9 bs bt _ _ s10 (HSub.sub (by repeat (first | exact List.nil_sublist _ | exact List.Sublist.refl _ | exact List.sublist_append_left _ _ | apply List.Sublist.cons_cons | apply List.Sublist.append_left))))
  have J9 : ∀ (bt : Nat) (e2 : Env) (H2 : List Blk), Slots e2 [(2, .pointer (some ⟨b2, 0, none⟩)), (4, .pointer (some ⟨b4, 0, none⟩)), (6, .slice a1 c.n p1), (8, .int .i64 n), (12, .slice a2 c.inn.length p2), (17, .int .i64 c.st), (14, .slice (some ⟨bt, 0, none⟩) 1 1)] → HSub H2 ((bt, CB [.int .i64 0] 3) :: (b4, CB [.slice none 0 0, .slice none 0 0, .int .i64 0] 24) :: (b2, CB [.slice a1 c.n p1, .slice a2 c.inn.length p2, .int .i64 c.st] 24) :: []) → X 6 #[true, true, false, true, false, false, true, true, false, true, false, true, true, false] e2 H2 := by
   intro bt e2 H2 hsl hsb
   rw [← hsl.sets, hX]
   refine WH_sub hsb (HSub.sub sbA) ?_
   refine WH_step2 2 4 dk0 (fun _ h => St.sub h sbA) rf rf ?_ ?_
   ·
    refine WS_gen hF rf (y_callL rf rf Tryz.call72 (fun w hw => cloneN_any a1 c.n p1 c.sz w hn (h1.st w hw))) ?_
    rintro _ Hc ⟨ca, ck, rfl, hc1⟩
    refine WS_nil ?_
    refine WH_pullL Hc (by repeat (first | exact PulL.base | exact PulL.base1 | apply PulL.cons | apply PulL.app)) ?_
    refine WH_pull (b2, CB [.slice a1 c.n p1, .slice a2 c.inn.length p2, .int .i64 c.st] 24) zu ?_
    refine WH_pull (b4, CB [.slice none 0 0, .slice none 0 0, .int .i64 0] 24) zu ?_
    refine WH_pull (bt, CB [.int .i64 0] 3) zu ?_
    exact WH_of hX rf dk0 (J2_9 ca ck Hc bt hc1 _ _ s10 (HSub.sub (by repeat (first | exact List.nil_sublist _ | exact List.Sublist.refl _ | exact List.sublist_append_left _ _ | apply List.Sublist.cons_cons | apply List.Sublist.append_left))))
   ·
    refine WS_newS hF rf (y_buildSliceL bs22_1_0 rf) (fun bs => ?_)
    refine WS_nil ?_
    refine WH_pull (b2, CB [.slice a1 c.n p1, .slice a2 c.inn.length p2, .int .i64 c.st] 24) zu ?_
    refine WH_pull (b4, CB [.slice none 0 0, .slice none 0 0, .int .i64 0] 24) zu ?_
    refine WH_pull (bt, CB [.int .i64 0] 3) zu ?_
    refine WH_pull (bs, CB [.int .i64 n] 3) zu ?_
    exact WH_of hX rf dk0 (J4_9 bs bt _ _ s10 (HSub.sub (by repeat (first | exact List.nil_sublist _ | exact List.Sublist.refl _ | exact List.sublist_append_left _ _ | apply List.Sublist.cons_cons | apply List.Sublist.append_left))))
  have J : ∀  (e2 : Env) (H2 : List Blk), Slots e2 [(2, .pointer (some ⟨b2, 0, none⟩)), (4, .pointer (some ⟨b4, 0, none⟩)), (6, .slice a1 c.n p1), (8, .int .i64 n), (12, .slice a2 c.inn.length p2), (17, .int .i64 c.st)] → HSub H2 ((b4, CB [.slice none 0 0, .slice none 0 0, .int .i64 0] 24) :: (b2, CB [.slice a1 c.n p1, .slice a2 c.inn.length p2, .int .i64 c.st] 24) :: []) → X 7 #[true, true, false, true, false, false, true, true, false, false, false, true, true, false] e2 H2 := by
   intro  e2 H2 hsl hsb
   rw [← hsl.sets, hX]
   refine WH_sub hsb (HSub.sub sbA) ?_
   refine WH_step3 2 4 9 dk0 (fun _ h => St.sub h sbA) rf rf rf ?_ ?_ ?_
   ·
    refine WS_gen hF rf (y_callL rf rf Tryz.call72 (fun w hw => cloneN_any a1 c.n p1 c.sz w hn (h1.st w hw))) ?_
    rintro _ Hc ⟨ca, ck, rfl, hc1⟩
    refine WS_nil ?_
    refine WH_pullL Hc (by repeat (first | exact PulL.base | exact PulL.base1 | apply PulL.cons | apply PulL.app)) ?_
    refine WH_pull (b2, CB [.slice a1 c.n p1, .slice a2 c.inn.length p2, .int .i64 c.st] 24) zu ?_
    refine WH_pull (b4, CB [.slice none 0 0, .slice none 0 0, .int .i64 0] 24) zu ?_
    exact WH_of hX rf dk0 (J2 ca ck Hc hc1 _ _ s10 (HSub.sub (by repeat (first | exact List.nil_sublist _ | exact List.Sublist.refl _ | exact List.sublist_append_left _ _ | apply List.Sublist.cons_cons | apply List.Sublist.append_left))))
   ·
    refine WS_newS hF rf (y_buildSliceL bs22_1_0 rf) (fun bs => ?_)
    refine WS_nil ?_
    refine WH_pull (b2, CB [.slice a1 c.n p1, .slice a2 c.inn.length p2, .int .i64 c.st] 24) zu ?_
    refine WH_pull (b4, CB [.slice none 0 0, .slice none 0 0, .int .i64 0] 24) zu ?_
    refine WH_pull (bs, CB [.int .i64 n] 3) zu ?_
    exact WH_of hX rf dk0 (J4 bs _ _ s10 (HSub.sub (by repeat (first | exact List.nil_sublist _ | exact List.Sublist.refl _ | exact List.sublist_append_left _ _ | apply List.Sublist.cons_cons | apply List.Sublist.append_left))))
   ·
    refine WS_newS hF rf (y_buildSliceL bs22_1_0 rf) (fun bt => ?_)
    refine WS_nil ?_
    refine WH_pull (b2, CB [.slice a1 c.n p1, .slice a2 c.inn.length p2, .int .i64 c.st] 24) zu ?_
    refine WH_pull (b4, CB [.slice none 0 0, .slice none 0 0, .int .i64 0] 24) zu ?_
    refine WH_pull (bt, CB [.int .i64 0] 3) zu ?_
    exact WH_of hX rf dk0 (J9 bt _ _ s10 (HSub.sub (by repeat (first | exact List.nil_sublist _ | exact List.Sublist.refl _ | exact List.sublist_append_left _ _ | apply List.Sublist.cons_cons | apply List.Sublist.append_left))))
  rw [hX]
  refine WH_take 0 dk0 rf dk0 dk0 rf (ye_fieldAddr rf fa24_0) ?_
  refine WH_take 1 dk0 rf dk0 dk0 rf (ye_load1 rf Tryz.isAgg22 (Mem.own1 1 rf rf)) ?_
  refine WH_take 3 dk0 rf dk0 dk0 rf (ye_move (c := .int .i64 _) rf) ?_
  refine WH_take 6 dk0 rf dk0 dk0 rf (ye_fieldAddr rf fa24_1) ?_
  refine WH_take 7 dk0 rf dk0 dk0 rf (ye_load1 rf Tryz.isAgg22 (Mem.own1 1 rf rf)) ?_
  refine WH_take 11 dk0 rf dk0 dk0 rf (ye_fieldAddr rf fa24_2) ?_
  refine WH_take 12 dk0 rf dk0 dk0 rf (ye_load1 rf Tryz.isAgg3 (Mem.own1 1 rf rf)) ?_
  refine WH_pull (b2, CB [.slice a1 c.n p1, .slice a2 c.inn.length p2, .int .i64 c.st] 24) zu ?_
  refine WH_pull (b4, CB [.slice none 0 0, .slice none 0 0, .int .i64 0] 24) zu ?_
  exact WH_of hX rf dk0 (J  _ _ s10 (HSub.sub (by repeat (first | exact List.nil_sublist _ | exact List.Sublist.refl _ | exact List.sublist_append_left _ _ | apply List.Sublist.cons_cons | apply List.Sublist.append_left))))
theorem fa152_0 : ∀ b o w, (Instr.fieldAt 152 (.pointer (some ⟨b, o, none⟩)) 0).run Tryz.prog w = .ok (.pointer (some ⟨b, o + 0, none⟩)) w := fun b o w => by kernel_rfl
theorem fa152_1 : ∀ b o w, (Instr.fieldAt 152 (.pointer (some ⟨b, o, none⟩)) 1).run Tryz.prog w = .ok (.pointer (some ⟨b, o + 1, none⟩)) w := fun b o w => by kernel_rfl
def Cn.adE (c : Cn) (n : Int) : Int := if c.okB then if c.n = 3 then 9 else if inB 1 20 [n] then 0 else 2 else 80
def Cn.adC (c : Cn) (n : Int) : Cn := if c.adE n = 0 then c.more n else Cn.zero
def AddCV (c : Cn) (n : Int) (v : Value) (Hn : List Blk) : Prop := ∃ v0, v = .tuple #[v0, .int .i64 (c.adE n)] ∧ TwinC (c.adC n) v0 Hn
theorem AddCV.bad {c : Cn} {n e : Int} (h : c.adE n = e) (he : e ≠ 0) : AddCV c n (.tuple #[.agg #[.slice none 0 0, .slice none 0 0, .int .i64 0], .int .i64 e]) [] := by
 subst h
 refine ⟨_, rfl, ?_⟩
 unfold Cn.adC
 rw [if_neg he]
 exact twinC_zero
theorem AddCV.ok {c : Cn} {n : Int} {v0 : Value} {Hn : List Blk} (h : c.adE n = 0) (hT : TwinC (c.more n) v0 Hn) : AddCV c n (.tuple #[v0, .int .i64 0]) Hn := by
 refine ⟨_, by rw [h], ?_⟩
 unfold Cn.adC
 rw [if_pos h]
 exact hT
theorem Cn.Ok.more {c : Cn} (h : c.Ok) (h3 : c.n ≠ 3) {n : Int} (hn : 1 ≤ n ∧ n ≤ 20) : (c.more n).Ok := by
 have h1 := h.n1
 have h2 := h.n3
 have hs : c.sz.length = c.n := rfl
 have hl := h.len
 refine ⟨by rw [c.more_n]; omega, by rw [c.more_n]; omega, by rw [c.more_m, c.more_n, h.len], h.st0, h.st1, fun k hk => ?_, fun k hk => ?_⟩
 ·rw [c.more_n] at hk
  unfold Cn.s Cn.more
  by_cases hkn : k < c.n
  ·rw [List.getD_eq_getElem?_getD, List.getElem?_append_left om0, ← List.getD_eq_getElem?_getD]
   exact h.s k hkn
  ·obtain rfl : k = c.sz.length := by omega
   simp [List.getD_eq_getElem?_getD]
   exact hn
 ·rw [c.more_n] at hk
  unfold Cn.s Cn.i Cn.more
  by_cases hkn : k < c.n
  ·rw [List.getD_eq_getElem?_getD, List.getElem?_append_left om0, ← List.getD_eq_getElem?_getD, List.getD_eq_getElem?_getD (l := c.sz ++ [n]), List.getElem?_append_left om0, ← List.getD_eq_getElem?_getD]
   exact h.i k hkn
  ·obtain rfl : k = c.sz.length := by omega
   rw [List.getD_eq_getElem?_getD, List.getD_eq_getElem?_getD, show c.sz.length = c.inn.length by omega]
   rw [show c.inn.length = c.sz.length by omega]
   simp [show c.inn.length = c.sz.length by omega]
   omega
structure Hp where
 s : Int
 m : Int
deriving DecidableEq
def Hp.cells (x : Hp) : List Value := [.int .i64 x.s, .int .i64 x.m]
def Hp.z : Hp := ⟨0, 0⟩
theorem hp_len : ∀ x, (Hp.cells x).length = 2 := fun _ => rfl
abbrev Hps (w : World) (a : Option Addr) (n cap : Nat) (xs : List Hp) : Prop := Rws Hp.cells 2 Hp.z w a n cap xs
def hRow (xs : List Hp) : List Value := rowOf Hp.cells (fun k => xs.getD k Hp.z) xs.length
theorem hRow_snoc (xs : List Hp) (y : Hp) : hRow (xs ++ [y]) = hRow xs ++ y.cells := by
 unfold hRow
 rw [List.length_append, List.length_singleton, rowOf_succ]
 congr 1
 ·exact rowOf_congr _ fun k hk => by simp [List.getD_eq_getElem?_getD, List.getElem?_append_left hk]
 ·simp [List.getD_eq_getElem?_getD]
def ordH (a b : Hp) : Int := orL [cmpI a.m b.m, cmpI a.s b.s]
def minH : List Hp → Hp
 | [] => Hp.z
 | x :: l => l.foldl (fun b y => if ordH y b < 0 then y else b) x
theorem minH_snoc {l : List Hp} (x : Hp) (h : l ≠ []) : minH (l ++ [x]) = if ordH x (minH l) < 0 then x else minH l := by
 cases l with
 | nil => exact absurd rfl h
 | cons y l =>
  show List.foldl _ y (l ++ [x]) = _
  rw [List.foldl_append]
  rfl
theorem ordH_any (p q : Hp) (w : World) : Ct Tryz.prog 84 #[.agg p.cells.toArray, .agg q.cells.toArray] w fun v _ => v = .int .i64 (ordH p q) := by
 have hF := wide_wide
 refine Ct_start (args := [_, _]) Tryz.func84 rf Tryz.ntmps84 rf ?_
 refine zR fun ds => ?_
 refine WS_new hF rf (y_box rf) (fun b1 => ?_)
 refine WS_new hF rf (y_box rf) (fun b2 => ?_)
 refine za (.int .i64 _) hF ?_
 refine zO ?_
 refine W_draw0 hF Tryzmixed [] dk0 (fun ds => ?_)
 refine P_det rf (Over_nil (y_fieldAddr rf fa152_1)) ?_
 refine P_det rf (Over_nil (y_load1 rf Tryz.isAgg3 (Mem.own1 1 rf rf))) ?_
 refine P_det rf (Over_nil (y_fieldAddr rf fa152_1)) ?_
 refine P_det rf (Over_nil (y_load1 rf Tryz.isAgg3 (Mem.own1 0 rf rf))) ?_
 refine P_det rf (Over_nil (y_callL rf rf Tryz.call86 (fun w hw => compare_any p.m q.m w))) ?_
 refine P_det rf (Over_nil (y_fieldAddr rf fa152_0)) ?_
 refine P_det rf (Over_nil (y_load1 rf Tryz.isAgg3 (Mem.own1 1 rf rf))) ?_
 refine P_det rf (Over_nil (y_fieldAddr rf fa152_0)) ?_
 refine P_det rf (Over_nil (y_load1 rf Tryz.isAgg3 (Mem.own1 0 rf rf))) ?_
 refine P_det rf (Over_nil (y_callL rf rf Tryz.call86 (fun w hw => compare_any p.s q.s w))) ?_
 refine P_new rf rf (Over_nil (y_buildSliceL bs22_2_0_1 rf)) ?_
 refine P_det rf (Over_in rf (Over_nil (by rintro _ _ ⟨b4, rfl, rfl⟩; exact (y_callL rf rf Tryz.call85 (fun w hw => orL_any _ 2 2 [cmpI p.m q.m, cmpI p.s q.s] w dc (Ints.two 0 rf w hw)))))) ?_
 refine P_det rf (Over_out rf (Over_nil (y_assign (c := .int .i64 _) rf))) ?_
 refine PW_end rf ?_
 refine OverAll_cons (fun w15 l15 => ?_)
 refine OverAll_nil ?_
 rintro ⟨-, h15⟩
 obtain ⟨b3, rfl, rfl⟩ := h15
 refine Then_normal ?_
 refine W_ret ?_
 refine Fin_ret [.int .i64 _] [] Tryz.results84 ⟨by rfl, trivial⟩ HSub.nil ?_
 rfl
theorem minH_any (a : Option Addr) (n cap : Nat) (xs : List Hp) (w : World) (hn0 : 0 < n) (hn : n ≤ 1000000) (hx : Hps w a n cap xs) :
  Ct Tryz.prog 117 #[.slice a n cap, .func (.func 84) #[] #[]] w fun v _ => v = .agg (minH xs).cells.toArray := by
 have hl := hx.len
 obtain ⟨b0, o0, rfl, hc0⟩ := hx.cell 0 hn0
 change At w b0 _ (xs.getD 0 Hp.z).cells at hc0
 have hF := wide_wide
 refine Ct_start (args := [_, _]) Tryz.func117 rf Tryz.ntmps117 rf ?_
 refine zR fun ds => ?_
 refine WS_new hF rf (y_alloc Tryz.zeroValue152 rf) (fun b1 => ?_)
 refine zO ?_
 refine zR fun ds => ?_
 refine zm (.slice _ _ _) hF ?_
 refine zD hF (y_len rf Tryz.runUnderlying149) ?_
 refine zD hF (y_lss rf rf) ?_
 refine zN ?_
 refine W_cond rf (fun c1 => ?_) (fun c1 => ?_)
 ·(simp only [decide_eq_true_eq] at c1; omega)
 ·
  try simp only [qz1, qz2, qz3, qz4, qz5, qz6, qz7, qz8] at c1
  refine W_skip ?_
  refine zS fun ds => ?_
  refine zm (.slice _ _ _) hF ?_
  refine zD hF (y_index (k := 0) rf rf r10 d10 Tryz.runUnderlying149 Tryz.sizeOf152) ?_
  refine zD hF (y_loadN rf Tryz.isAgg152 Tryz.sizeOf152 (zq [.int .i64 _, .int .i64 _]) rf) ?_
  refine WS_new hF rf (y_alloc Tryz.zeroValue152 rf) (fun b2 => ?_)
  refine WS_store hF (i := 0) rf rf Tryz.sizeOf152 rf rf rf d20 ?_
  refine zO ?_
  refine W_seq ?_
  have hm0 : xs.getD 0 Hp.z = minH (xs.take 1) := by
   cases xs with
   | nil => simp at hl; omega
   | cons y l => rfl
  refine W_region_lit (fun ds => ?_)
  refine za (.int .i64 _) hF ?_
  refine zN ?_
  refine W_block ?_
  refine W_loop (γ := Nat × Hp) (fun q => 1 ≤ q.1 ∧ q.1 ≤ n ∧ q.2 = minH (xs.take q.1)) (fun q => [(0, .slice (some ⟨b0, o0, none⟩) n cap), (1, .func (.func 84) #[] #[]), (4, .pointer (some ⟨b1, 0, none⟩)), (5, .pointer (some ⟨b2, 0, none⟩)), (6, .int .i64 (q.1 : Int))]) (fun q => [(b2, CB q.2.cells 152), (b1, CB [.int .i64 0, .int .i64 0] 152)]) (fun q => n - q.1) ((1, xs.getD 0 Hp.z)) ⟨Nat.le_refl _, hn0, hm0⟩ s10 (sbA) ?_
  rintro ⟨k, x⟩ e ⟨hk1, hkn, (hmx : x = minH (xs.take k))⟩
  refine W_seq ?_
  refine zR fun ds => ?_
  refine zm (.int .i64 _) hF ?_
  refine zm (.slice _ _ _) hF ?_
  refine zD hF (y_len rf Tryz.runUnderlying149) ?_
  refine zD hF (y_lss rf rf) ?_
  refine zN ?_
  refine W_cond rf (fun c5 => ?_) (fun c5 => ?_)
  ·
   try simp only [qz1, qz2, qz3, qz4, qz5, qz6, qz7, qz8] at c5
   have hck := hx.at (k := k) om0
   have htk : minH (xs.take (k + 1)) = if ordH (xs.getD k Hp.z) (minH (xs.take k)) < 0 then xs.getD k Hp.z else minH (xs.take k) := by
    have hkl : k < xs.length := by omega
    rw [List.take_add_one, List.getElem?_eq_getElem hkl]
    simp only [Option.toList_some]
    rw [minH_snoc _ (by intro h; have := congrArg List.length h; simp only [List.length_take, List.length_nil] at this; omega)]
    simp [List.getD_eq_getElem?_getD, hkl]
   rw [← hmx] at htk
   refine zU ?_
   refine W_seq ?_
   refine W_block ?_
   refine W_seq ?_
   refine W_draw0 hF Tryzmixed [] dk0 (fun ds => ?_)
   refine P_det rf (Over_nil (y_move (c := _) rf)) ?_
   refine P_det rf (Over_nil (y_move (c := .slice _ _ _) rf)) ?_
   refine P_det rf (Over_nil (y_move (c := .int .i64 _) rf)) ?_
   refine P_det rf (Over_nil (y_index (k := k) rf rf r10 d10 Tryz.runUnderlying149 Tryz.sizeOf152)) ?_
   refine P_det rf (Over_nil (y_loadN rf Tryz.isAgg152 Tryz.sizeOf152 (zq [.int .i64 _, .int .i64 _]) rf)) ?_
   refine P_det rf (Over_nil (y_loadN rf Tryz.isAgg152 Tryz.sizeOf152 (Mem.own (us := [.int .i64 _, .int .i64 _]) 0 rf rf) rf)) ?_
   refine P_det rf (Over_nil (y_callL (first := []) (captured := []) rf rf Tryz.call84 (fun w hw => ordH_any (xs.getD k Hp.z) x w))) ?_
   refine P_det rf (Over_nil (y_lss rf rf)) ?_
   refine PW_end rf ?_
   refine OverAll_nil ?_
   rintro -
   refine Then_normal ?_
   refine W_cond rf (fun c7 => ?_) (fun c7 => ?_)
   ·
    try simp only [qz1, qz2, qz3, qz4, qz5, qz6, qz7, qz8] at c7
    have hm2 : xs.getD k Hp.z = minH (xs.take (k + 1)) := by rw [htk, if_pos c7]
    refine W_region_lit (fun ds => ?_)
    refine zm (.slice _ _ _) hF ?_
    refine zm (.int .i64 _) hF ?_
    refine zD hF (y_index (k := k) rf rf r10 d10 Tryz.runUnderlying149 Tryz.sizeOf152) ?_
    refine zD hF (y_loadN rf Tryz.isAgg152 Tryz.sizeOf152 (zq [.int .i64 _, .int .i64 _]) rf) ?_
    refine WS_store hF (i := 0) rf rf Tryz.sizeOf152 rf rf rf d20 ?_
    refine WS_nil ?_
    refine InB_normal ?_
    refine zT fun ds => ?_
    refine zm (.int .i64 _) hF ?_
    refine zD hF (y_add rf rf ui) ?_
    refine za (.int .i64 _) hF ?_
    refine WS_nil ?_
    exact Loop_next (k + 1, xs.getD k Hp.z) ⟨by omega, by simp only; omega, hm2⟩ s10 sbA (by simp only; omega)
   ·
    try simp only [qz1, qz2, qz3, qz4, qz5, qz6, qz7, qz8] at c7
    have hm2 : x = minH (xs.take (k + 1)) := by rw [htk, if_neg om0]
    refine W_skip ?_
    refine InB_normal ?_
    refine zT fun ds => ?_
    refine zm (.int .i64 _) hF ?_
    refine zD hF (y_add rf rf ui) ?_
    refine za (.int .i64 _) hF ?_
    refine WS_nil ?_
    exact Loop_next (k + 1, x) ⟨by omega, by simp only; omega, hm2⟩ s10 sbA (by simp only; omega)
  ·
   try simp only [qz1, qz2, qz3, qz4, qz5, qz6, qz7, qz8] at c5
   refine W_exit ?_
   refine Then_exit ?_
   refine Loop_exit ?_
   refine InB_same ?_
   refine zS fun ds => ?_
   refine zD hF (y_loadN rf Tryz.isAgg152 Tryz.sizeOf152 (Mem.own (us := [.int .i64 _, .int .i64 _]) 0 rf rf) rf) ?_
   refine WS_store hF (i := 1) rf rf Tryz.sizeOf152 rf rf rf d20 ?_
   refine zN ?_
   refine W_ret ?_
   refine Fin_ret [_] [] Tryz.results117 ⟨lvN rf Tryz.isAgg152 Tryz.sizeOf152 (Mem.own (us := [.int .i64 _, .int .i64 _]) 1 rf rf) rf, trivial⟩ HSub.nil ?_
   obtain rfl : k = n := by omega
   rw [hmx, ← hl, List.take_length]
   rfl
theorem firstH_any (a : Option Addr) (n cap : Nat) (xs : List Hp) (w : World) (hn0 : 0 < n) (hn : n ≤ 1000000) (hx : Hps w a n cap xs) :
  Ct Tryz.prog 83 #[.slice a n cap, .func (.func 84) #[] #[]] w fun v _ => v = .agg (minH xs).cells.toArray := by
 have hF := wide_wide
 refine Ct_start (args := [_, _]) Tryz.func83 rf Tryz.ntmps83 rf ?_
 refine zR fun ds => ?_
 refine WS_new hF rf (y_alloc Tryz.zeroValue152 rf) (fun b1 => ?_)
 refine zP fun ds => ?_
 refine zm (.slice _ _ _) hF ?_
 refine zm (_) hF ?_
 refine zD hF (y_callL rf rf Tryz.call117 (fun w hw => minH_any a n cap xs w hn0 hn (hx.st w hw))) ?_
 refine WS_store hF (i := 0) rf rf Tryz.sizeOf152 rf rf rf d20 ?_
 refine zN ?_
 refine W_ret ?_
 refine Fin_ret [_] [] Tryz.results83 ⟨lvN rf Tryz.isAgg152 Tryz.sizeOf152 (Mem.own (us := [.int .i64 _, .int .i64 _]) 0 rf rf) rf, trivial⟩ HSub.nil ?_
 rfl
theorem bd152_0_1 {x0 : Int} {x1 : Int} : ∀ w, (Instr.build 152 #[(0, .int .i64 x0), (1, .int .i64 x1)]).run Tryz.prog w = .ok (.agg #[.int .i64 x0, .int .i64 x1]) w := fun w => by kernel_rfl
theorem bs149_1_0 {x0_0 : Int} {x0_1 : Int} : ∀ w, (Instr.buildSlice 149 1 #[(0, .agg #[.int .i64 x0_0, .int .i64 x0_1])]).run Tryz.prog w = .ok (.slice (some ⟨w.heap.size, 0, none⟩) 1 1) (w.alloc (CB [.int .i64 x0_0, .int .i64 x0_1] 152)) := fun w => by kernel_rfl
noncomputable def Cn.hk (c : Cn) (n s : Int) : Option Wy := (c.more s).few ((c.more s).someP n)
noncomputable def Cn.hpL (c : Cn) (n : Int) : Nat → List Hp
 | 0 => []
 | k + 1 => if (k : Int) + 1 = n then c.hpL n k else match c.hk n ((k : Int) + 1) with
  | none => c.hpL n k
  | some w => c.hpL n k ++ [⟨(k : Int) + 1, (w.l.length : Int)⟩]
theorem Cn.hpL_skip {c : Cn} {n : Int} {k : Nat} (h : (k : Int) + 1 = n) : c.hpL n (k + 1) = c.hpL n k := by
 rw [Cn.hpL, if_pos h]
theorem Cn.hpL_none {c : Cn} {n : Int} {k : Nat} (h : c.hk n ((k : Int) + 1) = none) : c.hpL n (k + 1) = c.hpL n k := by
 rw [Cn.hpL, h]
 split <;> rfl
theorem Cn.hpL_some {c : Cn} {n : Int} {k : Nat} {w : Wy} (h0 : ¬ (k : Int) + 1 = n) (h : c.hk n ((k : Int) + 1) = some w) : c.hpL n (k + 1) = c.hpL n k ++ [⟨(k : Int) + 1, (w.l.length : Int)⟩] := by
 rw [Cn.hpL, if_neg h0, h]
theorem Cn.hpL_len (c : Cn) (n : Int) : ∀ k, (c.hpL n k).length ≤ k
 | 0 => Nat.le_refl _
 | k + 1 => by
  have ih := c.hpL_len n k
  unfold Cn.hpL
  split
  ·omega
  ·split
   ·omega
   ·rw [List.length_append, List.length_singleton]; omega
noncomputable def Cn.hpE (c : Cn) (n : Int) : Int := if c.okB then if inB 0 20 [n] then if c.n = 3 then 9 else if c.hpL n 20 = [] then 6 else 0 else 2 else 80
def HlpV (c : Cn) (n : Int) (v : Value) : Prop := v = .tuple #[.int .i64 (if c.hpE n = 0 then (minH (c.hpL n 20)).s else 0), .int .i64 (if c.hpE n = 0 then (minH (c.hpL n 20)).m else 0), .int .i64 (c.hpE n)]
theorem HlpV.bad {c : Cn} {n e : Int} (h : c.hpE n = e) (he : e ≠ 0) : HlpV c n (.tuple #[.int .i64 0, .int .i64 0, .int .i64 e]) := by
 subst h
 unfold HlpV
 rw [if_neg he, if_neg he]
theorem HlpV.ok {c : Cn} {n : Int} (h : c.hpE n = 0) : HlpV c n (.tuple #[.int .i64 (minH (c.hpL n 20)).s, .int .i64 (minH (c.hpL n 20)).m, .int .i64 0]) := by
 unfold HlpV
 rw [if_pos h, if_pos h, h]
theorem infHp : (Tryz.prog.info? 152).map (fun i => (i.zero, i.size, i.bytes)) = some (some (.agg #[.int .i64 0, .int .i64 0]), 2, 16) := by kernel_rfl
theorem help_any (c : Cn) (a1 : Option Addr) (p1 : Nat) (a2 : Option Addr) (p2 : Nat) (n : Int) (w : World) (hG : Gv w) (hn : c.n ≤ 1000000) (hm : c.inn.length ≤ 1000000) (h1 : Ints w a1 c.n p1 c.sz) (h2 : Ints w a2 c.inn.length p2 c.inn) : Ct Tryz.prog 36 #[.agg #[.slice a1 c.n p1, .slice a2 c.inn.length p2, .int .i64 c.st], .int .i64 n] w fun v _ => HlpV c n v := by
 have hF := wide_wide
 refine Ct_start (args := [_, _]) Tryz.func36 rf Tryz.ntmps36 rf ?_
 refine zR fun ds => ?_
 refine WS_new hF rf (y_box rf) (fun b1 => ?_)
 refine za (.int .i64 _) hF ?_
 refine za (.int .i64 _) hF ?_
 refine za (.int .i64 _) hF ?_
 refine zO ?_
 refine zR fun ds => ?_
 refine zD hF (y_loadN rf Tryz.isAgg24 Tryz.sizeOf24 (Mem.own (us := [.slice _ _ _, .slice _ _ _, .int .i64 _]) 0 rf rf) rf) ?_
 refine zD hF (y_callL rf rf Tryz.call47 (fun w hw => ccheck_any c a1 p1 a2 p2 w (hG.st w hw) hn hm (h1.st w hw) (h2.st w hw))) ?_
 refine za (.int .i64 _) hF ?_
 refine zP fun ds => ?_
 refine zm (.int .i64 _) hF ?_
 refine zD hF (y_neq rf rf) ?_
 refine zN ?_
 refine W_cond rf (fun c2 => ?_) (fun c2 => ?_)
 ·
  try simp only [qz1, qz2, qz3, qz4, qz5, qz6, qz7, qz8] at c2
  refine zR fun ds => ?_
  refine zm (.int .i64 _) hF ?_
  refine za (.int .i64 _) hF ?_
  refine za (.int .i64 _) hF ?_
  refine za (.int .i64 _) hF ?_
  refine zN ?_
  refine W_ret ?_
  refine Then_ret ?_
  refine Fin_ret [.int .i64 _, .int .i64 _, .int .i64 _] [] Tryz.results36 ⟨by rfl, by rfl, by rfl, trivial⟩ HSub.nil ?_
  obtain ⟨h3, h4⟩ := Cn.err_no c2
  rw [h4]
  exact HlpV.bad (by unfold Cn.hpE; rw [h3]; rfl) dc
 ·
  try simp only [qz1, qz2, qz3, qz4, qz5, qz6, qz7, qz8] at c2
  have hokB := Cn.err_iff.1 c2
  have hok := Cn.ok_iff.1 hokB
  refine zU ?_
  refine W_seq ?_
  refine W_block ?_
  refine zR fun ds => ?_
  refine zm (.int .i64 _) hF ?_
  refine WS_newS hF rf (y_buildSliceL bs22_1_0 rf) (fun b2 => ?_)
  refine zD hF (y_callL rf rf Tryz.call52 (fun w hw => cin_any _ _ _ _ _ _ w dc (by first | exact Ints.one 0 rfl w hw | exact Ints.two 0 rfl w hw))) ?_
  refine zD hF (y_not rf) ?_
  refine za (.bool _) hF ?_
  refine zN ?_
  refine W_cond rf (fun c4 => ?_) (fun c4 => ?_)
  ·
   try simp only [qz1, qz2, qz3, qz4, qz5, qz6, qz7, qz8] at c4
   refine zR fun ds => ?_
   refine za (.int .i64 _) hF ?_
   refine za (.int .i64 _) hF ?_
   refine za (.int .i64 _) hF ?_
   refine zN ?_
   refine W_ret ?_
   refine InB_ret ?_
   refine Then_ret ?_
   refine Fin_ret [.int .i64 _, .int .i64 _, .int .i64 _] [] Tryz.results36 ⟨by rfl, by rfl, by rfl, trivial⟩ HSub.nil ?_
   exact HlpV.bad (by unfold Cn.hpE; rw [hokB, if_pos rfl, c4]; rfl) dc
  ·
   try simp only [qz1, qz2, qz3, qz4, qz5, qz6, qz7, qz8] at c4
   refine zR fun ds => ?_
   refine zD hF (y_fieldAddr rf fa24_0) ?_
   refine zD hF (y_load1 rf Tryz.isAgg22 (Mem.own1 1 rf rf)) ?_
   refine zD hF (y_len rf Tryz.runUnderlying22) ?_
   refine zD hF (y_eql rf rf) ?_
   refine za (.bool _) hF ?_
   refine zN ?_
   refine W_cond rf (fun c6 => ?_) (fun c6 => ?_)
   ·
    try simp only [qz1, qz2, qz3, qz4, qz5, qz6, qz7, qz8] at c6
    refine zR fun ds => ?_
    refine za (.int .i64 _) hF ?_
    refine za (.int .i64 _) hF ?_
    refine za (.int .i64 _) hF ?_
    refine zN ?_
    refine W_ret ?_
    refine InB_ret ?_
    refine Then_ret ?_
    refine Fin_ret [.int .i64 _, .int .i64 _, .int .i64 _] [] Tryz.results36 ⟨by rfl, by rfl, by rfl, trivial⟩ HSub.nil ?_
    exact HlpV.bad (by unfold Cn.hpE; rw [hokB, if_pos rfl, c4, if_pos rfl, if_pos om0]) dc
   ·
    try simp only [qz1, qz2, qz3, qz4, qz5, qz6, qz7, qz8] at c6
    refine W_skip ?_
    refine InB_normal ?_
    refine zS fun ds => ?_
    refine za (.slice _ _ _) hF ?_
    refine zO ?_
    refine zR fun ds => ?_
    refine zm (.int .i64 _) hF ?_
    refine zN ?_
    refine W_block ?_
    refine W_loop (γ := Nat × Option Addr × Nat × List Blk) (fun q => q.1 ≤ 20 ∧ NewRow 152 2 (c.hpL n q.1).length (hRow (c.hpL n q.1)) (.slice q.2.1 (c.hpL n q.1).length q.2.2.1) q.2.2.2) (fun q => [(1, .int .i64 n), (2, .pointer (some ⟨b1, 0, none⟩)), (8, .slice q.2.1 (c.hpL n q.1).length q.2.2.1), (29, .int .i64 (q.1 : Int))]) (fun q => (b1, CB [.slice a1 c.n p1, .slice a2 c.inn.length p2, .int .i64 c.st] 24) :: q.2.2.2) (fun q => 20 - q.1) ((0, none, 0, [])) ⟨Nat.zero_le _, ⟨none, 0, rfl, Nat.le_refl _, .inr ⟨rfl, rfl, rfl⟩⟩⟩ s10 (sbA) ?_
    rintro ⟨k, a, cap, Hr⟩ e ⟨(hk : k ≤ 20), (hrow : NewRow 152 2 (c.hpL n k).length (hRow (c.hpL n k)) (.slice a (c.hpL n k).length cap) Hr)⟩
    refine zR fun ds => ?_
    refine zD hF (y_lss rf rf) ?_
    refine zO ?_
    refine W_cond rf (fun c10 => ?_) (fun c10 => ?_)
    ·
     try simp only [qz1, qz2, qz3, qz4, qz5, qz6, qz7, qz8] at c10
     have hk20 : k < 20 := by omega
     have hll := c.hpL_len n k
     have h1n := hok.n1
     have h3n := hok.n3
     refine zU ?_
     refine W_seq ?_
     refine W_block ?_
     refine zR fun ds => ?_
     refine zm (.int .i64 _) hF ?_
     refine za (.int .i64 _) hF ?_
     refine zO ?_
     refine zR fun ds => ?_
     refine zm (.int .i64 _) hF ?_
     refine zD hF (y_add rf rf ui) ?_
     refine zm (.int .i64 _) hF ?_
     refine zD hF (y_eql rf rf) ?_
     refine zN ?_
     refine W_cond rf (fun c12 => ?_) (fun c12 => ?_)
     ·
      try simp only [qz1, qz2, qz3, qz4, qz5, qz6, qz7, qz8] at c12
      have hL : c.hpL n (k + 1) = c.hpL n k := Cn.hpL_skip c12
      refine W_exit ?_
      refine Then_exit ?_
      refine InB_same ?_
      refine zT fun ds => ?_
      refine zD hF (y_add rf rf ui) ?_
      refine zm (.int .i64 _) hF ?_
      refine WS_nil ?_
      exact Loop_next (k + 1, a, cap, Hr) ⟨by omega, by simp only [hL]; exact hrow⟩ (by simp only [hL]; repeat (first | exact trivial | refine ⟨by rfl, ?_⟩)) sbA (by simp only; omega)
     ·
      try simp only [qz1, qz2, qz3, qz4, qz5, qz6, qz7, qz8] at c12
      have hokm : (c.more ((k : Int) + 1)).Ok := hok.more om0 om0
      have hnm : (c.more ((k : Int) + 1)).n ≤ 1000000 := by rw [c.more_n]; omega
      have hmm : (c.more ((k : Int) + 1)).inn.length ≤ 1000000 := by rw [c.more_m]; have := hok.len; omega
      refine W_skip ?_
      refine zS fun ds => ?_
      refine zD hF (y_loadN rf Tryz.isAgg24 Tryz.sizeOf24 (Mem.own (us := [.slice _ _ _, .slice _ _ _, .int .i64 _]) 0 rf rf) rf) ?_
      refine zm (.int .i64 _) hF ?_
      refine zD hF (y_add rf rf ui) ?_
      refine WS_gen hF rf (y_callL rf rf Tryz.call82 (fun w hw => cwith_any c a1 p1 a2 p2 ((k : Int) + 1) w hn hm (h1.st w hw) (h2.st w hw))) ?_
      rintro _ _ ⟨z1, q1, z2, q2, K1, K2, rfl, hr1, hr2, rfl⟩
      refine WS_back ?_
      refine zD hF (y_buildL bd92_0 rf) ?_
      refine WS_new hF rf (y_alloc Tryz.zeroValue92 rf) (fun b10 => ?_)
      refine WS_store hF (i := 0) rf rf Tryz.sizeOf92 rf rf rf d20 ?_
      refine zO ?_
      refine W_tailH 11 Tryzmixed (fun e2 H2 => ∃ (fx : Wl) (fb : Bool) (b11 : Nat), (fb = true → c.hk n ((k : Int) + 1) = some fx.w) ∧ (fb = false → c.hk n ((k : Int) + 1) = none) ∧ Slots e2 [(1, .int .i64 n), (2, .pointer (some ⟨b1, 0, none⟩)), (8, .slice a (c.hpL n k).length cap), (9, .int .i64 (k : Int)), (29, .int .i64 (k : Int)), (11, .pointer (some ⟨b11, 0, none⟩)), (49, .bool fb)] ∧ HSub H2 ((b11, CB fx.cells 118) :: (b1, CB [.slice a1 c.n p1, .slice a2 c.inn.length p2, .int .i64 c.st] 24) :: Hr)) dk0 (fun ds e2 H2 hmid => ?_) (fun ds => ?_)
      ·
       obtain ⟨fx, fb, b11, hfy, hfn, hsl, hsb⟩ := hmid
       rw [← hsl.sets]
       refine WS_sub hsb ?_
       refine za (.bool _) hF ?_
       refine zP fun ds => ?_
       refine zm (.bool _) hF ?_
       refine zN ?_
       refine W_cond rf (fun c15 => ?_) (fun c15 => ?_)
       ·
        try simp only [qz1, qz2, qz3, qz4, qz5, qz6, qz7, qz8] at c15
        have hL : c.hpL n (k + 1) = c.hpL n k ++ [⟨(k : Int) + 1, (fx.w.l.length : Int)⟩] := Cn.hpL_some c12 (hfy c15)
        refine W_region_lit (fun ds => ?_)
        refine zm (.slice _ _ _) hF ?_
        refine zm (.int .i64 _) hF ?_
        refine zD hF (y_add rf rf ui) ?_
        refine zD hF (y_fieldAddr rf fa118_0) ?_
        refine zD hF (y_load1 rf Tryz.isAgg35 (Mem.own1 0 rf rf)) ?_
        refine zD hF (y_len rf Tryz.runUnderlying35) ?_
        refine zD hF (y_buildL bd152_0_1 rf) ?_
        refine WS_newS hF rf (y_buildSliceL bs149_1_0 rf) (fun b3 => ?_)
        refine WS_appendN hF (H1 := (_ :: _ :: _ :: [])) (Hn := Hr) (news := Hp.cells ⟨(k : Int) + 1, (fx.w.l.length : Int)⟩) rf rf rf Tryz.underlying149 infHp rf rf hrow (rowOf_len hp_len _ _) (.inr ⟨_, _, rfl, Mem.own (us := [.int _ _, .int _ _]) 0 rf rf⟩) rf rf om0 om0 om0 ?_
        intro a3 cap3 H3 hr3
        have hrow3 : NewRow 152 2 (c.hpL n (k + 1)).length (hRow (c.hpL n (k + 1))) (.slice a3 (c.hpL n (k + 1)).length cap3) H3 := by rw [hL, hRow_snoc, List.length_append]; exact hr3
        refine za (.slice _ _ _) hF ?_
        refine WS_nil ?_
        refine InB_normal ?_
        refine zT fun ds => ?_
        refine zD hF (y_add rf rf ui) ?_
        refine zm (.int .i64 _) hF ?_
        refine WS_nil ?_
        exact Loop_next (k + 1, a3, cap3, H3) ⟨by omega, hrow3⟩ (by simp only [hL, List.length_append, List.length_singleton]; repeat (first | exact trivial | refine ⟨by rfl, ?_⟩)) sbA (by simp only; omega)
       ·
        try simp only [qz1, qz2, qz3, qz4, qz5, qz6, qz7, qz8] at c15
        have hL : c.hpL n (k + 1) = c.hpL n k := Cn.hpL_none (hfn c15)
        refine W_skip ?_
        refine InB_normal ?_
        refine zT fun ds => ?_
        refine zD hF (y_add rf rf ui) ?_
        refine zm (.int .i64 _) hF ?_
        refine WS_nil ?_
        exact Loop_next (k + 1, a, cap, Hr) ⟨by omega, by simp only [hL]; exact hrow⟩ (by simp only [hL]; repeat (first | exact trivial | refine ⟨by rfl, ?_⟩)) sbA (by simp only; omega)
      ·
       refine WH_take 0 dk0 rf dk0 dk0 rf (ye_loadN rf Tryz.isAgg92 Tryz.sizeOf92 (Mem.own (us := [.slice _ _ _, .slice _ _ _, .int .i64 _]) 0 rf rf) rf) ?_
       refine WH_take 2 dk0 rf dk0 dk0 rf (ye_loadN rf Tryz.isAgg92 Tryz.sizeOf92 (Mem.own (us := [.slice _ _ _, .slice _ _ _, .int .i64 _]) 0 rf rf) rf) ?_
       refine WH_take 3 dk0 rf dk0 dk0 rf (ye_move (c := .int .i64 _) rf) ?_
       refine WH_step2 1 9 dk0 (fun _ h => St.sub h sbA) rf rf ?_ ?_
       ·
        refine WS_gen hF rf (y_callL rf rf Tryz.call50 (fun w hw => ways_any (c.more ((k : Int) + 1)) z1 q1 z2 q2 w hokm hnm hmm (NewRow.ints hr1 rfl sbA w hw) (NewRow.ints hr2 rfl sbA w hw))) ?_
        rintro _ _ ⟨mk, lE, ck, HX, rfl, rfl, hg, hT⟩
        refine WS_nil ?_
        refine WH_step2 4 9 dk0 (fun _ h => St.sub h sbA) rf rf ?_ ?_
        ·
         refine WS_gen hF rf (y_callL rf rf Tryz.call54 (fun w hw => some_any (c.more ((k : Int) + 1)) z1 q1 z2 q2 n w)) ?_
         rintro _ _ ⟨bb, bp, rfl, rfl⟩
         refine WS_nil ?_
         refine WH_step2 5 9 dk0 (fun _ h => St.sub h sbA) rf rf ?_ ?_
         ·
          refine WS_pull (bp, _) zu ?_
          refine WS_pull (bb, _) zu ?_
          refine WS_pull (mk, _) zu ?_
          refine WS_callS hF rf rf rf Tryz.call66 (fewest_cs _ _ _ mk ck lE (c.more ((k : Int) + 1)) _ 100 [] [_, _] ((c.more ((k : Int) + 1)).someP n) hg (hT.mono sbA) [(bb, CB [.slice z1 (c.more ((k : Int) + 1)).n q1, .slice z2 (c.more ((k : Int) + 1)).inn.length q2, .int .i64 (c.more ((k : Int) + 1)).st] 92), (bp, CB [.int .i64 n] 3)] ⟨Tryz.call100, fun x hx C H w' hC hs hw => some1_any (c.more ((k : Int) + 1)) z1 q1 z2 q2 x n bb bp w' hokm (Mem.own (us := [.slice z1 (c.more ((k : Int) + 1)).n q1, .slice z2 (c.more ((k : Int) + 1)).inn.length q2, .int .i64 (c.more ((k : Int) + 1)).st]) 0 rf rf w' (St.sub hw hs)) (Mem.own1 1 rf rf w' (St.sub hw hs))⟩ sbA hokm) ?_
          rintro _ _ ⟨fx, fb, rfl, hfv, rfl⟩
          have hfy : fb = true → c.hk n ((k : Int) + 1) = some fx.w := hfv.yes'
          have hfn : fb = false → c.hk n ((k : Int) + 1) = none := fun h => (hfv.no' h).2
          refine WS_nil ?_
          refine WH_take 6 dk0 rf dk0 dk0 rf (ye_move (c := .tuple _) rf) ?_
          refine WH_take 7 dk0 rf dk0 dk0 rf (ye_extract (c := .agg _) rf rf) ?_
          refine WH_take 8 dk0 rf dk0 dk0 rf (ye_extract (c := .bool _) rf rf) ?_
          refine WH_step1 9 dk0 (fun _ h => St.sub h sbA) rf ?_
          ·
           refine WS_new hF rf (y_alloc Tryz.zeroValue118 rf) (fun b11 => ?_)
           refine WS_nil ?_
           refine WH_step1 10 dk0 (fun _ h => St.sub h sbA) rf ?_
           ·
            refine WS_pull (b11, _) zu ?_
            refine WS_store hF (i := 0) rf rf Tryz.sizeOf118 rf rf rf d20 ?_
            refine WS_nil ?_
            refine WH_done dk0 (fun _ h => St.sub h sbA) ?_
            exact ⟨fx, fb, _, hfy, hfn, s30, HSub.sub sbA⟩
         ·
          refine WS_new hF rf (y_alloc Tryz.zeroValue118 rf) (fun b11 => ?_)
          refine WS_nil ?_
          refine WH_step1 5 dk0 (fun _ h => St.sub h sbA) rf ?_
          ·
           refine WS_pull (bp, _) zu ?_
           refine WS_pull (bb, _) zu ?_
           refine WS_pull (mk, _) zu ?_
           refine WS_callS hF rf rf rf Tryz.call66 (fewest_cs _ _ _ mk ck lE (c.more ((k : Int) + 1)) _ 100 [] [_, _] ((c.more ((k : Int) + 1)).someP n) hg (hT.mono sbA) [(bb, CB [.slice z1 (c.more ((k : Int) + 1)).n q1, .slice z2 (c.more ((k : Int) + 1)).inn.length q2, .int .i64 (c.more ((k : Int) + 1)).st] 92), (bp, CB [.int .i64 n] 3)] ⟨Tryz.call100, fun x hx C H w' hC hs hw => some1_any (c.more ((k : Int) + 1)) z1 q1 z2 q2 x n bb bp w' hokm (Mem.own (us := [.slice z1 (c.more ((k : Int) + 1)).n q1, .slice z2 (c.more ((k : Int) + 1)).inn.length q2, .int .i64 (c.more ((k : Int) + 1)).st]) 0 rf rf w' (St.sub hw hs)) (Mem.own1 1 rf rf w' (St.sub hw hs))⟩ sbA hokm) ?_
           rintro _ _ ⟨fx, fb, rfl, hfv, rfl⟩
           have hfy : fb = true → c.hk n ((k : Int) + 1) = some fx.w := hfv.yes'
           have hfn : fb = false → c.hk n ((k : Int) + 1) = none := fun h => (hfv.no' h).2
           refine WS_nil ?_
           refine WH_take 6 dk0 rf dk0 dk0 rf (ye_move (c := .tuple _) rf) ?_
           refine WH_take 7 dk0 rf dk0 dk0 rf (ye_extract (c := .agg _) rf rf) ?_
           refine WH_take 8 dk0 rf dk0 dk0 rf (ye_extract (c := .bool _) rf rf) ?_
           refine WH_step1 10 dk0 (fun _ h => St.sub h sbA) rf ?_
           ·
            refine WS_pull (b11, _) zu ?_
            refine WS_store hF (i := 0) rf rf Tryz.sizeOf118 rf rf rf d20 ?_
            refine WS_nil ?_
            refine WH_done dk0 (fun _ h => St.sub h sbA) ?_
            exact ⟨fx, fb, _, hfy, hfn, s30, HSub.sub sbA⟩
        ·
         refine WS_new hF rf (y_alloc Tryz.zeroValue118 rf) (fun b11 => ?_)
         refine WS_nil ?_
         refine WH_step1 4 dk0 (fun _ h => St.sub h sbA) rf ?_
         ·
          refine WS_gen hF rf (y_callL rf rf Tryz.call54 (fun w hw => some_any (c.more ((k : Int) + 1)) z1 q1 z2 q2 n w)) ?_
          rintro _ _ ⟨bb, bp, rfl, rfl⟩
          refine WS_nil ?_
          refine WH_step1 5 dk0 (fun _ h => St.sub h sbA) rf ?_
          ·
           refine WS_pull (bp, _) zu ?_
           refine WS_pull (bb, _) zu ?_
           refine WS_pull (mk, _) zu ?_
           refine WS_callS hF rf rf rf Tryz.call66 (fewest_cs _ _ _ mk ck lE (c.more ((k : Int) + 1)) _ 100 [] [_, _] ((c.more ((k : Int) + 1)).someP n) hg (hT.mono sbA) [(bb, CB [.slice z1 (c.more ((k : Int) + 1)).n q1, .slice z2 (c.more ((k : Int) + 1)).inn.length q2, .int .i64 (c.more ((k : Int) + 1)).st] 92), (bp, CB [.int .i64 n] 3)] ⟨Tryz.call100, fun x hx C H w' hC hs hw => some1_any (c.more ((k : Int) + 1)) z1 q1 z2 q2 x n bb bp w' hokm (Mem.own (us := [.slice z1 (c.more ((k : Int) + 1)).n q1, .slice z2 (c.more ((k : Int) + 1)).inn.length q2, .int .i64 (c.more ((k : Int) + 1)).st]) 0 rf rf w' (St.sub hw hs)) (Mem.own1 1 rf rf w' (St.sub hw hs))⟩ sbA hokm) ?_
           rintro _ _ ⟨fx, fb, rfl, hfv, rfl⟩
           have hfy : fb = true → c.hk n ((k : Int) + 1) = some fx.w := hfv.yes'
           have hfn : fb = false → c.hk n ((k : Int) + 1) = none := fun h => (hfv.no' h).2
           refine WS_nil ?_
           refine WH_take 6 dk0 rf dk0 dk0 rf (ye_move (c := .tuple _) rf) ?_
           refine WH_take 7 dk0 rf dk0 dk0 rf (ye_extract (c := .agg _) rf rf) ?_
           refine WH_take 8 dk0 rf dk0 dk0 rf (ye_extract (c := .bool _) rf rf) ?_
           refine WH_step1 10 dk0 (fun _ h => St.sub h sbA) rf ?_
           ·
            refine WS_pull (b11, _) zu ?_
            refine WS_store hF (i := 0) rf rf Tryz.sizeOf118 rf rf rf d20 ?_
            refine WS_nil ?_
            refine WH_done dk0 (fun _ h => St.sub h sbA) ?_
            exact ⟨fx, fb, _, hfy, hfn, s30, HSub.sub sbA⟩
       ·
        refine WS_new hF rf (y_alloc Tryz.zeroValue118 rf) (fun b11 => ?_)
        refine WS_nil ?_
        refine WH_step1 1 dk0 (fun _ h => St.sub h sbA) rf ?_
        ·
         refine WS_gen hF rf (y_callL rf rf Tryz.call50 (fun w hw => ways_any (c.more ((k : Int) + 1)) z1 q1 z2 q2 w hokm hnm hmm (NewRow.ints hr1 rfl sbA w hw) (NewRow.ints hr2 rfl sbA w hw))) ?_
         rintro _ _ ⟨mk, lE, ck, HX, rfl, rfl, hg, hT⟩
         refine WS_nil ?_
         refine WH_step1 4 dk0 (fun _ h => St.sub h sbA) rf ?_
         ·
          refine WS_gen hF rf (y_callL rf rf Tryz.call54 (fun w hw => some_any (c.more ((k : Int) + 1)) z1 q1 z2 q2 n w)) ?_
          rintro _ _ ⟨bb, bp, rfl, rfl⟩
          refine WS_nil ?_
          refine WH_step1 5 dk0 (fun _ h => St.sub h sbA) rf ?_
          ·
           refine WS_pull (bp, _) zu ?_
           refine WS_pull (bb, _) zu ?_
           refine WS_pull (mk, _) zu ?_
           refine WS_callS hF rf rf rf Tryz.call66 (fewest_cs _ _ _ mk ck lE (c.more ((k : Int) + 1)) _ 100 [] [_, _] ((c.more ((k : Int) + 1)).someP n) hg (hT.mono sbA) [(bb, CB [.slice z1 (c.more ((k : Int) + 1)).n q1, .slice z2 (c.more ((k : Int) + 1)).inn.length q2, .int .i64 (c.more ((k : Int) + 1)).st] 92), (bp, CB [.int .i64 n] 3)] ⟨Tryz.call100, fun x hx C H w' hC hs hw => some1_any (c.more ((k : Int) + 1)) z1 q1 z2 q2 x n bb bp w' hokm (Mem.own (us := [.slice z1 (c.more ((k : Int) + 1)).n q1, .slice z2 (c.more ((k : Int) + 1)).inn.length q2, .int .i64 (c.more ((k : Int) + 1)).st]) 0 rf rf w' (St.sub hw hs)) (Mem.own1 1 rf rf w' (St.sub hw hs))⟩ sbA hokm) ?_
           rintro _ _ ⟨fx, fb, rfl, hfv, rfl⟩
           have hfy : fb = true → c.hk n ((k : Int) + 1) = some fx.w := hfv.yes'
           have hfn : fb = false → c.hk n ((k : Int) + 1) = none := fun h => (hfv.no' h).2
           refine WS_nil ?_
           refine WH_take 6 dk0 rf dk0 dk0 rf (ye_move (c := .tuple _) rf) ?_
           refine WH_take 7 dk0 rf dk0 dk0 rf (ye_extract (c := .agg _) rf rf) ?_
           refine WH_take 8 dk0 rf dk0 dk0 rf (ye_extract (c := .bool _) rf rf) ?_
           refine WH_step1 10 dk0 (fun _ h => St.sub h sbA) rf ?_
           ·
            refine WS_pull (b11, _) zu ?_
            refine WS_store hF (i := 0) rf rf Tryz.sizeOf118 rf rf rf d20 ?_
            refine WS_nil ?_
            refine WH_done dk0 (fun _ h => St.sub h sbA) ?_
            exact ⟨fx, fb, _, hfy, hfn, s30, HSub.sub sbA⟩
    ·
     try simp only [qz1, qz2, qz3, qz4, qz5, qz6, qz7, qz8] at c10
     obtain rfl : k = 20 := by omega
     have hll := c.hpL_len n 20
     refine W_exit ?_
     refine Then_exit ?_
     refine Loop_exit ?_
     refine InB_same ?_
     refine Then_normal ?_
     refine W_seq ?_
     refine zR fun ds => ?_
     refine zm (.slice _ _ _) hF ?_
     refine zD hF (y_len rf Tryz.runUnderlying149) ?_
     refine zD hF (y_eql rf rf) ?_
     refine zN ?_
     refine W_cond rf (fun c18 => ?_) (fun c18 => ?_)
     ·
      try simp only [qz1, qz2, qz3, qz4, qz5, qz6, qz7, qz8] at c18
      refine zR fun ds => ?_
      refine za (.int .i64 _) hF ?_
      refine za (.int .i64 _) hF ?_
      refine za (.int .i64 _) hF ?_
      refine zN ?_
      refine W_ret ?_
      refine Then_ret ?_
      refine Fin_ret [.int .i64 _, .int .i64 _, .int .i64 _] [] Tryz.results36 ⟨by rfl, by rfl, by rfl, trivial⟩ HSub.nil ?_
      have h0 : c.hpL n 20 = [] := List.eq_nil_of_length_eq_zero om0
      exact HlpV.bad (by unfold Cn.hpE; rw [hokB, if_pos rfl, c4, if_pos rfl, if_neg om0, if_pos h0]) dc
     ·
      try simp only [qz1, qz2, qz3, qz4, qz5, qz6, qz7, qz8] at c18
      have h0 : c.hpL n 20 ≠ [] := fun h => by rw [h] at c18; exact c18 rfl
      refine W_skip ?_
      refine zS fun ds => ?_
      refine zm (.slice _ _ _) hF ?_
      refine zD hF (y_callL rf rf Tryz.call83 (fun w hw => firstH_any a (c.hpL n 20).length cap (c.hpL n 20) w (by have := List.length_pos_iff.2 h0; omega) om0 (NewRow.rws hp_len hrow rfl sbA w hw))) ?_
      refine WS_new hF rf (y_alloc Tryz.zeroValue152 rf) (fun b4 => ?_)
      refine WS_store hF (i := 0) rf rf Tryz.sizeOf152 rf rf rf d20 ?_
      refine zO ?_
      refine W_draw0 hF Tryzmixed [] dk0 (fun ds => ?_)
      refine P_det rf (Over_nil (y_fieldAddr rf fa152_0)) ?_
      refine P_det rf (Over_nil (y_load1 rf Tryz.isAgg3 (Mem.own1 0 rf rf))) ?_
      refine P_det rf (Over_nil (y_fieldAddr rf fa152_1)) ?_
      refine P_det rf (Over_nil (y_load1 rf Tryz.isAgg3 (Mem.own1 0 rf rf))) ?_
      refine P_det rf (Over_nil (y_assign (c := .int .i64 _) rf)) ?_
      refine P_det rf (Over_nil (y_assign (c := .int .i64 _) rf)) ?_
      refine P_det rf (Over_nil (y_assign (c := .int .i64 _) rf)) ?_
      refine PW_end rf ?_
      refine OverAll_nil ?_
      rintro -
      refine Then_normal ?_
      refine W_ret ?_
      refine Fin_ret [.int .i64 _, .int .i64 _, .int .i64 _] [] Tryz.results36 ⟨by rfl, by rfl, by rfl, trivial⟩ HSub.nil ?_
      exact HlpV.ok (by unfold Cn.hpE; rw [hokB, if_pos rfl, c4, if_pos rfl, if_neg om0, if_neg h0])
def stH (b x : Hp) : Hp := if b.s = 0 ∨ x.m < b.m then x else b
def hpF (l : List Hp) : Hp := l.foldl stH Hp.z
def Cn.IsAll (c : Cn) (L : List Co) : Prop := L.Nodup ∧ ∀ y, y ∈ L ↔ ∃ w, c.Best w y
theorem nodup_len {α : Type} [DecidableEq α] : ∀ {l m : List α}, l.Nodup → m.Nodup → (∀ x, x ∈ l ↔ x ∈ m) → l.length = m.length := by
 have key : ∀ {l m : List α}, l.Nodup → (∀ x ∈ l, x ∈ m) → l.length ≤ m.length := by
  intro l
  induction l with
  | nil => intro m _ _; exact Nat.zero_le _
  | cons x l ih =>
   intro m hl hs
   rw [List.nodup_cons] at hl
   have hxm := hs x List.mem_cons_self
   have h := ih (m := m.erase x) hl.2 fun y hy => by
    have hne : y ≠ x := fun e => hl.1 (e ▸ hy)
    exact (List.mem_erase_of_ne hne).2 (hs y (List.mem_cons_of_mem _ hy))
   rw [List.length_erase_of_mem hxm] at h
   have := List.length_pos_of_mem hxm
   simp only [List.length_cons]
   omega
 intro l m hl hm h
 exact Nat.le_antisymm (key hl fun x hx => (h x).1 hx) (key hm fun x hx => (h x).2 hx)
open Classical in
noncomputable def Cn.many (c : Cn) : Nat := if h : ∃ L, c.IsAll L then h.choose.length else 0
theorem Cn.IsAll.len {c : Cn} {L : List Co} (h : c.IsAll L) : c.many = L.length := by
 unfold Cn.many
 have hx : ∃ L, c.IsAll L := ⟨L, h⟩
 rw [dif_pos hx]
 exact nodup_len hx.choose_spec.1 h.1 fun y => by rw [hx.choose_spec.2, h.2]
theorem Tab.all {c : Cn} {HX : List Blk} {l : List (EntK Co)} {ck : Nat} (hg : GoodM l ck) (hT : Tab HX l c.bestO) : c.IsAll (l.map (·.1)) := by
 refine ⟨hg.keys, fun y => ⟨fun h => ?_, fun ⟨w, h⟩ => ?_⟩⟩
 ·obtain ⟨e, he, rfl⟩ := List.mem_map.1 h
  obtain ⟨x, _, h2, _⟩ := hT.mem hg he
  exact ⟨_, Cn.bestO_iff.1 h2⟩
 ·obtain ⟨e, he, rfl⟩ := hT.has (Cn.bestO_iff.2 h)
  exact List.mem_map.2 ⟨e, he, rfl⟩
noncomputable def Cn.maN (c : Cn) : Int := if c.okB then (c.many : Int) else 0
theorem many_any (c : Cn) (a1 : Option Addr) (p1 : Nat) (a2 : Option Addr) (p2 : Nat) (w : World) (hG : Gv w) (hn : c.n ≤ 1000000) (hm : c.inn.length ≤ 1000000) (h1 : Ints w a1 c.n p1 c.sz) (h2 : Ints w a2 c.inn.length p2 c.inn) : Ct Tryz.prog 16 #[.agg #[.slice a1 c.n p1, .slice a2 c.inn.length p2, .int .i64 c.st]] w fun v _ => v = .tuple #[.int .i64 c.maN, .int .i64 c.err] := by
 have hF := wide_wide
 refine Ct_start (args := [_]) Tryz.func16 rf Tryz.ntmps16 rf ?_
 refine zR fun ds => ?_
 refine WS_new hF rf (y_box rf) (fun b1 => ?_)
 refine za (.int .i64 _) hF ?_
 refine za (.int .i64 _) hF ?_
 refine zO ?_
 refine zR fun ds => ?_
 refine zD hF (y_loadN rf Tryz.isAgg24 Tryz.sizeOf24 (Mem.own (us := [.slice _ _ _, .slice _ _ _, .int .i64 _]) 0 rf rf) rf) ?_
 refine zD hF (y_callL rf rf Tryz.call47 (fun w hw => ccheck_any c a1 p1 a2 p2 w (hG.st w hw) hn hm (h1.st w hw) (h2.st w hw))) ?_
 refine za (.int .i64 _) hF ?_
 refine zP fun ds => ?_
 refine zm (.int .i64 _) hF ?_
 refine zD hF (y_neq rf rf) ?_
 refine zN ?_
 refine W_cond rf (fun c2 => ?_) (fun c2 => ?_)
 ·
  try simp only [qz1, qz2, qz3, qz4, qz5, qz6, qz7, qz8] at c2
  refine zR fun ds => ?_
  refine zm (.int .i64 _) hF ?_
  refine za (.int .i64 _) hF ?_
  refine za (.int .i64 _) hF ?_
  refine zN ?_
  refine W_ret ?_
  refine Then_ret ?_
  refine Fin_ret [.int .i64 _, .int .i64 _] [] Tryz.results16 ⟨by rfl, by rfl, trivial⟩ HSub.nil ?_
  obtain ⟨h3, h4⟩ := Cn.err_no c2
  rw [h4]
  unfold Cn.maN
  rw [h3]
  rfl
 ·
  try simp only [qz1, qz2, qz3, qz4, qz5, qz6, qz7, qz8] at c2
  have hokB := Cn.err_iff.1 c2
  have hok := Cn.ok_iff.1 hokB
  refine W_skip ?_
  refine zS fun ds => ?_
  refine zD hF (y_loadN rf Tryz.isAgg24 Tryz.sizeOf24 (Mem.own (us := [.slice _ _ _, .slice _ _ _, .int .i64 _]) 0 rf rf) rf) ?_
  refine zD hF (y_buildL bd92_0 rf) ?_
  refine WS_gen hF rf (y_callL rf rf Tryz.call50 (fun w hw => ways_any c a1 p1 a2 p2 w hok hn hm (h1.st w hw) (h2.st w hw))) ?_
  rintro _ _ ⟨mk, l, ck, HX, rfl, rfl, hg, hT⟩
  refine zD hF (y_lenK (enc := encC) (i := 0) rf Tryz.underlying94 rf) ?_
  refine za (.int .i64 _) hF ?_
  refine za (.int .i64 _) hF ?_
  refine zN ?_
  refine W_ret ?_
  refine Fin_ret [.int .i64 _, .int .i64 _] [] Tryz.results16 ⟨by rfl, by rfl, trivial⟩ HSub.nil ?_
  rw [c2]
  unfold Cn.maN
  rw [hokB, (Tab.all hg hT).len, List.length_map]
  rfl
def Cn.certB (c : Cn) (xs : List (Co × Wy)) : Bool :=
 xs.any (fun z => decide (z = (c.co, ⟨[], 0⟩))) &&
 (xs.all (fun z => allP.all fun p => !decide (c.pE z.1 p = 0) || xs.any fun u => decide (u.1 = c.stp z.1 p) && !(c.nx z.2 z.1 p).lt u.2) &&
 (xs.all (fun z => decide (c.runO c.co z.2.l = some z.1) && decide (z.2.back = c.bkO c.co z.2.l)) && decide ((xs.map Prod.fst).Nodup)))
def insW (ys : List (Co × Wy)) (y : Co) (v : Wy) : List (Co × Wy) :=
 if ys.any (fun z => decide (z.1 = y)) then ys.map (fun z => if z.1 = y ∧ v.lt z.2 = true then (y, v) else z) else ys ++ [(y, v)]
def Cn.lev (c : Cn) (known cur : List (Co × Wy)) : List (Co × Wy) :=
 cur.foldl (fun acc z => allP.foldl (fun acc p => if c.pE z.1 p = 0 then (if known.any (fun u => decide (u.1 = c.stp z.1 p)) then acc else insW acc (c.stp z.1 p) (c.nx z.2 z.1 p)) else acc) acc) []
def Cn.bfsN (c : Cn) : Nat → List (Co × Wy) → List (Co × Wy) → List (Co × Wy)
 | 0, k, _ => k
 | n + 1, k, cur => c.bfsN n (k ++ c.lev k cur) (c.lev k cur)
def Cn.bfs (c : Cn) (n : Nat) : List (Co × Wy) := c.bfsN n [(c.co, ⟨[], 0⟩)] [(c.co, ⟨[], 0⟩)]
theorem Cn.cert_way {c : Cn} {xs : List (Co × Wy)} (hn : c.n ≤ 3) (h : c.certB xs = true) : ∀ (m : Nat) (l : List Po), l.length = m → ∀ (b : Int) (y : Co), c.Way ⟨l, b⟩ y → ∃ u, (y, u) ∈ xs ∧ Wy.lt ⟨l, b⟩ u = false := by
 unfold Cn.certB at h
 simp only [Bool.and_eq_true, List.any_eq_true, List.all_eq_true, decide_eq_true_eq, Bool.or_eq_true, Bool.not_eq_true', decide_eq_false_iff_not] at h
 obtain ⟨⟨z0, hz0, rfl⟩, hs, _, _⟩ := h
 intro m
 induction m with
 | zero =>
  intro l hl b y hw
  obtain rfl : l = [] := List.length_eq_zero_iff.1 hl
  have h1 := hw.run
  have h2 := hw.back
  simp only [Cn.runO, Option.some.injEq] at h1
  simp only [Cn.bkO] at h2
  subst h1 h2
  exact ⟨_, hz0, Wy.lt_irrefl _⟩
 | succ m ih =>
  intro l hl b y hw
  obtain ⟨l0, p, rfl⟩ : ∃ l0 p, l = l0 ++ [p] := ⟨l.dropLast, l.getLast (by intro e; subst e; cases hl), (List.dropLast_concat_getLast _).symm⟩
  obtain ⟨x, h1, h2, rfl, rfl⟩ := hw.init
  obtain ⟨u, hu, hlt⟩ := ih l0 (by rw [List.length_append, List.length_singleton] at hl; omega) _ x h1
  rcases hs (x, u) hu p (Cn.pE_all hn h2) with h3 | ⟨z, hz, h3, h4⟩
  ·exact absurd h2 h3
  ·obtain ⟨y', u'⟩ := z
   simp only at h3 h4
   subst h3
   refine ⟨u', hz, ?_⟩
   cases hb : Wy.lt ⟨l0 ++ [p], c.bkO c.co l0 + bk x (c.stp x p)⟩ u' with
   | false => rfl
   | true =>
    cases hu2 : u.lt ⟨l0, c.bkO c.co l0⟩ with
    | false =>
     have e := Wy.tot hu2 hlt
     subst e
     unfold Cn.nx at h4
     rw [hb] at h4; cases h4
    | true =>
     have := Wy.lt_trans (Wy.lt_snoc (p := p) (d := bk x (c.stp x p)) hu2) hb
     unfold Cn.nx at h4
     rw [this] at h4; cases h4
theorem Cn.cert_best {c : Cn} {xs : List (Co × Wy)} (hn : c.n ≤ 3) (h : c.certB xs = true) {w : Wy} {y : Co} : c.Best w y ↔ (y, w) ∈ xs := by
 have hc := Cn.cert_way hn h
 unfold Cn.certB at h
 simp only [Bool.and_eq_true, List.any_eq_true, List.all_eq_true, decide_eq_true_eq, Bool.or_eq_true, Bool.not_eq_true', decide_eq_false_iff_not] at h
 obtain ⟨_, _, hw, hd⟩ := h
 have hu : ∀ u v, (y, u) ∈ xs → (y, v) ∈ xs → u = v := fun u v h1 h2 => by
  have : ∀ {xs : List (Co × Wy)}, (xs.map Prod.fst).Nodup → (y, u) ∈ xs → (y, v) ∈ xs → u = v := by
   intro xs
   induction xs with
   | nil => intro _ h; cases h
   | cons z xs ih =>
    intro hd h1 h2
    rw [List.map_cons, List.nodup_cons] at hd
    rcases List.mem_cons.1 h1 with e1 | h1 <;> rcases List.mem_cons.1 h2 with e2 | h2
    ·rw [← e1] at e2; cases e2; rfl
    ·exact absurd (List.mem_map.2 ⟨_, h2, by rw [← e1]⟩) hd.1
    ·exact absurd (List.mem_map.2 ⟨_, h1, by rw [← e2]⟩) hd.1
    ·exact ih hd.2 h1 h2
  exact this hd h1 h2
 constructor
 ·intro hb
  obtain ⟨u, hm, hlt⟩ := hc _ w.l rfl w.back y hb.way
  obtain ⟨h1, h2⟩ := hw _ hm
  have := hb.least u ⟨h1, h2⟩
  have e : w = u := Wy.tot hlt this
  rw [e]; exact hm
 ·intro hm
  obtain ⟨h1, h2⟩ := hw _ hm
  refine ⟨⟨h1, h2⟩, fun v hv => ?_⟩
  obtain ⟨u, hm2, hlt⟩ := hc _ v.l rfl v.back y hv
  rw [hu w u hm hm2]
  exact hlt
theorem Cn.cert_few {c : Cn} {xs : List (Co × Wy)} (hn : c.n ≤ 3) (h : c.certB xs = true) {p : Co → Bool} {w : Wy} (h1 : xs.any (fun z => decide (z.2 = w) && p z.1) = true) (h2 : xs.all (fun z => !p z.1 || !z.2.lt w) = true) : c.few p = some w := by
 simp only [List.any_eq_true, List.all_eq_true, Bool.and_eq_true, decide_eq_true_eq, Bool.or_eq_true, Bool.not_eq_true'] at h1 h2
 obtain ⟨⟨y, v⟩, hm, rfl, hp⟩ := h1
 refine Cn.few_some ⟨⟨y, hp, (Cn.cert_best hn h).2 hm⟩, fun k v' hk hv => ?_⟩
 rcases h2 (k, v') ((Cn.cert_best hn h).1 hv) with e | e
 ·rw [hk] at e; cases e
 ·exact e
theorem Cn.cert_none {c : Cn} {xs : List (Co × Wy)} (hn : c.n ≤ 3) (h : c.certB xs = true) {p : Co → Bool} (h1 : xs.all (fun z => !p z.1) = true) : c.few p = none := by
 simp only [List.all_eq_true, Bool.not_eq_true'] at h1
 refine Cn.few_none fun k v hk hv => ?_
 have := h1 (k, v) ((Cn.cert_best hn h).1 hv)
 rw [hk] at this; cases this
theorem Cn.cert_many {c : Cn} {xs : List (Co × Wy)} (hn : c.n ≤ 3) (h : c.certB xs = true) : c.many = xs.length := by
 have hb := fun w y => Cn.cert_best (w := w) (y := y) hn h
 unfold Cn.certB at h
 simp only [Bool.and_eq_true, decide_eq_true_eq] at h
 have ha : c.IsAll (xs.map Prod.fst) := ⟨h.2.2.2, fun y => ⟨fun hy => by
  obtain ⟨⟨y', w⟩, hz, rfl⟩ := List.mem_map.1 hy
  exact ⟨w, (hb _ _).2 hz⟩, fun ⟨w, hw⟩ => List.mem_map.2 ⟨_, (hb _ _).1 hw, rfl⟩⟩⟩
 rw [ha.len, List.length_map]
theorem Cn.cert_mk {c : Cn} {xs : List (Co × Wy)} (hn : c.n ≤ 3) (h : c.certB xs = true) {n : Int} : c.mkP n ↔ xs.any (fun z => decide (n ∈ (c.of z.1).inn)) = true := by
 simp only [List.any_eq_true, decide_eq_true_eq]
 constructor
 ·rintro ⟨w, y, hb, hm⟩; exact ⟨(y, w), (Cn.cert_best hn h).1 hb, hm⟩
 ·rintro ⟨⟨y, w⟩, hz, hm⟩; exact ⟨w, y, (Cn.cert_best hn h).2 hz, hm⟩
theorem Cn.cert_made {c : Cn} {xs : List (Co × Wy)} (hn : c.n ≤ 3) (h : c.certB xs = true) : c.madeL = ((List.range 21).map fun (k : Nat) => (k : Int)).filter fun n => xs.any (fun z => decide (n ∈ (c.of z.1).inn)) := by
 unfold Cn.madeL
 refine List.filter_congr fun n _ => ?_
 rw [Bool.eq_iff_iff]
 simp only [decide_eq_true_eq]
 exact Cn.cert_mk hn h
def bench2 (s a b : Int) : Cn := ⟨[a, b], [0, 0], s⟩
theorem cert35 : (bench2 20 3 5).certB ((bench2 20 3 5).bfs 9) = true := by decide +kernel
theorem cert46 : (bench2 20 4 6).certB ((bench2 20 4 6).bfs 9) = true := by decide +kernel
theorem Cn.runO_app (c : Cn) (m : List Po) : ∀ (l : List Po) (x : Co), c.runO x (l ++ m) = (c.runO x l).bind fun y => c.runO y m
 | [], x => by simp [Cn.runO]
 | p :: l, x => by
  simp only [List.cons_append, Cn.runO]
  split
  ·exact Cn.runO_app c m l _
  ·rfl
def Cn.RunOk (c : Cn) (l : List Po) (k : Nat) : Prop := ∀ j, j < k → c.pE (c.runK l j) (l.getD j Po.z) = 0
theorem take_snocD {α : Type} {l : List α} {k : Nat} {d : α} (h : k < l.length) : l.take (k + 1) = l.take k ++ [l.getD k d] := by
 rw [List.take_add_one, List.getElem?_eq_getElem h]
 simp [List.getD_eq_getElem?_getD, h]
theorem Cn.RunOk.runO {c : Cn} {l : List Po} : ∀ {k : Nat}, c.RunOk l k → k ≤ l.length → c.runO c.co (l.take k) = some (c.runK l k) ∧ c.bkO c.co (l.take k) = c.backK l k
 | 0, _, _ => by simp [Cn.runO, Cn.bkO, Cn.runK, Cn.backK]
 | k + 1, h, hk => by
  obtain ⟨h1, h2⟩ := Cn.RunOk.runO (c := c) (l := l) (k := k) (fun j hj => h j om0) om0
  have hp := h k (Nat.lt_succ_self k)
  rw [take_snocD (d := Po.z) om0]
  refine ⟨?_, ?_⟩
  ·rw [c.runO_snoc, h1, Option.bind_some, if_pos hp]; rfl
  ·rw [c.bkO_snoc _ _ _ _ h1, h2]; rfl
theorem Cn.RunOk.way {c : Cn} {l : List Po} {k : Nat} (h : c.RunOk l k) (hk : k ≤ l.length) : c.Way ⟨l.take k, c.backK l k⟩ (c.runK l k) :=
 ⟨(h.runO hk).1, (h.runO hk).2.symm⟩
theorem Cn.runO_ok {c : Cn} {l : List Po} {y : Co} (h : c.runO c.co l = some y) : ∀ k, k ≤ l.length → c.RunOk l k
 | 0, _ => fun j hj => absurd hj (Nat.not_lt_zero _)
 | k + 1, hk => fun j hj => by
  have ih := Cn.runO_ok h k om0
  by_cases hjk : j = k
  ·subst hjk
   have h1 := (ih.runO om0).1
   rw [← List.take_append_drop j l, c.runO_app, h1, Option.bind_some, List.drop_eq_getElem_cons om0] at h
   unfold Cn.runO at h
   split at h
   ·rename_i hp
    rw [List.getD_eq_getElem?_getD, List.getElem?_eq_getElem om0]
    exact hp
   ·cases h
  ·exact ih j om0
theorem Cn.Way.ok {c : Cn} {w : Wy} {y : Co} (h : c.Way w y) : c.RunOk w.l w.l.length ∧ c.runK w.l w.l.length = y ∧ c.backK w.l w.l.length = w.back := by
 have h1 := Cn.runO_ok h.run w.l.length (Nat.le_refl _)
 obtain ⟨h2, h3⟩ := h1.runO (Nat.le_refl _)
 rw [List.take_length] at h2 h3
 have h4 := h.run
 rw [h2] at h4
 exact ⟨h1, Option.some.inj h4, by rw [← h3, h.back]⟩
theorem Cn.few_ex {c : Cn} (hn : c.n ≤ 3) {p : Co → Bool} {v : Wy} {y : Co} (hy : p y = true) (h : c.Way v y) : ∃ w, c.few p = some w ∧ v.lt w = false := by
 obtain ⟨u, hu⟩ := h.best hn
 have hl : ∀ {w : Wy} {z : Co}, c.Best w z → w.l.length ≤ u.l.length → w ∈ (lists u.l.length).map fun l => (⟨l, c.bkO c.co l⟩ : Wy) := fun {w z} hw hle => by
  refine List.mem_map.2 ⟨w.l, mem_lists hle (Cn.runO_all hn hw.way.run), ?_⟩
  have := hw.way.back
  obtain ⟨wl, wb⟩ := w
  simp only at this
  rw [← this]
 obtain ⟨w, hm, ⟨z, hpz, hz⟩, hmin⟩ := exists_min (fun w => ∃ z, p z = true ∧ c.Best w z) Wy.lt (fun w => w.l.length) Wy.lt_irrefl (fun h1 h2 => Wy.lt_trans h1 h2) ((lists u.l.length).map fun l => (⟨l, c.bkO c.co l⟩ : Wy)) ⟨u, hl hu (Nat.le_refl _), y, hy, hu⟩
 have hwu : u.lt w = false := hmin u (hl hu (Nat.le_refl _)) ⟨y, hy, hu⟩
 refine ⟨w, Cn.few_some ⟨⟨z, hpz, hz⟩, fun k v' hk hv => ?_⟩, ?_⟩
 ·by_cases hle : v'.l.length ≤ u.l.length
  ·exact hmin v' (hl hv hle) ⟨k, hk, hv⟩
  ·cases hlt : v'.lt w with
   | false => rfl
   | true =>
    rw [Wy.lt_iff] at hlt
    have h2 : u.lt w = true := Wy.lt_iff.2 (by left; omega)
    rw [hwu] at h2; cases h2
 ·cases hlt : v.lt w with
  | false => rfl
  | true =>
   have h1 := hu.least v h
   cases huv : u.lt v with
   | true => rw [Wy.lt_trans huv hlt] at hwu; cases hwu
   | false =>
    have := Wy.tot huv h1
    subst this
    rw [hlt] at hwu; cases hwu
theorem Cn.few_way {c : Cn} {p : Co → Bool} {w : Wy} (h : c.few p = some w) : ∃ y, p y = true ∧ c.Best w y := (Cn.few_of h).1
end Go.Proofs.YtjekjehgmljbgaaGreatDoor.T
namespace Go.Proofs.YtjekjehgmljbgaaGreatDoor.T
open Go.RowKit Go.Proofs Go.Eng Go.Shelf
set_option maxRecDepth 100000
set_option maxHeartbeats 1000000
theorem bs172_2_0_1 {x0a : Option Addr} {x0l x0c : Nat} {x1a : Option Addr} {x1l x1c : Nat} : ∀ w, (Instr.buildSlice 172 2 #[(0, .slice x0a x0l x0c), (1, .slice x1a x1l x1c)]).run Tryz.prog w = .ok (.slice (some ⟨w.heap.size, 0, none⟩) 2 2) (w.alloc (CB [.slice x0a x0l x0c, .slice x1a x1l x1c] 22)) := fun w => by kernel_rfl
def grR : Go.Shelf.Ren := ⟨fun n => match n with
 | 4 => 102
 | _ => 0, fun n => match n with
 | 0 => 0
 | 3 => 3
 | 4 => 4
 | 9 => 9
 | 20 => 20
 | 22 => 22
 | 25 => 3
 | _ => 0, fun x => x⟩
theorem grL : Lays8.n4 Tryz.prog grR where
 mixed := by kernel_rfl
 f4 := ⟨Tryz.f102.name, by kernel_rfl, (Tryz.func102).trans (congrArg some (by kernel_rfl))⟩
 t0 := by kernel_rfl
 a0 := fun w => by kernel_rfl
 z0 := fun w => by kernel_rfl
 v0 := fun w => by kernel_rfl
 t3 := by kernel_rfl
 a3 := fun w => by kernel_rfl
 z3 := fun w => by kernel_rfl
 v3 := fun w => by kernel_rfl
 t4 := by kernel_rfl
 a4 := fun w => by kernel_rfl
 z4 := fun w => by kernel_rfl
 v4 := fun w => by kernel_rfl
 t9 := by kernel_rfl
 a9 := fun w => by kernel_rfl
 z9 := fun w => by kernel_rfl
 v9 := fun w => by kernel_rfl
 t20 := by kernel_rfl
 a20 := fun w => by kernel_rfl
 z20 := fun w => by kernel_rfl
 v20 := fun w => by kernel_rfl
 t22 := by kernel_rfl
 a22 := fun w => by kernel_rfl
 z22 := fun w => by kernel_rfl
 v22 := fun w => by kernel_rfl
theorem zc_size (n : Nat) : (Builtin.zeroCells (Value.int .i64 0).cells n).size = n := by rw [size_zeroCells]; show n * 1 = n; rw [Nat.mul_one]
theorem grow_any (n : Nat) (w : World) (hn0 : 0 < n) (hn : n ≤ 1000000) : Ct Tryz.prog 102 #[.slice none 0 0, .int .i64 (n : Int)] w fun v Hn => ∃ b cap junk, v = .slice (some ⟨b, 0, none⟩) 0 cap ∧ Hn = [(b, CB junk 3)] ∧ junk.length = cap ∧ n ≤ cap := by
 obtain ⟨i, hi, hz, hsz, hby⟩ := info_parts infInt
 refine Calls.mono (Any8.slices_Grow_grow grL i (.int .i64 0) hi hz om0 none 0 0 n [] w (Nat.le_refl _) om0 (by rw [hby]; omega) om0 (by simp) (fun _ => rfl) (fun a h => by cases h)) ?_
 rintro e w' ⟨rfl, rfl⟩
 have hge := grownCap_ge w (0 + n) 0 3
 change 0 + n ≤ grownCap w (0 + n) 0 (grR.t 25) at hge
 refine ⟨_, rfl, out_new_drew (fun h => by cases h) ⟨w.heap.size, grownCap w (0 + n) 0 (grR.t 25), ((#[] ++ Builtin.zeroCells (Value.int .i64 0).cells (0 + n - 0) ++ Builtin.zeroCells (Value.int .i64 0).cells (grownCap w (0 + n) 0 (grR.t 25) - (0 + n))) : Array Value).toList, rfl, rfl, ?_, by omega⟩⟩
 rw [Array.length_toList, Array.size_append, Array.size_append, zc_size, zc_size]
 simp only [List.size_toArray, List.length_nil]
 omega
def catK (L : Nat → List Int) : Nat → List Int
 | 0 => []
 | k + 1 => catK L k ++ L k
theorem catK_len (L : Nat → List Int) (k : Nat) : (catK L (k + 1)).length = (catK L k).length + (L k).length := List.length_append
theorem catK_bd {L : Nat → List Int} (h : ∀ k, k < 2 → (L k).length ≤ 1000) : ∀ k, k ≤ 2 → (catK L k).length ≤ 1000 * k
 | 0, _ => Nat.le_refl _
 | k + 1, hk => by have := catK_bd h k om0; have := h k om0; rw [catK_len]; omega
theorem concat_any (L : Nat → List Int) (A : Nat → Option Addr) (C : Nat → Nat) (bs : Nat) (w : World) (hb : ∀ k, k < 2 → At w bs (0 + k * 1) [.slice (A k) (L k).length (C k)]) (hI : ∀ k, k < 2 → Ints w (A k) (L k).length (C k) (L k)) (hl : ∀ k, k < 2 → (L k).length ≤ 1000) (h0 : 0 < (catK L 2).length) :
  Ct Tryz.prog 56 #[.slice (some ⟨bs, 0, none⟩) 2 2] w fun v Hn => ∃ a cap, v = .slice a (catK L 2).length cap ∧ Row 3 1 a (catK L 2).length cap (iv (catK L 2)) Hn := by
 have hbd := catK_bd hl
 have h2 := hbd 2 (Nat.le_refl _)
 have hF := wide_wide
 refine Ct_start (args := [_]) Tryz.func56 rf Tryz.ntmps56 rf ?_
 refine zR fun ds => ?_
 refine za (.slice _ _ _) hF ?_
 refine zP fun ds => ?_
 refine za (.int .i64 _) hF ?_
 refine zO ?_
 refine zR fun ds => ?_
 refine zm (.slice _ _ _) hF ?_
 refine zD hF (y_len rf Tryz.runUnderlying172) ?_
 refine zm (.int .i64 _) hF ?_
 refine zN ?_
 refine W_block ?_
 refine W_loop (γ := Nat) (fun k => k ≤ 2) (fun k => [(0, .slice (some ⟨bs, 0, none⟩) 2 2), (3, .int .i64 ((catK L k).length : Int)), (9, .slice (some ⟨bs, 0, none⟩) 2 2), (10, .int .i64 2), (11, .int .i64 (k : Int))]) (fun _ => _) (fun k => 2 - k) (0) (Nat.zero_le _) s10 (List.Sublist.refl _) ?_
 intro k e hk
 refine zR fun ds => ?_
 refine zD hF (y_lss rf rf) ?_
 refine zO ?_
 refine W_cond rf (fun c3 => ?_) (fun c3 => ?_)
 ·
  try simp only [qz1, qz2, qz3, qz4, qz5, qz6, qz7, qz8] at c3
  have hc := hb k om0
  have hbk := hbd k om0
  have hlk := hl k om0
  have hs : ((catK L k).length : Int) + ((L k).length : Int) = ((catK L (k + 1)).length : Int) := by rw [catK_len]; omega
  refine zU ?_
  refine W_seq ?_
  refine W_block ?_
  refine zR fun ds => ?_
  refine zD hF (y_index (k := k) rf rf r10 d10 Tryz.runUnderlying172 Tryz.sizeOf22) ?_
  refine zD hF (y_load1 rf Tryz.isAgg22 zo) ?_
  refine za (.slice _ _ _) hF ?_
  refine zP fun ds => ?_
  refine zm (.int .i64 _) hF ?_
  refine zm (.slice _ _ _) hF ?_
  refine zD hF (y_len rf Tryz.runUnderlying22) ?_
  refine zD hF (y_add rf rf ui) ?_
  refine za (.int .i64 _) hF ?_
  refine zO ?_
  rw [hs]
  refine W_region_lit (fun ds => ?_)
  refine zm (.int .i64 _) hF ?_
  refine zD hF (y_lss rf rf) ?_
  refine zN ?_
  refine W_cond rf (fun c6 => ?_) (fun c6 => ?_)
  ·(simp only [decide_eq_true_eq] at c6; omega)
  ·
   try simp only [qz1, qz2, qz3, qz4, qz5, qz6, qz7, qz8] at c6
   refine W_skip ?_
   refine InB_normal ?_
   refine zT fun ds => ?_
   refine zD hF (y_add rf rf ui) ?_
   refine zm (.int .i64 _) hF ?_
   refine WS_nil ?_
   exact Loop_next (k + 1) om0 s10 s20 om0
 ·
  try simp only [qz1, qz2, qz3, qz4, qz5, qz6, qz7, qz8] at c3
  obtain rfl : k = 2 := by omega
  refine W_exit ?_
  refine Then_exit ?_
  refine Loop_exit ?_
  refine InB_same ?_
  refine zS fun ds => ?_
  refine zm (.int .i64 _) hF ?_
  refine WS_gen hF rf (y_callL rf rf Tryz.call102 (fun w hw => grow_any (catK L 2).length w h0 om0)) ?_
  rintro _ _ ⟨b, gcap, junk, rfl, rfl, hjl, hgc⟩
  have hrow0 : Row 3 1 (some ⟨b, 0, none⟩) 0 gcap (iv (catK L 0)) [(b, CB junk 3)] := .inr ⟨b, junk, rfl, rfl, rfl, by rw [Nat.mul_one]; exact hjl, Nat.zero_le _⟩
  refine za (.slice _ _ _) hF ?_
  refine zO ?_
  refine zR fun ds => ?_
  refine zm (.slice _ _ _) hF ?_
  refine zD hF (y_len rf Tryz.runUnderlying172) ?_
  refine zm (.int .i64 _) hF ?_
  refine zN ?_
  refine W_block ?_
  refine W_loop (γ := Nat × Option Addr × Nat × List Blk) (fun q => q.1 ≤ 2 ∧ Row 3 1 q.2.1 (catK L q.1).length q.2.2.1 (iv (catK L q.1)) q.2.2.2) (fun q => [(6, .slice q.2.1 (catK L q.1).length q.2.2.1), (25, .slice (some ⟨bs, 0, none⟩) 2 2), (26, .int .i64 2), (27, .int .i64 (q.1 : Int))]) (fun q => q.2.2.2) (fun q => 2 - q.1) ((0, some ⟨b, 0, none⟩, gcap, [(b, CB junk 3)])) ⟨Nat.zero_le _, hrow0⟩ s10 (sbA) ?_
  rintro ⟨k, a, cap, Hr⟩ e ⟨(hk : k ≤ 2), (hrow : Row 3 1 a (catK L k).length cap (iv (catK L k)) Hr)⟩
  refine zR fun ds => ?_
  refine zD hF (y_lss rf rf) ?_
  refine zO ?_
  refine W_cond rf (fun c11 => ?_) (fun c11 => ?_)
  ·
   try simp only [qz1, qz2, qz3, qz4, qz5, qz6, qz7, qz8] at c11
   have hc := hb k om0
   have hbk := hbd k om0
   have hlk := hl k om0
   refine zU ?_
   refine W_seq ?_
   refine W_block ?_
   refine zR fun ds => ?_
   refine zD hF (y_index (k := k) rf rf r10 d10 Tryz.runUnderlying172 Tryz.sizeOf22) ?_
   refine zD hF (y_load1 rf Tryz.isAgg22 zo) ?_
   refine za (.slice _ _ _) hF ?_
   refine zQ fun ds => ?_
   refine zm (.slice _ _ _) hF ?_
   refine zm (.slice _ _ _) hF ?_
   refine WS_append hF (news := iv (L k)) (H1 := []) (Hn := Hr) (H2 := []) rf rf rf Tryz.underlying22 infInt rf (by simp) hrow (Ints.src (hI k om0)) (iv_len (L k)) (iv_one _) om0 om0 ?_
   intro a3 cap3 H3 hr3
   rw [← catK_len]
   have hrow3 : Row 3 1 a3 (catK L (k + 1)).length cap3 (iv (catK L (k + 1))) H3 := by
    rw [catK_len]
    show Row _ _ _ _ _ (iv (catK L k ++ L k)) _
    rw [show iv (catK L k ++ L k) = iv (catK L k) ++ iv (L k) from List.map_append]
    exact hr3
   rw [List.nil_append, List.append_nil]
   refine za (.slice _ _ _) hF ?_
   refine WS_nil ?_
   refine InB_normal ?_
   refine zT fun ds => ?_
   refine zD hF (y_add rf rf ui) ?_
   refine zm (.int .i64 _) hF ?_
   refine WS_nil ?_
   exact Loop_next (k + 1, a3, cap3, H3) ⟨by omega, hrow3⟩ s10 sbA (by simp only; omega)
  ·
   try simp only [qz1, qz2, qz3, qz4, qz5, qz6, qz7, qz8] at c11
   obtain rfl : k = 2 := by omega
   refine W_exit ?_
   refine Then_exit ?_
   refine Loop_exit ?_
   refine InB_same ?_
   refine zS fun ds => ?_
   refine zm (.slice _ _ _) hF ?_
   refine za (.slice _ _ _) hF ?_
   refine zN ?_
   refine W_ret ?_
   refine Fin_ret [.slice _ _ _] Hr Tryz.results56 ⟨by rfl, trivial⟩ HSub.refl ?_
   exact ⟨a, cap, rfl, hrow⟩
theorem row_adr {E : TypeId} {sz n cap : Nat} {a : Option Addr} {us : List Value} {Hn : List Blk} (h : Row E sz a n cap us Hn) (hn : 0 < n) : ∃ b, a = some ⟨b, 0, none⟩ := by
 rcases h with ⟨_, h, _⟩ | ⟨b, _, h, _⟩
 ·omega
 ·exact ⟨b, h⟩
def gK (zs : List Int) (k : Nat) : Nat := (zs.take k).foldl (fun g x => Nat.gcd g x.toNat) 0
theorem gK_succ {zs : List Int} {k : Nat} (h : k < zs.length) : gK zs (k + 1) = Nat.gcd (gK zs k) (zs.getD k 0).toNat := by
 unfold gK
 rw [List.take_add_one, List.getElem?_eq_getElem h]
 simp only [Option.toList_some]
 rw [List.foldl_append]
 simp [List.getD_eq_getElem?_getD, h]
def Cn.all (c : Cn) : List Int := c.sz ++ c.inn
def Cn.gc (c : Cn) : Nat := gK c.all c.all.length
def Cn.meN (c : Cn) : Int := if c.okB then (c.gc : Int) else 0
theorem Cn.Ok.all_bd {c : Cn} (h : c.Ok) : c.all.length = c.n + c.n ∧ ∀ k, k < c.all.length → 0 ≤ c.all.getD k 0 ∧ c.all.getD k 0 ≤ 20 := by
 have hs : c.sz.length = c.n := rfl
 have hl := h.len
 refine ⟨by unfold Cn.all; rw [List.length_append]; omega, fun k hk => ?_⟩
 unfold Cn.all at hk ⊢
 rw [List.length_append] at hk
 by_cases hkn : k < c.n
 ·rw [List.getD_eq_getElem?_getD, List.getElem?_append_left om0, ← List.getD_eq_getElem?_getD]
  have := h.s k hkn
  unfold Cn.s at this
  omega
 ·rw [List.getD_eq_getElem?_getD, List.getElem?_append_right om0, ← List.getD_eq_getElem?_getD]
  have h1 := h.i (k - c.sz.length) om0
  have h2 := h.s (k - c.sz.length) om0
  unfold Cn.i at h1
  omega
theorem gK_bd {zs : List Int} (h : ∀ k, k < zs.length → 0 ≤ zs.getD k 0 ∧ zs.getD k 0 ≤ 20) : ∀ k, k ≤ zs.length → gK zs k ≤ 20
 | 0, _ => by unfold gK; simp
 | k + 1, hk => by
  have ih := gK_bd h k om0
  have hx := h k om0
  rw [gK_succ om0]
  by_cases h0 : gK zs k = 0
  ·rw [h0, Nat.gcd_zero_left]; omega
  ·exact Nat.le_trans (Nat.gcd_le_left _ om0) ih
theorem measure_any (c : Cn) (a1 : Option Addr) (p1 : Nat) (a2 : Option Addr) (p2 : Nat) (w : World) (hG : Gv w) (hn : c.n ≤ 1000000) (hm : c.inn.length ≤ 1000000) (h1 : Ints w a1 c.n p1 c.sz) (h2 : Ints w a2 c.inn.length p2 c.inn) : Ct Tryz.prog 21 #[.agg #[.slice a1 c.n p1, .slice a2 c.inn.length p2, .int .i64 c.st]] w fun v _ => v = .tuple #[.int .i64 c.meN, .int .i64 c.err] := by
 have hF := wide_wide
 refine Ct_start (args := [_]) Tryz.func21 rf Tryz.ntmps21 rf ?_
 refine zR fun ds => ?_
 refine WS_new hF rf (y_box rf) (fun b1 => ?_)
 refine za (.int .i64 _) hF ?_
 refine za (.int .i64 _) hF ?_
 refine zO ?_
 refine zR fun ds => ?_
 refine zD hF (y_loadN rf Tryz.isAgg24 Tryz.sizeOf24 (Mem.own (us := [.slice _ _ _, .slice _ _ _, .int .i64 _]) 0 rf rf) rf) ?_
 refine zD hF (y_callL rf rf Tryz.call47 (fun w hw => ccheck_any c a1 p1 a2 p2 w (hG.st w hw) hn hm (h1.st w hw) (h2.st w hw))) ?_
 refine za (.int .i64 _) hF ?_
 refine zP fun ds => ?_
 refine zm (.int .i64 _) hF ?_
 refine zD hF (y_neq rf rf) ?_
 refine zN ?_
 refine W_cond rf (fun c2 => ?_) (fun c2 => ?_)
 ·
  try simp only [qz1, qz2, qz3, qz4, qz5, qz6, qz7, qz8] at c2
  refine zR fun ds => ?_
  refine zm (.int .i64 _) hF ?_
  refine za (.int .i64 _) hF ?_
  refine za (.int .i64 _) hF ?_
  refine zN ?_
  refine W_ret ?_
  refine Then_ret ?_
  refine Fin_ret [.int .i64 _, .int .i64 _] [] Tryz.results21 ⟨by rfl, by rfl, trivial⟩ HSub.nil ?_
  obtain ⟨h3, h4⟩ := Cn.err_no c2
  rw [h4]
  unfold Cn.meN
  rw [h3]
  rfl
 ·
  try simp only [qz1, qz2, qz3, qz4, qz5, qz6, qz7, qz8] at c2
  have hokB := Cn.err_iff.1 c2
  have hok := Cn.ok_iff.1 hokB
  have hn1 := hok.n1
  have hn3 := hok.n3
  have hlen := hok.len
  obtain ⟨hal, habd⟩ := hok.all_bd
  have hgb := gK_bd habd
  have hszl : c.sz.length = c.n := rfl
  have hc2 : catK (fun k => if k = 0 then c.sz else c.inn) 2 = c.all := by show ([] ++ c.sz) ++ c.inn = c.sz ++ c.inn; rw [List.nil_append]
  refine W_skip ?_
  refine zS fun ds => ?_
  refine za (.int .i64 _) hF ?_
  refine zO ?_
  refine zR fun ds => ?_
  refine zD hF (y_fieldAddr rf fa24_0) ?_
  refine zD hF (y_load1 rf Tryz.isAgg22 (Mem.own1 0 rf rf)) ?_
  refine zD hF (y_fieldAddr rf fa24_1) ?_
  refine zD hF (y_load1 rf Tryz.isAgg22 (Mem.own1 0 rf rf)) ?_
  refine WS_newS hF rf (y_buildSliceL bs172_2_0_1 rf) (fun bs => ?_)
  refine WS_gen hF rf (y_callL rf rf Tryz.call56 (fun w hw => concat_any (fun k => if k = 0 then c.sz else c.inn) (fun k => if k = 0 then a1 else a2) (fun k => if k = 0 then p1 else p2) bs w (fun k hk => by obtain rfl | rfl : k = 0 ∨ k = 1 := om0; exact Mem.own (us := [.slice a1 c.n p1]) 0 rf rf w hw; exact Mem.own (us := [.slice a2 c.inn.length p2]) 0 rf rf w hw) (fun k hk => by obtain rfl | rfl : k = 0 ∨ k = 1 := om0; exact h1.st w hw; exact h2.st w hw) (fun k hk => by obtain rfl | rfl : k = 0 ∨ k = 1 := om0; show c.sz.length ≤ 1000; omega; show c.inn.length ≤ 1000; omega) (by rw [hc2, hal]; omega))) ?_
  rw [hc2]
  rintro _ Hr ⟨a, cap, rfl, hrow⟩
  obtain ⟨bR, rfl⟩ := row_adr hrow (by rw [hal]; omega)
  refine zD hF (y_len rf Tryz.runUnderlying22) ?_
  refine zm (.int .i64 _) hF ?_
  refine zN ?_
  refine W_block ?_
  refine W_loop (γ := Nat) (fun k => k ≤ c.all.length) (fun k => [(5, .int .i64 (gK c.all k : Int)), (18, .slice (some ⟨bR, 0, none⟩) c.all.length cap), (19, .int .i64 (c.all.length : Int)), (20, .int .i64 (k : Int))]) (fun k => Hr) (fun k => c.all.length - k) (0) (Nat.zero_le _) s10 (sbA) ?_
  intro k e hk
  refine zR fun ds => ?_
  refine zD hF (y_lss rf rf) ?_
  refine zO ?_
  refine W_cond rf (fun c6 => ?_) (fun c6 => ?_)
  ·
   try simp only [qz1, qz2, qz3, qz4, qz5, qz6, qz7, qz8] at c6
   have hx := habd k om0
   have hgk := hgb k hk
   have hgs := gK_succ (zs := c.all) (k := k) om0
   obtain ⟨zk, hzk⟩ : ∃ zk : Nat, c.all.getD k 0 = (zk : Int) := ⟨(c.all.getD k 0).toNat, by omega⟩
   have hz20 : zk ≤ 20 := by omega
   have hg2 : Nat.gcd (gK c.all k) zk = gK c.all (k + 1) := by rw [hgs, hzk, Int.toNat_natCast]
   refine zU ?_
   refine W_seq ?_
   refine W_block ?_
   refine zR fun ds => ?_
   refine zD hF (y_index (k := k) rf rf r10 d10 Tryz.runUnderlying22 Tryz.sizeOf3) ?_
   refine zD hF (y_load1 (v := .int .i64 (zk : Int)) rf Tryz.isAgg3 (by rw [← hzk]; exact Row.mem hrow rfl sbA om0)) ?_
   refine za (.int .i64 _) hF ?_
   refine zN ?_
   refine W_block ?_
   refine W_loop (γ := Nat × Nat) (fun q => q.1 ≤ 20 ∧ q.2 ≤ 20 ∧ Nat.gcd q.1 q.2 = gK c.all (k + 1)) (fun q => [(5, .int .i64 (q.1 : Int)), (7, .int .i64 (q.2 : Int)), (18, .slice (some ⟨bR, 0, none⟩) c.all.length cap), (19, .int .i64 (c.all.length : Int)), (20, .int .i64 (k : Int))]) (fun q => Hr) (fun q => q.2) ((gK c.all k, zk)) ⟨hgk, hz20, hg2⟩ s10 (sbA) ?_
   rintro ⟨n, x⟩ e ⟨(hn20 : n ≤ 20), (hx20 : x ≤ 20), (hgc : Nat.gcd n x = gK c.all (k + 1))⟩
   refine W_seq ?_
   refine zR fun ds => ?_
   refine zm (.int .i64 _) hF ?_
   refine zD hF (y_gtr rf rf) ?_
   refine zN ?_
   refine W_cond rf (fun c8 => ?_) (fun c8 => ?_)
   ·
    try simp only [qz1, qz2, qz3, qz4, qz5, qz6, qz7, qz8] at c8
    have hx0 : 0 < x := by omega
    have hgn : Nat.gcd x (n % x) = gK c.all (k + 1) := by rw [← hgc, Nat.gcd_comm n x, Nat.gcd_rec x n, Nat.gcd_comm]
    refine zU ?_
    refine W_block ?_
    refine W_draw0 hF Tryzmixed [] dk0 (fun ds => ?_)
    refine P_det rf (Over_nil (y_move (c := .int .i64 _) rf)) ?_
    refine P_det rf (Over_nil (y_move (c := .int .i64 _) rf)) ?_
    refine P_det rf (Over_nil (y_move (c := .int .i64 _) rf)) ?_
    refine P_det rf (Over_nil (y_rem rf rf om0 om0)) ?_
    refine P_det rf (Over_nil (y_assign (c := .int .i64 _) rf)) ?_
    refine P_det rf (Over_nil (y_assign (c := .int .i64 _) rf)) ?_
    refine PW_end rf ?_
    refine OverAll_nil ?_
    rintro -
    refine InB_normal ?_
    exact Loop_next (x, n % x) ⟨hx20, Nat.le_trans (Nat.le_of_lt (Nat.mod_lt n hx0)) hx20, hgn⟩ s10 sbA (by simp only; exact Nat.mod_lt n hx0)
   ·
    try simp only [qz1, qz2, qz3, qz4, qz5, qz6, qz7, qz8] at c8
    obtain rfl : n = gK c.all (k + 1) := by rw [← hgc, show x = 0 by omega, Nat.gcd_zero_right]
    refine W_exit ?_
    refine Then_exit ?_
    refine Loop_exit ?_
    refine InB_same ?_
    refine InB_normal ?_
    refine zT fun ds => ?_
    refine zD hF (y_add rf rf ui) ?_
    refine zm (.int .i64 _) hF ?_
    refine WS_nil ?_
    exact Loop_next (k + 1) om0 s10 sbA om0
  ·
   try simp only [qz1, qz2, qz3, qz4, qz5, qz6, qz7, qz8] at c6
   obtain rfl : k = c.all.length := by omega
   refine W_exit ?_
   refine Then_exit ?_
   refine Loop_exit ?_
   refine InB_same ?_
   refine zS fun ds => ?_
   refine zm (.int .i64 _) hF ?_
   refine za (.int .i64 _) hF ?_
   refine za (.int .i64 _) hF ?_
   refine zN ?_
   refine W_ret ?_
   refine Fin_ret [.int .i64 _, .int .i64 _] [] Tryz.results21 ⟨by rfl, by rfl, trivial⟩ HSub.nil ?_
   rw [c2]
   unfold Cn.meN
   rw [hokB]
   rfl
def Cn.dvB (c : Cn) (m i : Nat) : Bool := (List.range i).all fun j => decide (m ∣ (c.s j).toNat) && decide (m ∣ (c.i j).toNat)
end Go.Proofs.YtjekjehgmljbgaaGreatDoor.T
namespace Go.Proofs.YtjekjehgmljbgaaGreatDoor.T
open Go.RowKit Go.Proofs Go.Eng
set_option maxRecDepth 100000
set_option maxHeartbeats 1000000
theorem gK_dvd {zs : List Int} : ∀ {k : Nat}, k ≤ zs.length → ∀ {j : Nat}, j < k → gK zs k ∣ (zs.getD j 0).toNat
 | 0, _, j, hj => absurd hj (Nat.not_lt_zero _)
 | k + 1, hk, j, hj => by
  rw [gK_succ om0]
  by_cases hjk : j = k
  ·subst hjk; exact Nat.gcd_dvd_right _ _
  ·exact Nat.dvd_trans (Nat.gcd_dvd_left _ _) (gK_dvd om0 om0)
theorem Cn.all_s {c : Cn} {k : Nat} (hk : k < c.n) : c.all.getD k 0 = c.s k := by
 unfold Cn.all Cn.s
 simp only [List.getD_eq_getElem?_getD]
 rw [List.getElem?_append_left hk]
theorem Cn.all_i {c : Cn} {k : Nat} (hk : k < c.inn.length) : c.all.getD (c.n + k) 0 = c.i k := by
 unfold Cn.all Cn.i Cn.n
 simp only [List.getD_eq_getElem?_getD]
 rw [List.getElem?_append_right (Nat.le_add_right _ _), Nat.add_sub_cancel_left]
theorem dvd_of_nat {a : Nat} {x : Int} (hx : 0 ≤ x) (h : a ∣ x.toNat) : (a : Int) ∣ x := by
 rw [← Int.toNat_of_nonneg hx]
 exact Int.natCast_dvd_natCast.2 h
def Cn.Mul (c : Cn) (g : Int) (x : Co) : Prop := ∀ k, 1 ≤ k → k ≤ c.n → g ∣ x.g k
theorem Cn.gc_s {c : Cn} (hok : c.Ok) {k : Nat} (hk : k < c.n) : (c.gc : Int) ∣ c.s k ∧ (c.gc : Int) ∣ c.i k := by
 have hl := hok.len
 have hal := hok.all_bd.1
 have h1 := gK_dvd (zs := c.all) (k := c.all.length) (Nat.le_refl _) (j := k) om0
 have h2 := gK_dvd (zs := c.all) (k := c.all.length) (Nat.le_refl _) (j := c.n + k) om0
 rw [Cn.all_s hk] at h1
 rw [Cn.all_i om0] at h2
 have s := hok.s k hk
 have i := hok.i k hk
 exact ⟨dvd_of_nat om0 h1, dvd_of_nat om0 h2⟩
theorem Cn.Mul.stp {c : Cn} (hok : c.Ok) {g : Int} (hs : ∀ k, k < c.n → g ∣ c.s k) {x : Co} {p : Po} (h : c.Mul g x) (hp : c.pE x p = 0) : c.Mul g (c.stp x p) := by
 have hn := hok.n3
 obtain ⟨hv, hc⟩ := Cn.pE_zero.1 hp
 obtain ⟨⟨hf0, hf1⟩, ⟨ht0, ht1⟩, hne⟩ := Cn.vld_iff.1 hv
 obtain ⟨f, t⟩ := p
 simp only at hf0 hf1 ht0 ht1 hne hc
 obtain ⟨f, rfl⟩ := Int.eq_ofNat_of_zero_le hf0
 obtain ⟨t, rfl⟩ := Int.eq_ofNat_of_zero_le ht0
 rw [Int.toNat_natCast, Int.toNat_natCast, Cn.canB_iff] at hc
 obtain ⟨⟨ha, hb⟩, hpos⟩ := hc
 have hlk : 1 ≤ t → g ∣ c.lack x t := fun h1 => by
  unfold Cn.lack
  refine Int.dvd_sub ?_ (h t h1 om0)
  obtain ⟨j, rfl⟩ : ∃ j, t = j + 1 := ⟨t - 1, by omega⟩
  rw [c.room_s]
  exact hs j om0
 have hamt : g ∣ c.amt x f t := by
  have h0 : c.amt x f t = x.g f ∨ c.amt x f t = c.lack x t := by unfold Cn.amt; omega
  by_cases hf : f = 0
  ·have : c.amt x f t = c.lack x t := by unfold Cn.amt at h0 hpos ⊢; omega
   rw [this]; exact hlk om0
  ·by_cases ht : t = 0
   ·have : c.amt x f t = x.g f := by unfold Cn.amt at h0 hpos ⊢; omega
    rw [this]; exact h f om0 om0
   ·rcases h0 with e | e
    ·rw [e]; exact h f om0 om0
    ·rw [e]; exact hlk om0
 intro k hk1 hkn
 show g ∣ (c.to x (f : Int).toNat (t : Int).toNat).g k
 rw [Int.toNat_natCast, Int.toNat_natCast, c.to_g x om0 om0 om0]
 split
 ·rename_i e; subst e; exact Int.dvd_add (h k hk1 hkn) hamt
 ·split
  ·rename_i e; subst e; exact Int.dvd_sub (h k hk1 hkn) hamt
  ·exact h k hk1 hkn
theorem Cn.Mul.run {c : Cn} (hok : c.Ok) {g : Int} (hs : ∀ k, k < c.n → g ∣ c.s k) : ∀ {l : List Po} {x y : Co}, c.Mul g x → c.runO x l = some y → c.Mul g y
 | [], x, y, h, hr => by cases hr; exact h
 | p :: l, x, y, h, hr => by
  unfold Cn.runO at hr
  split at hr
  ·rename_i hp; exact Cn.Mul.run hok hs (h.stp hok hs hp) hr
  ·cases hr
theorem Cn.Mul.co {c : Cn} (hok : c.Ok) : c.Mul c.gc c.co := fun k h1 hk => by
 have := hok.n3
 obtain ⟨j, rfl⟩ : ∃ j, k = j + 1 := ⟨k - 1, by omega⟩
 rw [c.co_g j om0]
 exact (Cn.gc_s hok om0).2
theorem getD_snoc0 (l : List Int) (k : Nat) : (l ++ [0]).getD k 0 = l.getD k 0 := by
 simp only [List.getD_eq_getElem?_getD]
 by_cases h : k < l.length
 ·rw [List.getElem?_append_left h]
 ·rw [List.getElem?_append_right om0, List.getElem?_eq_none (l := l) om0]
  cases hj : k - l.length with
  | zero => rfl
  | succ j => rfl
theorem Cn.more_co (c : Cn) (s : Int) : (c.more s).co = c.co := by
 unfold Cn.co Cn.i Cn.more
 simp only [getD_snoc0]
theorem Cn.more_room {c : Cn} (s : Int) {k : Nat} (h : k ≤ c.n) : (c.more s).room k = c.room k := by
 cases k with
 | zero => rfl
 | succ k =>
  rw [Cn.room_s, Cn.room_s]
  unfold Cn.s Cn.more
  simp only [List.getD_eq_getElem?_getD]
  rw [List.getElem?_append_left h]
theorem Cn.more_pE {c : Cn} (s : Int) {x : Co} {p : Po} (h : c.pE x p = 0) : (c.more s).pE x p = 0 ∧ (c.more s).stp x p = c.stp x p := by
 obtain ⟨hv, hc⟩ := Cn.pE_zero.1 h
 obtain ⟨⟨hf0, hf1⟩, ⟨ht0, ht1⟩, hne⟩ := Cn.vld_iff.1 hv
 have hl : (c.more s).lack x p.t.toNat = c.lack x p.t.toNat := by unfold Cn.lack; rw [Cn.more_room s om0]
 have ha : (c.more s).amt x p.f.toNat p.t.toNat = c.amt x p.f.toNat p.t.toNat := by unfold Cn.amt; rw [hl]
 refine ⟨Cn.pE_zero.2 ⟨Cn.vld_iff.2 ⟨⟨hf0, by rw [c.more_n]; omega⟩, ⟨ht0, by rw [c.more_n]; omega⟩, hne⟩, ?_⟩, ?_⟩
 ·unfold Cn.canB Cn.noB at hc ⊢
  rw [hl, ha]; exact hc
 ·unfold Cn.stp Cn.to
  rw [ha]
theorem Cn.more_run {c : Cn} (s : Int) : ∀ {l : List Po} {x y : Co}, c.runO x l = some y → (c.more s).runO x l = some y ∧ (c.more s).bkO x l = c.bkO x l
 | [], x, y, h => ⟨h, rfl⟩
 | p :: l, x, y, h => by
  unfold Cn.runO at h
  split at h
  ·rename_i hp
   obtain ⟨h1, h2⟩ := Cn.more_pE s hp
   obtain ⟨h3, h4⟩ := Cn.more_run s h
   unfold Cn.runO Cn.bkO
   rw [if_pos h1, h2]
   exact ⟨h3, by rw [h4]⟩
  ·cases h
theorem Cn.Way.more {c : Cn} (s : Int) {w : Wy} {y : Co} (h : c.Way w y) : (c.more s).Way w y := by
 obtain ⟨h1, h2⟩ := Cn.more_run s h.run
 exact ⟨by rw [c.more_co]; exact h1, by rw [c.more_co, h2]; exact h.back⟩
theorem ordHlt {a b : Hp} : ordH a b < 0 ↔ a.m < b.m ∨ (a.m = b.m ∧ a.s < b.s) := by
 have h1 := @cmpI_lt a.m b.m
 have h2 := @cmpI_lt a.s b.s
 unfold ordH orL orL orL
 split
 ·split <;> omega
 ·omega
theorem foldH : ∀ (l : List Hp) (b : Hp), (l.foldl (fun b y => if ordH y b < 0 then y else b) b = b ∨ l.foldl (fun b y => if ordH y b < 0 then y else b) b ∈ l) ∧ ¬ ordH b (l.foldl (fun b y => if ordH y b < 0 then y else b) b) < 0 ∧ ∀ x ∈ l, ¬ ordH x (l.foldl (fun b y => if ordH y b < 0 then y else b) b) < 0
 | [], b => ⟨.inl rfl, by rw [ordHlt]; simp, fun x h => (by cases h)⟩
 | y :: l, b => by
  rw [List.foldl_cons]
  obtain ⟨h1, h2, h3⟩ := foldH l (if ordH y b < 0 then y else b)
  rw [ordHlt] at h2
  generalize hm : List.foldl (fun b y => if ordH y b < 0 then y else b) (if ordH y b < 0 then y else b) l = m at h1 h2 h3 ⊢
  refine ⟨?_, ?_, fun x hx => ?_⟩
  ·rcases h1 with h1 | h1
   ·split at h1
    ·exact .inr (by rw [h1]; exact List.mem_cons_self)
    ·exact .inl h1
   ·exact .inr (List.mem_cons_of_mem _ h1)
  ·rw [ordHlt]
   split at h2
   ·rename_i h; rw [ordHlt] at h; omega
   ·exact h2
  ·rcases List.mem_cons.1 hx with rfl | hx
   ·rw [ordHlt]
    split at h2
    ·exact h2
    ·rename_i h; rw [ordHlt] at h; omega
   ·exact h3 x hx
theorem minH_min {l : List Hp} (h : l ≠ []) : minH l ∈ l ∧ ∀ x ∈ l, ¬ ordH x (minH l) < 0 := by
 cases l with
 | nil => exact absurd rfl h
 | cons y l =>
  obtain ⟨h1, h2, h3⟩ := foldH l y
  refine ⟨?_, fun x hx => ?_⟩
  ·rcases h1 with h1 | h1
   ·show List.foldl _ y l ∈ _
    rw [h1]; exact List.mem_cons_self
   ·exact List.mem_cons_of_mem _ h1
  ·rcases List.mem_cons.1 hx with rfl | hx
   ·exact h2
   ·exact h3 x hx
theorem Cn.hpL_mem {c : Cn} {n : Int} {x : Hp} : ∀ {k : Nat}, x ∈ c.hpL n k ↔ ∃ j, j < k ∧ x.s = (j : Int) + 1 ∧ ¬ (j : Int) + 1 = n ∧ ∃ w, c.hk n ((j : Int) + 1) = some w ∧ x.m = (w.l.length : Int)
 | 0 => ⟨fun h => (by cases h), fun ⟨j, h, _⟩ => absurd h (Nat.not_lt_zero _)⟩
 | k + 1 => by
  have ih := Cn.hpL_mem (c := c) (n := n) (x := x) (k := k)
  have key : (∃ j, j < k + 1 ∧ x.s = (j : Int) + 1 ∧ ¬ (j : Int) + 1 = n ∧ ∃ w, c.hk n ((j : Int) + 1) = some w ∧ x.m = (w.l.length : Int)) ↔ (x ∈ c.hpL n k ∨ (x.s = (k : Int) + 1 ∧ ¬ (k : Int) + 1 = n ∧ ∃ w, c.hk n ((k : Int) + 1) = some w ∧ x.m = (w.l.length : Int))) := by
   rw [ih]
   constructor
   ·rintro ⟨j, h1, h2⟩
    by_cases e : j = k
    ·subst e; exact .inr h2
    ·exact .inl ⟨j, by omega, h2⟩
   ·rintro (⟨j, h1, h2⟩ | h2)
    ·exact ⟨j, by omega, h2⟩
    ·exact ⟨k, by omega, h2⟩
  rw [key]
  by_cases h0 : (k : Int) + 1 = n
  ·rw [Cn.hpL_skip h0]; simp [h0]
  ·cases hh : c.hk n ((k : Int) + 1) with
   | none => rw [Cn.hpL_none hh]; simp
   | some w =>
    rw [Cn.hpL_some h0 hh, List.mem_append, List.mem_singleton]
    constructor
    ·rintro (h | rfl)
     ·exact .inl h
     ·exact .inr ⟨rfl, h0, w, rfl, rfl⟩
    ·rintro (h | ⟨h1, _, v, h2, h3⟩)
     ·exact .inl h
     ·cases h2
      obtain ⟨a, b⟩ := x
      simp only at h1 h3
      subst h1 h3
      exact .inr rfl
def minW (p : Co → Bool) (xs : List (Co × Wy)) : Option Wy := xs.foldl (fun o z => if p z.1 then (match o with | none => some z.2 | some w => if z.2.lt w then some z.2 else some w) else o) none
def chkW (p : Co → Bool) (xs : List (Co × Wy)) : Option Wy → Bool
 | none => xs.all fun z => !p z.1
 | some w => xs.any (fun z => decide (z.2 = w) && p z.1) && xs.all (fun z => !p z.1 || !z.2.lt w)
theorem Cn.cert_is {c : Cn} {xs : List (Co × Wy)} (hn : c.n ≤ 3) (h : c.certB xs = true) {p : Co → Bool} : ∀ {o : Option Wy}, chkW p xs o = true → c.few p = o
 | none, h1 => Cn.cert_none hn h h1
 | some w, h1 => by
  unfold chkW at h1
  rw [Bool.and_eq_true] at h1
  exact Cn.cert_few hn h h1.1 h1.2
abbrev b35 : Cn := bench2 20 3 5
abbrev b46 : Cn := bench2 20 4 6
theorem k_few35 {p : Co → Bool} {o : Option Wy} (h : chkW p (b35.bfs 9) o = true) : b35.few p = o := Cn.cert_is dc cert35 h
theorem k_many : Value.tuple #[.int .i64 b35.maN, .int .i64 b35.err] = .tuple #[.int .i64 16, .int .i64 0] := by
 have h : b35.maN = 16 := by
  unfold Cn.maN
  rw [if_pos dc, Cn.cert_many dc cert35, show ((bench2 20 3 5).bfs 9).length = 16 by decide +kernel]
  rfl
 rw [h]; rfl
theorem k_made : b46.mdL = [0, 2, 4, 6] := by
 unfold Cn.mdL
 rw [if_pos dc, Cn.cert_made dc cert46]
 decide +kernel
theorem k_made35 : b35.madeL = [0, 1, 2, 3, 4, 5] := by
 rw [Cn.cert_made dc cert35]
 decide +kernel
theorem k_meas : Value.tuple #[.int .i64 b46.meN, .int .i64 b46.err] = .tuple #[.int .i64 2, .int .i64 0] := by
 rw [show b46.meN = 2 by decide +kernel]; rfl
def w4 : Wy := ⟨[⟨0, 2⟩, ⟨2, 1⟩, ⟨1, 0⟩, ⟨2, 1⟩, ⟨0, 2⟩, ⟨2, 1⟩], 3⟩
def w1 : Wy := ⟨[⟨0, 1⟩, ⟨1, 2⟩, ⟨0, 1⟩, ⟨1, 2⟩], 0⟩
def w6 : Wy := ⟨[⟨0, 1⟩, ⟨1, 2⟩, ⟨0, 1⟩], 0⟩
theorem k_l4 : b35.few (b35.someP 4) = some w4 := k_few35 dk0
theorem k_l1 : b35.few (b35.someP 1) = some w1 := k_few35 dk0
theorem k_t6 : b35.few (totP 6) = some w6 := k_few35 dk0
theorem k_e4 : b35.lsE 4 = 0 := by decide +kernel
theorem k_e1 : b35.lsE 1 = 0 := by decide +kernel
theorem k_e6 : b35.ttE 6 = 0 := by decide +kernel
def wyL : Option Wy → Int
 | some w => (w.l.length : Int)
 | none => 0
theorem k_fl {n : Int} {o : Option Wy} {m : Int} (h : chkW (b35.someP n) (b35.bfs 9) o = true) (hm : wyL o = m) : b35.fl n = m := by
 unfold Cn.fl
 rw [k_few35 h, ← hm]
 cases o <;> rfl
theorem k_far : b35.farT b35.madeL.length = (4, 6) := by
 have f0 : b35.fl 0 = 0 := k_fl (o := minW (b35.someP 0) (b35.bfs 9)) dk0 dk0
 have f1 : b35.fl 1 = 4 := k_fl (o := minW (b35.someP 1) (b35.bfs 9)) dk0 dk0
 have f2 : b35.fl 2 = 2 := k_fl (o := minW (b35.someP 2) (b35.bfs 9)) dk0 dk0
 have f3 : b35.fl 3 = 1 := k_fl (o := minW (b35.someP 3) (b35.bfs 9)) dk0 dk0
 have f4 : b35.fl 4 = 6 := k_fl (o := minW (b35.someP 4) (b35.bfs 9)) dk0 dk0
 have f5 : b35.fl 5 = 1 := k_fl (o := minW (b35.someP 5) (b35.bfs 9)) dk0 dk0
 unfold Cn.farT
 rw [List.take_length, k_made35]
 simp [Cn.farS, f0, f1, f2, f3, f4, f5]
theorem k_less {s : Int} (h1 : 1 ≤ s) (h20 : s ≤ 20) (h4 : s ≠ 4) {w : Wy} (h : b35.hk 4 s = some w) : 2 ≤ w.l.length := by
 obtain ⟨y, hy, hb⟩ := Cn.few_way h
 have hall : ((List.range 20).all fun k => decide ((k : Int) + 1 = 4) || (!(b35.more ((k : Int) + 1)).someP 4 (b35.more ((k : Int) + 1)).co && allP.all fun p => !decide ((b35.more ((k : Int) + 1)).pE (b35.more ((k : Int) + 1)).co p = 0) || !(b35.more ((k : Int) + 1)).someP 4 ((b35.more ((k : Int) + 1)).stp (b35.more ((k : Int) + 1)).co p))) = true := by decide +kernel
 rw [List.all_eq_true] at hall
 have hk := hall (s - 1).toNat (List.mem_range.2 om0)
 rw [show (((s - 1).toNat : Nat) : Int) + 1 = s by omega] at hk
 simp only [Bool.or_eq_true, Bool.and_eq_true, decide_eq_true_eq, Bool.not_eq_true', List.all_eq_true, decide_eq_false_iff_not] at hk
 rcases hk with hk | ⟨hk0, hk1⟩
 ·exact absurd hk h4
 ·have hr := hb.way.run
  refine Classical.byContradiction fun hlt => ?_
  match hw : w.l with
  | [] =>
   rw [hw] at hr
   cases hr
   rw [hk0] at hy; cases hy
  | [p] =>
   rw [hw] at hr
   unfold Cn.runO at hr
   split at hr
   ·rename_i hp
    cases hr
    rcases hk1 p (Cn.pE_all (by rw [Cn.more_n]; decide) hp) with e | e
    ·exact e hp
    ·rw [e] at hy; cases hy
   ·cases hr
  | _ :: _ :: _ => rw [hw] at hlt; simp at hlt
theorem k_one : ∃ w, b35.hk 4 1 = some w ∧ w.l.length ≤ 2 := by
 have hw : (b35.more 1).Way ⟨[⟨0, 2⟩, ⟨2, 3⟩], 0⟩ ⟨15, 0, 4, 1⟩ := ⟨by decide +kernel, by decide +kernel⟩
 obtain ⟨w, h1, h2⟩ := Cn.few_ex dc (p := (b35.more 1).someP 4) dc hw
 refine ⟨w, h1, ?_⟩
 refine Classical.byContradiction fun hlt => ?_
 have : Wy.lt ⟨[⟨0, 2⟩, ⟨2, 3⟩], 0⟩ w = true := Wy.lt_iff.2 (by left; simp only [List.length_cons, List.length_nil]; omega)
 rw [h2] at this; cases this
theorem k_help : b35.hpE 4 = 0 ∧ minH (b35.hpL 4 20) = ⟨1, 2⟩ := by
 obtain ⟨w, h1, h2⟩ := k_one
 have h3 := k_less (s := 1) dc dc dc h1
 have hm : (⟨1, 2⟩ : Hp) ∈ b35.hpL 4 20 := Cn.hpL_mem.2 ⟨0, by decide, rfl, by decide, w, h1, by show (2 : Int) = _; omega⟩
 have hne : b35.hpL 4 20 ≠ [] := fun e => by rw [e] at hm; cases hm
 refine ⟨?_, ?_⟩
 ·unfold Cn.hpE
  rw [if_pos dc, if_pos dc, if_neg dc, if_neg hne]
 ·obtain ⟨h4, h5⟩ := minH_min hne
  have h6 := h5 _ hm
  rw [ordHlt] at h6
  obtain ⟨j, hj, e1, e2, v, e3, e4⟩ := Cn.hpL_mem.1 h4
  have h7 := k_less om0 om0 e2 e3
  generalize minH (b35.hpL 4 20) = m at *
  obtain ⟨a, b⟩ := m
  simp only at h6 e1 e4
  simp only [Hp.mk.injEq]
  omega
def bef0 : Cn := ⟨[3, 5], [3, 0], 17⟩
def Cn.inB' (c : Cn) (x : Co) : Bool := ((List.range 4).all fun k => decide (0 ≤ x.g k) && (if k ≤ c.n then decide (x.g k ≤ c.room k) else decide (x.g k = 0)))
theorem Cn.in_iff {c : Cn} {x : Co} (hn : c.n ≤ 3) : c.inB' x = true ↔ c.In x := by
 unfold Cn.inB'
 simp only [List.all_eq_true, List.mem_range, Bool.and_eq_true, decide_eq_true_eq]
 constructor
 ·intro h
  refine ⟨fun k hk => (h k hk).1, fun k hk => ?_, fun k hk hk4 => ?_⟩
  ·have := (h k om0).2
   rw [if_pos hk] at this
   exact of_decide_eq_true this
  ·have := (h k hk4).2
   rw [if_neg om0] at this
   exact of_decide_eq_true this
 ·intro h k hk
  refine ⟨h.lo k hk, ?_⟩
  split
  ·rename_i hk'; exact decide_eq_true (h.hi k hk')
  ·exact decide_eq_true (h.z k om0 hk)
def Cn.befB (c : Cn) (f t : Nat) (x : Co) : Bool := c.inB' x && (c.canB x f t && decide (c.to x f t = c.co))
theorem Cn.bef_iff {c : Cn} {f t : Nat} {x : Co} (hn : c.n ≤ 3) : c.befB f t x = true ↔ c.IsBef f t x := by
 unfold Cn.befB
 rw [Bool.and_eq_true, Bool.and_eq_true, decide_eq_true_eq, Cn.in_iff hn]
 exact ⟨fun ⟨h1, h2, h3⟩ => ⟨h1, h2, h3⟩, fun h => ⟨h.inn, h.can, h.to⟩⟩
instance (x y : Co) : Decidable (x.lt y) := by unfold Co.lt; exact inferInstance
theorem Cn.cert_bef {c : Cn} {p : Po} {L : List Co} (hok : c.okB = true) (hv : c.vldB p = true) (h1 : L.Pairwise Co.lt) (h2 : L.all (c.befB p.f.toNat p.t.toNat) = true) (h3 : ((List.range 21).all fun n => !c.befB p.f.toNat p.t.toNat (c.old p.f.toNat p.t.toNat n) || decide (c.old p.f.toNat p.t.toNat n ∈ L)) = true) : c.Bef p 0 L := by
 have hO := Cn.ok_iff.1 hok
 have hn := hO.n3
 obtain ⟨⟨hf0, hf1⟩, ⟨ht0, ht1⟩, hne⟩ := Cn.vld_iff.1 hv
 have hp : c.Fp p.f.toNat p.t.toNat := ⟨by omega, by omega, by omega⟩
 unfold Cn.Bef
 rw [if_pos hok, if_pos hv]
 refine ⟨rfl, h1, fun x => ⟨fun hx => (Cn.bef_iff hn).1 (List.all_eq_true.1 h2 x hx), fun hx => ?_⟩⟩
 have ha := hx.amt hO hp
 have e := hx.old hO hp
 have := List.all_eq_true.1 h3 (c.amt x p.f.toNat p.t.toNat).toNat (List.mem_range.2 om0)
 rw [← e] at this
 simp only [Bool.or_eq_true, Bool.not_eq_true', decide_eq_true_eq] at this
 rcases this with h4 | h4
 ·rw [(Cn.bef_iff hn).2 hx] at h4; cases h4
 ·exact h4
def befL : List Co := [⟨20, 0, 0, 0⟩, ⟨19, 1, 0, 0⟩, ⟨18, 2, 0, 0⟩]
theorem k_bef : bef0.Bef ⟨0, 1⟩ 0 befL := Cn.cert_bef dc dc dc dk0 dk0
theorem bd57_0_1_2 {x0a : Option Addr} {x0l x0c : Nat} {x1 : Int} {x2 : Int} : ∀ w, (Instr.build 57 #[(0, .slice x0a x0l x0c), (1, .int .i64 x1), (2, .int .i64 x2)]).run Tryz.prog w = .ok (.agg #[.slice x0a x0l x0c, .int .i64 x1, .int .i64 x2]) w := fun w => by kernel_rfl
theorem bd62_0_1_2 {x0_0a : Option Addr} {x0_0l x0_0c : Nat} {x0_1 : Int} {x0_2 : Int} {x1_0 : Int} {x1_1 : Int} {x2a : Option Addr} {x2l x2c : Nat} : ∀ w, (Instr.build 62 #[(0, .agg #[.slice x0_0a x0_0l x0_0c, .int .i64 x0_1, .int .i64 x0_2]), (1, .agg #[.int .i64 x1_0, .int .i64 x1_1]), (2, .slice x2a x2l x2c)]).run Tryz.prog w = .ok (.agg #[.slice x0_0a x0_0l x0_0c, .int .i64 x0_1, .int .i64 x0_2, .int .i64 x1_0, .int .i64 x1_1, .slice x2a x2l x2c]) w := fun w => by kernel_rfl
theorem bs22_5_0_1_2_3_4 {x0 : Int} {x1 : Int} {x2 : Int} {x3 : Int} {x4 : Int} : ∀ w, (Instr.buildSlice 22 5 #[(0, .int .i64 x0), (1, .int .i64 x1), (2, .int .i64 x2), (3, .int .i64 x3), (4, .int .i64 x4)]).run Tryz.prog w = .ok (.slice (some ⟨w.heap.size, 0, none⟩) 5 5) (w.alloc (CB [.int .i64 x0, .int .i64 x1, .int .i64 x2, .int .i64 x3, .int .i64 x4] 3)) := fun w => by kernel_rfl
theorem bs60_4_0_1_2_3 {x0_0 : Int} {x0_1 : Int} {x0_2 : Int} {x0_3 : Int} {x1_0 : Int} {x1_1 : Int} {x1_2 : Int} {x1_3 : Int} {x2_0 : Int} {x2_1 : Int} {x2_2 : Int} {x2_3 : Int} {x3_0 : Int} {x3_1 : Int} {x3_2 : Int} {x3_3 : Int} : ∀ w, (Instr.buildSlice 60 4 #[(0, .agg #[.int .i64 x0_0, .int .i64 x0_1, .int .i64 x0_2, .int .i64 x0_3]), (1, .agg #[.int .i64 x1_0, .int .i64 x1_1, .int .i64 x1_2, .int .i64 x1_3]), (2, .agg #[.int .i64 x2_0, .int .i64 x2_1, .int .i64 x2_2, .int .i64 x2_3]), (3, .agg #[.int .i64 x3_0, .int .i64 x3_1, .int .i64 x3_2, .int .i64 x3_3])]).run Tryz.prog w = .ok (.slice (some ⟨w.heap.size, 0, none⟩) 4 4) (w.alloc (CB [.int .i64 x0_0, .int .i64 x0_1, .int .i64 x0_2, .int .i64 x0_3, .int .i64 x1_0, .int .i64 x1_1, .int .i64 x1_2, .int .i64 x1_3, .int .i64 x2_0, .int .i64 x2_1, .int .i64 x2_2, .int .i64 x2_3, .int .i64 x3_0, .int .i64 x3_1, .int .i64 x3_2, .int .i64 x3_3] 90)) := fun w => by kernel_rfl
theorem l8span_any (x y : Int) (w : World) : Ct Tryz.prog 35 #[.int .i64 x, .int .i64 y] w fun v _ => v = .agg #[.int .i64 x, .int .i64 y] := by
 have hF := wide_wide
 refine Ct_start (args := [_, _]) Tryz.func35 rf Tryz.ntmps35 rf ?_
 refine zR fun ds => ?_
 refine WS_new hF rf (y_alloc Tryz.zeroValue59 rf) (fun b1 => ?_)
 refine zP fun ds => ?_
 refine zm (.int .i64 _) hF ?_
 refine zm (.int .i64 _) hF ?_
 refine zD hF (y_buildL bd59_0_1 rf) ?_
 refine WS_store hF (i := 0) rf rf Tryz.sizeOf59 rf rf rf d20 ?_
 refine zN ?_
 refine W_ret ?_
 refine Fin_ret [_] [] Tryz.results35 ⟨lvN rf Tryz.isAgg59 Tryz.sizeOf59 (Mem.own (us := [.int .i64 _, .int .i64 _]) 0 rf rf) rf, trivial⟩ HSub.nil ?_
 rfl
theorem l8log_any (w : World) : Ct Tryz.prog 46 #[] w (TwinL logL) := by
 have hF := wide_wide
 refine Ct_start (args := []) Tryz.func46 rf Tryz.ntmps46 rf ?_
 refine zR fun ds => ?_
 refine WS_new hF rf (y_alloc Tryz.zeroValue62 rf) (fun b1 => ?_)
 refine zP fun ds => ?_
 refine WS_newS hF rf (y_buildSliceL bs22_5_0_1_2_3_4 rf) (fun b2 => ?_)
 refine zD hF (y_buildL bd57_0_1_2 rf) ?_
 refine zD hF (y_callL rf rf Tryz.call35 (fun w hw => l8span_any _ _ w)) ?_
 refine zD hF (y_callL rf rf Tryz.call35 (fun w hw => l8span_any _ _ w)) ?_
 refine zD hF (y_buildL bd90_0_1_2 rf) ?_
 refine zD hF (y_callL rf rf Tryz.call35 (fun w hw => l8span_any _ _ w)) ?_
 refine zD hF (y_buildL bd90_0_1_2 rf) ?_
 refine zD hF (y_callL rf rf Tryz.call35 (fun w hw => l8span_any _ _ w)) ?_
 refine zD hF (y_buildL bd90_0_1_2 rf) ?_
 refine zD hF (y_callL rf rf Tryz.call35 (fun w hw => l8span_any _ _ w)) ?_
 refine zD hF (y_buildL bd90_0_1_2 rf) ?_
 refine WS_newS hF rf (y_buildSliceL bs60_4_0_1_2_3 rf) (fun b3 => ?_)
 refine zD hF (y_buildL bd62_0_1_2 rf) ?_
 refine WS_store hF (i := 2) rf rf Tryz.sizeOf62 rf rf rf d20 ?_
 refine zN ?_
 refine W_ret ?_
 refine Fin_ret [_] [(b2, CB (iv logL.tk.pints) 3), (b3, CB (rowOf En.cells logL.e logL.es.length) 90)] Tryz.results46 ⟨lvN rf Tryz.isAgg62 Tryz.sizeOf62 (Mem.own (us := [.slice _ _ _, .int .i64 _, .int .i64 _, .int .i64 _, .int .i64 _, .slice _ _ _]) 2 rf rf) rf, trivial⟩ (HSub.perm (Hn := [(b3, _), (b2, _)]) (HSub.sub sbA) (List.Perm.swap _ _ _)) ?_
 exact ⟨_, _, _, _, [(b2, _)], [(b3, _)], rfl, ⟨_, _, rfl, Nat.le_refl _, .inl ⟨by decide, b2, [], rfl, by rw [List.append_nil], by rfl⟩⟩, ⟨_, _, rfl, Nat.le_refl _, .inl ⟨by decide, b3, [], by rfl, by rw [List.append_nil], by rfl⟩⟩, rfl⟩
theorem l8bench_any (s : Int) (xs : List Int) (a : Option Addr) (cap : Nat) (w : World) (hn : xs.length ≤ 1000000) : Ct Tryz.prog 43 #[.int .i64 s, .slice a xs.length cap] w fun v Hn => ∃ z q, v = .agg #[.slice a xs.length cap, .slice z xs.length q, .int .i64 s] ∧ NewRow 3 1 xs.length (iv (List.replicate xs.length 0)) (.slice z xs.length q) Hn := by
 have hF := wide_wide
 refine Ct_start (args := [_, _]) Tryz.func43 rf Tryz.ntmps43 rf ?_
 refine zR fun ds => ?_
 refine WS_new hF rf (y_alloc Tryz.zeroValue24 rf) (fun b1 => ?_)
 refine zP fun ds => ?_
 refine zm (.slice _ _ _) hF ?_
 refine zm (.slice _ _ _) hF ?_
 refine zD hF (y_len rf Tryz.runUnderlying22) ?_
 refine WS_gen hF rf (y_makeRow (n := xs.length) rf rf rf rf Tryz.underlying22 infInt rf rf om0 om0 (zeros_iv xs Lg.zero)) ?_
 rintro _ Hn hr0
 obtain ⟨z, q, rfl, hr⟩ := NewRow.sl hr0
 refine WS_back ?_
 refine zm (.int .i64 _) hF ?_
 refine zD hF (y_buildL bd24_0_1_2 rf) ?_
 refine WS_store hF (i := 0) rf rf Tryz.sizeOf24 rf rf rf d20 ?_
 refine zN ?_
 refine W_ret ?_
 refine Fin_ret [_] Hn Tryz.results43 ⟨lvN rf Tryz.isAgg24 Tryz.sizeOf24 (Mem.own (us := [.slice _ _ _, .slice _ _ _, .int .i64 _]) 0 rf rf) rf, trivial⟩ (HSub.sub sbA) ?_
 exact ⟨z, q, rfl, hr⟩
def flatP (ps : List Po) : List Int := ps.flatMap fun p => [p.f, p.t]
theorem flatP_get : ∀ {ps : List Po} {k : Nat}, k < ps.length → (flatP ps).getD (2 * k) 0 = (ps.getD k Po.z).f ∧ (flatP ps).getD (2 * k + 1) 0 = (ps.getD k Po.z).t
 | [], k, h => absurd h (Nat.not_lt_zero _)
 | p :: ps, 0, _ => ⟨rfl, rfl⟩
 | p :: ps, k + 1, h => by
  have ih := flatP_get (ps := ps) (k := k) (by simpa using h)
  rw [show 2 * (k + 1) = 2 * k + 1 + 1 by omega]
  exact ih
def pRow (ps : List Po) : List Value := rowOf Po.cells (fun k => ps.getD k Po.z) ps.length
theorem pRow_snoc (ps : List Po) (y : Po) : pRow (ps ++ [y]) = pRow ps ++ y.cells := by
 unfold pRow
 rw [List.length_append, List.length_singleton, rowOf_succ]
 congr 1
 ·exact rowOf_congr _ fun k hk => by simp [List.getD_eq_getElem?_getD, List.getElem?_append_left hk]
 ·simp [List.getD_eq_getElem?_getD]
theorem l8pours_any (ps : List Po) (a : Option Addr) (cap : Nat) (w : World) (hl : ps.length ≤ 1000) (hx : Ints w a (2 * ps.length) cap (flatP ps)) : Ct Tryz.prog 44 #[.slice a (2 * ps.length) cap] w fun v Hn => ∃ b k, v = .slice b ps.length k ∧ NewRow 47 2 ps.length (pRow ps) (.slice b ps.length k) Hn := by
 have hF := wide_wide
 refine Ct_start (args := [_]) Tryz.func44 rf Tryz.ntmps44 rf ?_
 refine zR fun ds => ?_
 refine za (.slice _ _ _) hF ?_
 refine zP fun ds => ?_
 refine za (.slice _ _ _) hF ?_
 refine zO ?_
 refine zR fun ds => ?_
 refine za (.int .i64 _) hF ?_
 refine zN ?_
 refine W_block ?_
 refine W_loop (γ := Nat × Option Addr × Nat × List Blk) (fun q => q.1 ≤ ps.length ∧ NewRow 47 2 q.1 (rowOf Po.cells (fun k => ps.getD k Po.z) q.1) (.slice q.2.1 q.1 q.2.2.1) q.2.2.2) (fun q => [(0, .slice a (2 * ps.length) cap), (3, .slice q.2.1 q.1 q.2.2.1), (4, .int .i64 ((2 * q.1 : Nat) : Int))]) (fun q => q.2.2.2) (fun q => ps.length - q.1) ((0, none, 0, [])) ⟨Nat.zero_le _, none, 0, rfl, Nat.le_refl _, .inr ⟨rfl, rfl, rfl⟩⟩ s10 (List.Sublist.refl _) ?_
 rintro ⟨k, ra, rc, Hr⟩ e ⟨(hk : k ≤ ps.length), (hrow : NewRow 47 2 k (rowOf Po.cells (fun k => ps.getD k Po.z) k) (.slice ra k rc) Hr)⟩
 refine W_seq ?_
 refine zR fun ds => ?_
 refine zm (.int .i64 _) hF ?_
 refine zD hF (y_add rf rf ui) ?_
 refine zm (.slice _ _ _) hF ?_
 refine zD hF (y_len rf Tryz.runUnderlying22) ?_
 refine zD hF (y_lss rf rf) ?_
 refine zN ?_
 refine W_cond rf (fun c3 => ?_) (fun c3 => ?_)
 ·
  try simp only [qz1, qz2, qz3, qz4, qz5, qz6, qz7, qz8] at c3
  have hk2 : k < ps.length := by omega
  obtain ⟨b, o, rfl, hc⟩ := hx.cell (2 * k) om0
  have hc2 := hx.at (k := 2 * k + 1) om0
  rw [(flatP_get hk2).1] at hc
  rw [(flatP_get hk2).2] at hc2
  refine zU ?_
  refine W_seq ?_
  refine W_block ?_
  apply W_drawMT 12 hF Tryzmixed [] [] [] rf dk0 dc HSub.refl
  intro ds
  refine P_det rf (Over_nil (y_move (c := .slice _ _ _) rf)) ?_
  refine P_det rf (Over_nil (y_move (c := .slice _ _ _) rf)) ?_
  refine P_det rf (Over_nil (y_move (c := .int .i64 _) rf)) ?_
  refine P_det rf (Over_nil (y_index (k := 2 * k) rf rf r10 d10 Tryz.runUnderlying22 Tryz.sizeOf3)) ?_
  refine P_det rf (Over_nil (y_load1 rf Tryz.isAgg3 zo)) ?_
  refine P_det rf (Over_nil (y_move (c := .slice _ _ _) rf)) ?_
  refine P_det rf (Over_nil (y_move (c := .int .i64 _) rf)) ?_
  refine P_det rf (Over_nil (y_add rf rf ui)) ?_
  refine P_det rf (Over_nil (y_index (k := 2 * k + 1) rf rf r10 d10 Tryz.runUnderlying22 Tryz.sizeOf3)) ?_
  refine P_det rf (Over_nil (y_load1 rf Tryz.isAgg3 zo)) ?_
  refine P_det rf (Over_nil (y_buildL bd47_0_1 rf)) ?_
  refine P_new rf rf (Over_nil (y_buildSliceL bs35_1_0 rf)) ?_
  refine PW_end rf ?_
  refine OverAll_cons (fun w23 l23 => ?_)
  refine OverAll_nil ?_
  rintro ⟨-, h23⟩
  obtain ⟨bx, rfl, rfl⟩ := h23
  refine WS_appendN hF (H1 := (_ :: [])) (Hn := Hr) (news := (ps.getD k Po.z).cells) rf rf rf Tryz.underlying35 infPo rf rf hrow (rowOf_len po_len _ _) (.inr ⟨_, _, rfl, Mem.own (us := (ps.getD k Po.z).cells) 0 rf rf⟩) rf rf om0 om0 om0 ?_
  intro a3 c3 H3 hr3
  have hrow3 : NewRow 47 2 (k + 1) (rowOf Po.cells (fun k => ps.getD k Po.z) (k + 1)) (.slice a3 (k + 1) c3) H3 := by
   rw [rowOf_succ]
   exact hr3
  refine za (.slice _ _ _) hF ?_
  refine WS_nil ?_
  refine InB_normal ?_
  refine zT fun ds => ?_
  refine zm (.int .i64 _) hF ?_
  refine zD hF (y_add rf rf ui) ?_
  refine za (.int .i64 _) hF ?_
  refine WS_nil ?_
  exact Loop_next (k + 1, a3, c3, H3) ⟨by simp only; omega, hrow3⟩ s30 sbA (by simp only; omega)
 ·
  try simp only [qz1, qz2, qz3, qz4, qz5, qz6, qz7, qz8] at c3
  refine W_exit ?_
  refine Then_exit ?_
  refine Loop_exit ?_
  refine InB_same ?_
  refine zS fun ds => ?_
  refine zm (.slice _ _ _) hF ?_
  refine za (.slice _ _ _) hF ?_
  refine zN ?_
  refine W_ret ?_
  refine Fin_ret [.slice _ _ _] Hr Tryz.results44 ⟨by rfl, trivial⟩ (HSub.sub sbA) ?_
  obtain rfl : k = ps.length := by omega
  exact ⟨ra, rc, rfl, hrow⟩
theorem getD_app_lt {α : Type} {l m : List α} {d : α} {k : Nat} (h : k < l.length) : (l ++ m).getD k d = l.getD k d := by
 simp [List.getD_eq_getElem?_getD, List.getElem?_append_left h]
theorem getD_app_eq {α : Type} {l : List α} {x d : α} : (l ++ [x]).getD l.length d = x := by simp [List.getD_eq_getElem?_getD]
theorem Cn.runK_app (c : Cn) (l m : List Po) : ∀ k, k ≤ l.length → c.runK (l ++ m) k = c.runK l k
 | 0, _ => rfl
 | k + 1, h => by
  unfold Cn.runK
  rw [Cn.runK_app c l m k om0, getD_app_lt om0]
theorem Cn.runK_snoc (c : Cn) (l : List Po) (p : Po) : c.runK (l ++ [p]) (l.length + 1) = c.stp (c.runK l l.length) p := by
 show c.stp (c.runK (l ++ [p]) l.length) ((l ++ [p]).getD l.length Po.z) = _
 rw [c.runK_app l [p] _ (Nat.le_refl _), getD_app_eq]
theorem Cn.RunOk.snoc {c : Cn} {l : List Po} {p : Po} (h : c.RunOk l l.length) (hp : c.pE (c.runK l l.length) p = 0) : c.RunOk (l ++ [p]) (l ++ [p]).length := fun j hj => by
 rw [List.length_append, List.length_singleton] at hj
 by_cases hjl : j = l.length
 ·subst hjl
  rw [c.runK_app l [p] _ (Nat.le_refl _), getD_app_eq]; exact hp
 ·rw [c.runK_app l [p] j om0, getD_app_lt om0]; exact h j om0
def Cn.b0 (c : Cn) (a1 : Option Addr) (p1 : Nat) (a2 : Option Addr) (p2 : Nat) : Bl := ⟨c.co, a1, p1, a2, p2⟩
structure WkS (c : Cn) (B0 : Bl) (ps : List Po) (bs : List Bl) (aA : Option Addr) (kA : Nat) (HA : List Blk) (aL : Option Addr) (kL : Nat) (HL HX : List Blk) : Prop where
 len : bs.length = ps.length
 run : c.RunOk ps ps.length
 x : ∀ k, k < bs.length → (bs.getD k Bl.z).x = c.runK ps (k + 1)
 rowA : NewRow 24 3 (B0 :: bs).length (blRow c (B0 :: bs)) (.slice aA (B0 :: bs).length kA) HA
 rowL : NewRow 47 2 ps.length (pRow ps) (.slice aL ps.length kL) HL
 rd : ∀ b ∈ bs, b.RdH c HX
theorem WkS.at {c : Cn} {B0 : Bl} {ps : List Po} {bs : List Bl} {aA : Option Addr} {kA : Nat} {HA : List Blk} {aL : Option Addr} {kL : Nat} {HL HX : List Blk} (h : WkS c B0 ps bs aA kA HA aL kL HL HX) (h0 : B0.x = c.co) {k : Nat} (hk : k ≤ bs.length) : ((B0 :: bs).getD k Bl.z).x = c.runK ps k := by
 cases k with
 | zero => exact h0
 | succ k => exact h.x k hk
theorem WkS.push {c : Cn} {B0 : Bl} {ps : List Po} {bs : List Bl} {aA : Option Addr} {kA : Nat} {HA : List Blk} {aL : Option Addr} {kL : Nat} {HL HX : List Blk} (h : WkS c B0 ps bs aA kA HA aL kL HL HX) {p : Po} {b : Bl} {aA' : Option Addr} {kA' : Nat} {HA' : List Blk} {aL' : Option Addr} {kL' : Nat} {HL' HX' : List Blk} (hp : c.pE (c.runK ps ps.length) p = 0) (hb : b.x = c.stp (c.runK ps ps.length) p)
  (rA : NewRow 24 3 (B0 :: (bs ++ [b])).length (blRow c (B0 :: (bs ++ [b]))) (.slice aA' (B0 :: (bs ++ [b])).length kA') HA')
  (rL : NewRow 47 2 (ps ++ [p]).length (pRow (ps ++ [p])) (.slice aL' (ps ++ [p]).length kL') HL') (hr : b.RdH c HX') (hs : HX.Sublist HX') : WkS c B0 (ps ++ [p]) (bs ++ [b]) aA' kA' HA' aL' kL' HL' HX' :=
 ⟨by rw [List.length_append, List.length_append, h.len]; rfl, h.run.snoc hp, fun k hk => by
  rw [List.length_append, List.length_singleton] at hk
  by_cases hkl : k = bs.length
  ·subst hkl
   rw [getD_app_eq, hb, h.len, c.runK_snoc]
  ·rw [getD_app_lt om0, h.x k om0, c.runK_app _ _ _ (by have := h.len; omega)], rA, rL, fun y hy => by
  rcases List.mem_append.1 hy with hy | hy
  ·exact (h.rd y hy).mono hs
  ·rw [List.mem_singleton] at hy; subst hy; exact hr⟩
def WalkV (c : Cn) (B0 : Bl) (many : Nat) (v : Value) (Hn : List Blk) : Prop := ∃ ps bs aA kA HA aL kL HL HX, v = .tuple #[.slice aA (B0 :: bs).length kA, .slice aL ps.length kL] ∧ ps.length ≤ many ∧ WkS c B0 ps bs aA kA HA aL kL HL HX ∧ Hn = HX ++ (HA ++ HL)
theorem NewRow.adr {T : TypeId} {sz m cap : Nat} {us : List Value} {a : Option Addr} {Hn : List Blk} (h : NewRow T sz m us (.slice a m cap) Hn) (h0 : 0 < m) : ∃ b, a = some ⟨b, 0, none⟩ := by
 obtain ⟨b, _, h1, _⟩ := NewRow.head h h0
 exact ⟨b, h1⟩
theorem Bl.ints {c : Cn} {b B0 : Bl} {HX : List Blk} {C : Ctx} {H : List Blk} (h : b = B0 ∨ b.RdH c HX) (h1 : Ints C.w0 B0.s c.n B0.ks c.sz) (h2 : Ints C.w0 B0.i (c.of B0.x).inn.length B0.ki (c.of B0.x).inn) (hs : HX.Sublist H) (w : World) (hw : St C H w) : Ints w b.s c.n b.ks c.sz ∧ Ints w b.i (c.of b.x).inn.length b.ki (c.of b.x).inn := by
 rcases h with rfl | h
 ·exact ⟨h1.st w hw, h2.st w hw⟩
 ·exact ⟨h.s C H w hs hw, h.i C H w hs hw⟩
theorem Bl.RdH.two {c : Cn} {x : Co} {z1 z2 : Option Addr} {q1 q2 : Nat} {H1 H2 HX : List Blk} (h1 : NewRow 3 1 c.n (iv c.sz) (.slice z1 c.n q1) H1) (h2 : NewRow 3 1 (c.of x).inn.length (iv (c.of x).inn) (.slice z2 (c.of x).inn.length q2) H2) (hs : (H1 ++ H2).Sublist HX) : (⟨x, z1, q1, z2, q2⟩ : Bl).RdH c HX :=
 (Bl.RdH.new (HX := []) h1 h2).mono hs
def LdV (c : Cn) (B0 : Bl) (ps : List Po) (v : Value) (Hn : List Blk) : Prop := ∃ b : Bl, v = .tuple #[.agg (b.cells c).toArray, .int .i64 (c.backK ps ps.length), .bool true] ∧ b.x = c.runK ps ps.length ∧ (b = B0 ∨ b.RdH c Hn)
def frL (n k : Nat) : List Int := (List.range n).map fun j => if j < k then -1 else 0
theorem blRow_cons_snoc (c : Cn) (B0 : Bl) (bs : List Bl) (y : Bl) : blRow c (B0 :: (bs ++ [y])) = blRow c (B0 :: bs) ++ y.cells c := by
 rw [← List.cons_append]; exact blRow_snoc c (B0 :: bs) y
theorem WkS.zero {c : Cn} {B0 : Bl} {bA : Nat} {L : List Value} (h : B0.cells c = L) : WkS c B0 [] [] (some ⟨bA, 0, none⟩) 1 [(bA, CB L 24)] none 0 [] [] := by
 subst h
 refine ⟨rfl, fun j hj => absurd hj (Nat.not_lt_zero _), fun k hk => absurd hk (Nat.not_lt_zero _), ⟨_, _, rfl, Nat.le_refl _, .inl ⟨Nat.zero_lt_one, bA, [], rfl, ?_, ?_⟩⟩, ⟨none, 0, rfl, Nat.le_refl _, .inr ⟨rfl, rfl, rfl⟩⟩, fun b hb => (by cases hb)⟩
 ·unfold blRow rowOf; simp
 ·unfold blRow rowOf; simp [Bl.cells]
theorem HSub.pullL {A M' B : List Blk} (L : List Blk) (hp : A.Perm (L ++ M')) (h : HSub (L ++ M') B) : HSub A B := fun N w hw => h N w (HSub.perm HSub.refl hp.symm N w hw)
theorem HSub.pull1 {A M' B : List Blk} (x : Blk) (hp : A.Perm (x :: M')) (h : HSub (x :: M') B) : HSub A B := fun N w hw => h N w (HSub.perm HSub.refl hp.symm N w hw)
theorem lwalk_any (c : Cn) (a1 : Option Addr) (p1 : Nat) (a2 : Option Addr) (p2 : Nat) (ba : Option Addr) (bn bcap : Nat) (by_ : List Int) (many : Nat) (w : World) (hok : c.Ok) (hn : c.n ≤ 1000000) (hm : c.inn.length ≤ 1000000) (h1 : Ints w a1 c.n p1 c.sz) (h2 : Ints w a2 c.inn.length p2 c.inn) (hmy : many ≤ 100) (hby : U4s w ba bn bcap by_) : Ct Tryz.prog 17 #[.agg #[.slice a1 c.n p1, .slice a2 c.inn.length p2, .int .i64 c.st], .slice ba bn bcap, .int .i64 (many : Int)] w (WalkV c (c.b0 a1 p1 a2 p2) many) := by
 have hn1 := hok.n1
 have hn3 := hok.n3
 have hco := hok.co_of
 have hi2 : (c.of (c.b0 a1 p1 a2 p2).x).inn = c.inn := by show (c.of c.co).inn = _; rw [hco]
 have hB2 : Ints w (c.b0 a1 p1 a2 p2).i (c.of (c.b0 a1 p1 a2 p2).x).inn.length (c.b0 a1 p1 a2 p2).ki (c.of (c.b0 a1 p1 a2 p2).x).inn := by rw [hi2]; exact h2
 have hB0 : (c.b0 a1 p1 a2 p2).cells c = [.slice a1 c.n p1, .slice a2 c.inn.length p2, .int .i64 c.st] := by
  show [Value.slice a1 c.n p1, .slice a2 (c.of (c.b0 a1 p1 a2 p2).x).inn.length p2, .int .i64 c.st] = _
  rw [hi2]
 obtain ⟨B0, hBB⟩ : ∃ B0, B0 = c.b0 a1 p1 a2 p2 := ⟨_, rfl⟩
 have hBx : B0.x = c.co := by rw [hBB]; rfl
 rw [← hBB] at hB2 hB0
 have hB1 : Ints w B0.s c.n B0.ks c.sz := by rw [hBB]; exact h1
 rw [← hBB]
 obtain ⟨N, hN⟩ : ∃ N, N = c.n + 1 := ⟨_, rfl⟩
 obtain ⟨M, hM⟩ : ∃ M, M = N * N := ⟨_, rfl⟩
 have hMI : (M : Int) = (N : Int) * (N : Int) := by rw [hM]; push_cast; rfl
 have hM4 : 4 ≤ M ∧ M ≤ 16 := by
  obtain h | h | h : N = 2 ∨ N = 3 ∨ N = 4 := by omega
  all_goals subst h; omega
 have hF := wide_wide
 refine Ct_start (args := [_, _, _]) Tryz.func17 rf Tryz.ntmps17 rf ?_
 refine zR fun ds => ?_
 refine WS_new hF rf (y_box rf) (fun b1 => ?_)
 refine za (.slice _ _ _) hF ?_
 refine za (.slice _ _ _) hF ?_
 refine zP fun ds => ?_
 refine zD hF (y_loadN rf Tryz.isAgg24 Tryz.sizeOf24 (Mem.own (us := [.slice _ _ _, .slice _ _ _, .int .i64 _]) 0 rf rf) rf) ?_
 refine WS_newS hF rf (y_buildSliceL bs34_1_0 rf) (fun bA => ?_)
 refine za (.slice _ _ _) hF ?_
 refine za (.slice _ _ _) hF ?_
 refine zP fun ds => ?_
 refine zD hF (y_fieldAddr rf fa24_0) ?_
 refine zD hF (y_load1 rf Tryz.isAgg22 (Mem.own1 1 rf rf)) ?_
 refine zD hF (y_len rf Tryz.runUnderlying22) ?_
 refine zD hF (y_add rf rf ui) ?_
 refine za (.int .i64 _) hF ?_
 refine zO ?_
 refine W_seq ?_
 rw [show ((c.n : Int) + 1) = (N : Int) by rw [hN]; push_cast; rfl]
 refine W_pull (b1, CB [.slice a1 c.n p1, .slice a2 c.inn.length p2, .int .i64 c.st] 24) zu ?_
 refine W_region_lit (fun ds => ?_)
 refine zm (.int .i64 _) hF ?_
 refine zm (.int .i64 _) hF ?_
 refine zN ?_
 refine W_block ?_
 refine W_loop (γ := Nat × List Po × List Bl × (Option Addr × Nat × List Blk) × (Option Addr × Nat × List Blk) × List Blk) (fun q => q.1 ≤ many ∧ q.2.1.length ≤ q.1 ∧ WkS c B0 q.2.1 q.2.2.1 q.2.2.2.1.1 q.2.2.2.1.2.1 q.2.2.2.1.2.2 q.2.2.2.2.1.1 q.2.2.2.2.1.2.1 q.2.2.2.2.1.2.2 q.2.2.2.2.2) (fun q => [(1, .slice ba bn bcap), (3, .pointer (some ⟨b1, 0, none⟩)), (8, .slice q.2.2.2.1.1 (B0 :: q.2.2.1).length q.2.2.2.1.2.1), (9, .slice q.2.2.2.2.1.1 q.2.1.length q.2.2.2.2.1.2.1), (10, .int .i64 (N : Int)), (23, .int .i64 (many : Int)), (24, .int .i64 (q.1 : Int))]) (fun q => (b1, CB [.slice a1 c.n p1, .slice a2 c.inn.length p2, .int .i64 c.st] 24) :: (q.2.2.2.2.2 ++ (q.2.2.2.1.2.2 ++ q.2.2.2.2.1.2.2))) (fun q => many - q.1) ((0, [], [], (some ⟨bA, 0, none⟩, 1, [(bA, CB [.slice a1 c.n p1, .slice a2 c.inn.length p2, .int .i64 c.st] 24)]), (none, 0, []), [])) ⟨Nat.zero_le _, Nat.le_refl _, WkS.zero hB0⟩ s10 ((by simp only [List.append_nil, List.nil_append]; exact List.Sublist.refl _)) ?_
 rintro ⟨i, ps, bs, ⟨aA, kA, HA⟩, ⟨aL, kL, HL⟩, HX⟩ e ⟨(hi : i ≤ many), (hpl : ps.length ≤ i), (hS : WkS c B0 ps bs aA kA HA aL kL HL HX)⟩
 refine zR fun ds => ?_
 refine zD hF (y_lss rf rf) ?_
 refine zO ?_
 refine W_cond rf (fun c4 => ?_) (fun c4 => ?_)
 ·
  try simp only [qz1, qz2, qz3, qz4, qz5, qz6, qz7, qz8] at c4
  have hBl := hS.len
  have hbl : bs.length ≤ 100 := by omega
  have hcl : (B0 :: bs).length = bs.length + 1 := rfl
  refine zU ?_
  refine W_seq ?_
  refine W_block ?_
  refine zR fun ds => ?_
  refine zm (.int .i64 _) hF ?_
  refine za (.int .i64 _) hF ?_
  refine zP fun ds => ?_
  refine zm (.int .i64 _) hF ?_
  refine zm (.int .i64 _) hF ?_
  refine zD hF (y_mul rf rf (by rw [← hMI]; unfold I64; omega)) ?_
  rw [← hMI]
  refine zm (.int .i64 _) hF ?_
  refine zN ?_
  refine W_block ?_
  refine W_loop (γ := Nat) (fun k => k ≤ M) (fun k => [(1, .slice ba bn bcap), (3, .pointer (some ⟨b1, 0, none⟩)), (8, .slice aA (B0 :: bs).length kA), (9, .slice aL ps.length kL), (10, .int .i64 (N : Int)), (11, .int .i64 (i : Int)), (23, .int .i64 (many : Int)), (24, .int .i64 (i : Int)), (29, .int .i64 (M : Int)), (30, .int .i64 (k : Int))]) (fun _ => (b1, CB [.slice a1 c.n p1, .slice a2 c.inn.length p2, .int .i64 c.st] 24) :: (HX ++ (HA ++ HL))) (fun k => M - k) (0) (Nat.zero_le _) s10 (sbA) ?_
  rintro k e hk
  refine zR fun ds => ?_
  refine zD hF (y_lss rf rf) ?_
  refine zO ?_
  refine W_cond rf (fun c7 => ?_) (fun c7 => ?_)
  ·
   try simp only [qz1, qz2, qz3, qz4, qz5, qz6, qz7, qz8] at c7
   refine zU ?_
   refine W_seq ?_
   refine W_block ?_
   refine zR fun ds => ?_
   refine zm (.int .i64 _) hF ?_
   refine za (.int .i64 _) hF ?_
   refine zP fun ds => ?_
   refine zm (.slice _ _ _) hF ?_
   refine zm (.int .i64 _) hF ?_
   refine WS_gen hF rf (y_callL rf rf Tryz.call51 (fun w hw => lchoose_any ba bn bcap by_ i w hby.le om0 (hby.st w hw))) ?_
   rintro _ Hd ⟨m, rfl, hm⟩
   refine WS_sub (HSub.sub (List.sublist_append_right _ _)) ?_
   refine zm (.int .i64 _) hF ?_
   refine zD hF (y_add rf rf ui) ?_
   refine zm (.int .i64 _) hF ?_
   refine zm (.int .i64 _) hF ?_
   refine zD hF (y_mul rf rf (by rw [← hMI]; unfold I64; omega)) ?_
   rw [← hMI]
   refine zD hF (y_rem rf rf om0 om0) ?_
   refine za (.int .i64 _) hF ?_
   refine zO ?_
   obtain ⟨Z, hZ, hZM⟩ : ∃ Z : Nat, ((m : Int) + (k : Int)) % (M : Int) = (Z : Int) ∧ Z < M := ⟨(m + k) % M, by push_cast; rfl, Nat.mod_lt _ om0⟩
   rw [hZ]
   obtain ⟨f, hf⟩ : ∃ f, f = Z / N := ⟨_, rfl⟩
   obtain ⟨t, ht⟩ : ∃ t, t = Z % N := ⟨_, rfl⟩
   have hfN : f < N := by rw [hf]; exact Nat.div_lt_of_lt_mul om0
   have htN : t < N := by rw [ht]; exact Nat.mod_lt _ om0
   have hfI : (Z : Int) / (N : Int) = (f : Int) := by rw [hf]; push_cast; rfl
   have htI : (Z : Int) % (N : Int) = (t : Int) := by rw [ht]; push_cast; rfl
   refine W_draw0 hF Tryzmixed [13] dk0 (fun ds => ?_)
   refine P_det rf (Over_nil (y_move (c := .int .i64 _) rf)) ?_
   refine P_det rf (Over_nil (y_move (c := .int .i64 _) rf)) ?_
   refine P_det rf (Over_nil (y_quo rf rf om0 om0 ui)) ?_
   refine P_det rf (Over_nil (y_move (c := .int .i64 _) rf)) ?_
   refine P_det rf (Over_nil (y_move (c := .int .i64 _) rf)) ?_
   refine P_det rf (Over_nil (y_rem rf rf om0 om0)) ?_
   refine P_det rf (Over_nil (y_buildL bd47_0_1 rf)) ?_
   apply P_newS _ rf rf rf (Over_nil (y_alloc Tryz.zeroValue47 rf))
   refine P_st 13 0 rf rf rf rf rf (Over_nil (st_new (fun _ => by rfl) Tryz.sizeOf47 rf rf d20)) ?_
   refine PW_end rf ?_
   refine OverAll_cons (fun w13 l13 => ?_)
   refine OverAll_nil ?_
   rintro ⟨-, h13⟩
   obtain ⟨bx, rfl, rfl⟩ := h13
   refine Then_normal ?_
   refine W_seq ?_
   refine W_seq ?_
   rw [hfI, htI]
   refine W_region_lit (fun ds => ?_)
   refine zD hF (y_fieldAddr rf fa47_0) ?_
   refine zD hF (y_load1 rf Tryz.isAgg3 (Mem.own1 0 rf rf)) ?_
   refine zD hF (y_fieldAddr rf fa47_1) ?_
   refine zD hF (y_load1 rf Tryz.isAgg3 (Mem.own1 0 rf rf)) ?_
   refine zD hF (y_eql rf rf) ?_
   refine zN ?_
   refine W_cond rf (fun c11 => ?_) (fun c11 => ?_)
   ·
    try simp only [qz1, qz2, qz3, qz4, qz5, qz6, qz7, qz8] at c11
    have hft : f = t := by omega
    refine W_exit ?_
    refine Then_exit ?_
    refine InB_same ?_
    refine zT fun ds => ?_
    refine zD hF (y_add rf rf ui) ?_
    refine zm (.int .i64 _) hF ?_
    refine WS_nil ?_
    exact Loop_next (k + 1) om0 s10 sbA om0
   ·
    try simp only [qz1, qz2, qz3, qz4, qz5, qz6, qz7, qz8] at c11
    have hft : f ≠ t := by omega
    obtain ⟨y, hy⟩ : ∃ y, y = (B0 :: bs).getD bs.length Bl.z := ⟨_, rfl⟩
    have hyx : y.x = c.runK ps ps.length := by rw [hy, hS.at hBx (Nat.le_refl _), hBl]
    have hyr : y = B0 ∨ y.RdH c HX := by
     rw [hy]
     cases bs with
     | nil => exact .inl rfl
     | cons b bs =>
      refine .inr (hS.rd _ ?_)
      show (b :: bs).getD bs.length Bl.z ∈ _
      rw [List.getD_eq_getElem?_getD, List.getElem?_eq_getElem (by simp)]
      exact List.getElem_mem _
    have hin : c.In y.x := by rw [hyx]; exact hok.run_in fun j hj => hS.run j hj
    have hoc := hok.of_co hin
    have hok2 := hok.of hin
    obtain ⟨br, hbr⟩ := NewRow.adr hS.rowA (by simp)
    subst hbr
    refine zU ?_
    refine W_seq ?_
    refine W_draw0 hF Tryzmixed [14] dk0 (fun ds => ?_)
    refine P_det rf (Over_nil (y_move (c := .slice _ _ _) rf)) ?_
    refine P_det rf (Over_nil (y_move (c := .slice _ _ _) rf)) ?_
    refine P_det rf (Over_nil (y_len rf Tryz.runUnderlying34)) ?_
    refine P_det rf (Over_nil (y_sub rf rf ui)) ?_
    refine P_det rf (Over_nil (y_index (k := bs.length) rf rf r10 d10 Tryz.runUnderlying34 Tryz.sizeOf24)) ?_
    refine P_det rf (Over_nil (y_loadN rf Tryz.isAgg24 Tryz.sizeOf24 (fun w hw => (show At w br (0 + bs.length * 3) [.slice y.s c.n y.ks, .slice y.i (c.of y.x).inn.length y.ki, .int .i64 y.x.a] by rw [hy]; exact (NewRow.rws (bl_len c) hS.rowA rfl sbA w hw).at (k := bs.length) (by simp))) rf)) ?_
    refine P_det rf (Over_nil (y_loadN rf Tryz.isAgg47 Tryz.sizeOf47 (Mem.own (us := [.int .i64 _, .int .i64 _]) 0 rf rf) rf)) ?_
    refine P_new rf rf (Over_nil (y_callL rf rf Tryz.call24 (fun w hw => lstep_any (c.of y.x) y.s y.ks y.i y.ki f t w hok2 hn (by rw [c.of_len y.x hn3]; omega) (Bl.ints hyr hB1 hB2 sbA w hw).1 (Bl.ints hyr hB1 hB2 sbA w hw).2 (by show f ≤ c.n; omega) (by show t ≤ c.n; omega) hft))) ?_
    refine P_ali [62] (fun e => e 62) rf rf rf (fun _ _ h => h 62 (List.mem_singleton.2 rfl)) (Over_in rf (Over_nil (by intro vb3 l62 hb3; obtain ⟨d, n, _, rfl, ⟨z1, q1, z2, q2, H1, H2, rfl, hr1, hr2, hJ⟩, hd⟩ := hb3; obtain ⟨JJ, rfl⟩ : ∃ JJ, JJ = l62 := ⟨_, rfl⟩; exact (YD0_of (y_move (c := .tuple _) rf))))) ?_
    refine P_ali [54] (fun e => tupAt (e 54) 0) rf rf rf (fun _ _ h => congrArg (tupAt · 0) (h 54 (List.mem_singleton.2 rfl))) (Over_in rf (Over_in rf (Over_nil (by intro vb5 l62 hb5; obtain ⟨d, n, _, rfl, ⟨z1, q1, z2, q2, H1, H2, rfl, hr1, hr2, hJ⟩, hd⟩ := hb5; obtain ⟨JJ, rfl⟩ : ∃ JJ, JJ = l62 := ⟨_, rfl⟩; rintro vb6 _ ⟨hvb6, rfl⟩; replace hvb6 : vb6 = .tuple _ := hvb6; subst hvb6; exact (YD0_of (y_extract (c := .agg _) rf rf)))))) ?_
    refine P_ali [54] (fun e => tupAt (e 54) 1) rf rf rf (fun _ _ h => congrArg (tupAt · 1) (h 54 (List.mem_singleton.2 rfl))) (Over_out rf (Over_in rf (Over_in rf (Over_nil (by intro vb8 l62 hb8; obtain ⟨d, n, _, rfl, ⟨z1, q1, z2, q2, H1, H2, rfl, hr1, hr2, hJ⟩, hd⟩ := hb8; obtain ⟨JJ, rfl⟩ : ∃ JJ, JJ = l62 := ⟨_, rfl⟩; rintro vb9 _ ⟨hvb9, rfl⟩; replace hvb9 : vb9 = .tuple _ := hvb9; subst hvb9; exact (YD0_of (y_extract (c := .int .i64 _) rf rf))))))) ?_
    refine P_ali [54] (fun e => tupAt (e 54) 2) rf rf rf (fun _ _ h => congrArg (tupAt · 2) (h 54 (List.mem_singleton.2 rfl))) (Over_out rf (Over_out rf (Over_in rf (Over_in rf (Over_nil (by intro vb11 l62 hb11; obtain ⟨d, n, _, rfl, ⟨z1, q1, z2, q2, H1, H2, rfl, hr1, hr2, hJ⟩, hd⟩ := hb11; obtain ⟨JJ, rfl⟩ : ∃ JJ, JJ = l62 := ⟨_, rfl⟩; rintro vb12 _ ⟨hvb12, rfl⟩; replace hvb12 : vb12 = .tuple _ := hvb12; subst hvb12; exact (YD0_of (y_extract (c := .bool _) rf rf)))))))) ?_
    refine P_newSD 63 rf rf rf (Over_out rf (Over_out rf (Over_out rf (Over_out rf (Over_out rf (Over_nil (y_alloc Tryz.zeroValue24 rf))))))) ?_
    refine P_st 14 0 rf rf rf rf rf (Over_out rf (Over_out rf (Over_in rf (Over_in rf (Over_in rf (Over_nil (by intro vb14 l62 hb14; obtain ⟨d, n, _, rfl, ⟨z1, q1, z2, q2, H1, H2, rfl, hr1, hr2, hJ⟩, hd⟩ := hb14; obtain ⟨JJ, rfl⟩ : ∃ JJ, JJ = l62 := ⟨_, rfl⟩; rintro vb15 _ ⟨hvb15, rfl⟩; replace hvb15 : vb15 = .tuple _ := hvb15; subst hvb15; rintro vb16 _ ⟨hvb16, rfl⟩; replace hvb16 : vb16 = .agg _ := hvb16; subst hvb16; exact (st_newD rf rf Tryz.sizeOf24 rf rf d20)))))))) ?_
    refine P_ali [64] (fun e => e 64) rf rf rf (fun _ _ h => h 64 (List.mem_singleton.2 rfl)) (Over_out rf (Over_out rf (Over_in rf (Over_out rf (Over_in rf (Over_in rf (Over_nil (by intro vb17 l62 hb17; obtain ⟨d, n, _, rfl, ⟨z1, q1, z2, q2, H1, H2, rfl, hr1, hr2, hJ⟩, hd⟩ := hb17; obtain ⟨JJ, rfl⟩ : ∃ JJ, JJ = l62 := ⟨_, rfl⟩; rintro vb18 _ ⟨hvb18, rfl⟩; replace hvb18 : vb18 = .tuple _ := hvb18; subst hvb18; rintro vb19 _ ⟨hvb19, rfl⟩; replace hvb19 : vb19 = .int .i64 _ := hvb19; subst hvb19; exact (YD0_of (y_assign (c := .int .i64 _) rf)))))))))) ?_
    refine P_ali [65] (fun e => e 65) rf rf rf (fun _ _ h => h 65 (List.mem_singleton.2 rfl)) (Over_out rf (Over_out rf (Over_in rf (Over_out rf (Over_out rf (Over_in rf (Over_in rf (Over_nil (by intro vb21 l62 hb21; obtain ⟨d, n, _, rfl, ⟨z1, q1, z2, q2, H1, H2, rfl, hr1, hr2, hJ⟩, hd⟩ := hb21; obtain ⟨JJ, rfl⟩ : ∃ JJ, JJ = l62 := ⟨_, rfl⟩; rintro vb22 _ ⟨hvb22, rfl⟩; replace hvb22 : vb22 = .tuple _ := hvb22; subst hvb22; rintro vb23 _ ⟨hvb23, rfl⟩; replace hvb23 : vb23 = .bool _ := hvb23; subst hvb23; exact (YD0_of (y_assign (c := .bool _) rf))))))))))) ?_
    refine PW_end rf ?_
    refine OverAll_cons (fun w16 l16 => ?_)
    refine OverAll_cons (fun w15 l15 => ?_)
    refine OverAll_cons (fun w14 l14 => ?_)
    refine OverAll_cons (fun w65 l65 => ?_)
    refine OverAll_cons (fun w64 l64 => ?_)
    refine OverAll_cons (fun w63 l63 => ?_)
    refine OverAll_cons (fun w54 l54 => ?_)
    refine OverAll_cons (fun w62 l62 => ?_)
    refine OverAll_nil ?_
    rintro ⟨⟨⟨⟨⟨⟨⟨⟨-, h16⟩, h15⟩, h14⟩, h65⟩, h64⟩, h63⟩, h54⟩, h62⟩
    obtain ⟨d, n, _, rfl, ⟨z1, q1, z2, q2, H1, H2, rfl, hr1, hr2, hJ⟩, hd⟩ := h62
    obtain ⟨JJ, rfl⟩ : ∃ JJ, JJ = l62 := ⟨_, rfl⟩
    obtain ⟨h54, rfl⟩ := h54
    replace h54 : w54 = .tuple _ := h54
    subst h54
    obtain ⟨h63, rfl⟩ := h63
    replace h63 : w63 = .agg _ := h63
    subst h63
    obtain ⟨h64, rfl⟩ := h64
    replace h64 : w64 = .int .i64 _ := h64
    subst h64
    obtain ⟨h65, rfl⟩ := h65
    replace h65 : w65 = .bool _ := h65
    subst h65
    obtain ⟨h15, rfl⟩ := h15
    replace h15 : w15 = .int .i64 _ := h15
    subst h15
    obtain ⟨h16, rfl⟩ := h16
    replace h16 : w16 = .bool _ := h16
    subst h16
    obtain ⟨bd, rfl, rfl⟩ := h14
    refine zS fun ds => ?_
    refine zm (.bool _) hF ?_
    refine zN ?_
    refine W_cond rf (fun c13 => ?_) (fun c13 => ?_)
    ·
     try simp only [qz1, qz2, qz3, qz4, qz5, qz6, qz7, qz8] at c13
     rw [hoc] at hd
     have hcan : c.canB y.x f t = true := by
      have : (c.of y.x).canB (c.of y.x).co f t = true := c13
      rw [hoc] at this; exact this
     obtain ⟨rfl, rfl⟩ := hd hcan
     obtain ⟨X2, hX2⟩ : ∃ X2, X2 = c.to y.x f t := ⟨_, rfl⟩
     have hxx : (c.of y.x).of ((c.of y.x).to y.x f t) = c.of X2 := by rw [hX2]; rfl
     rw [hxx] at hr1 hr2
     rw [hxx]
     obtain ⟨hf9, ht9⟩ : f ≤ c.n ∧ t ≤ c.n := by omega
     have hpe : c.pE (c.runK ps ps.length) (⟨(f : Int), (t : Int)⟩ : Po) = 0 := by
      rw [← hyx]
      exact Cn.pE_zero.2 ⟨Cn.vld_iff.2 ⟨⟨by simp only; omega, by simp only; omega⟩, ⟨by simp only; omega, by simp only; omega⟩, by simp only; omega⟩, hcan⟩
     refine W_seq ?_
     refine W_pull (b1, CB [.slice a1 c.n p1, .slice a2 c.inn.length p2, .int .i64 c.st] 24) zu ?_
     refine W_pull (bx, CB [.int .i64 (f : Int), .int .i64 (t : Int)] 47) zu ?_
     refine W_pull (bd, CB (Bl.cells c (⟨X2, z1, q1, z2, q2⟩ : Bl)) 24) zu ?_
     refine W_tailH0 ((bd, CB (Bl.cells c (⟨X2, z1, q1, z2, q2⟩ : Bl)) 24) :: (bx, CB [.int .i64 (f : Int), .int .i64 (t : Int)] 47) :: (b1, CB [.slice a1 c.n p1, .slice a2 c.inn.length p2, .int .i64 c.st] 24) :: []) 8 Tryzmixed (fun e2 H2 => ∃ aA3 kA3 HA3 aL3 kL3 HL3, NewRow 24 3 (B0 :: (bs ++ [(⟨X2, z1, q1, z2, q2⟩ : Bl)])).length (blRow c (B0 :: (bs ++ [(⟨X2, z1, q1, z2, q2⟩ : Bl)]))) (.slice aA3 (B0 :: (bs ++ [(⟨X2, z1, q1, z2, q2⟩ : Bl)])).length kA3) HA3 ∧ NewRow 47 2 (ps ++ [(⟨(f : Int), (t : Int)⟩ : Po)]).length (pRow (ps ++ [(⟨(f : Int), (t : Int)⟩ : Po)])) (.slice aL3 (ps ++ [(⟨(f : Int), (t : Int)⟩ : Po)]).length kL3) HL3 ∧ Slots e2 [(1, .slice ba bn bcap), (3, .pointer (some ⟨b1, 0, none⟩)), (10, .int .i64 (N : Int)), (23, .int .i64 (many : Int)), (24, .int .i64 (i : Int)), (70, .slice aA3 (B0 :: (bs ++ [(⟨X2, z1, q1, z2, q2⟩ : Bl)])).length kA3), (74, .slice aL3 (ps ++ [(⟨(f : Int), (t : Int)⟩ : Po)]).length kL3)] ∧ HSub H2 ((b1, CB [.slice a1 c.n p1, .slice a2 c.inn.length p2, .int .i64 c.st] 24) :: (JJ ++ (HX ++ (HA3 ++ HL3))))) dk0 (fun ds e2 H2 hmid => ?_) (fun ds => ?_)
     ·
      obtain ⟨aA3, kA3, HA3, aL3, kL3, HL3, hA3, hL3, hsl, hsb⟩ := hmid
      rw [← hsl.sets]
      refine WS_sub hsb ?_
      have hS3 : WkS c B0 (ps ++ [(⟨(f : Int), (t : Int)⟩ : Po)]) (bs ++ [(⟨X2, z1, q1, z2, q2⟩ : Bl)]) aA3 kA3 HA3 aL3 kL3 HL3 (JJ ++ HX) := hS.push hpe (by rw [← hyx]; exact hX2) hA3 hL3 (Bl.RdH.two hr1 hr2 (by rw [hJ]; exact List.sublist_append_left _ _)) (List.sublist_append_right _ _)
      refine za (.slice _ _ _) hF ?_
      refine za (.slice _ _ _) hF ?_
      refine zN ?_
      refine W_exit ?_
      refine InB_other rf ?_
      refine Then_exit ?_
      refine Loop_exit ?_
      refine InB_same ?_
      refine InB_normal ?_
      refine zT fun ds => ?_
      refine zD hF (y_add rf rf ui) ?_
      refine zm (.int .i64 _) hF ?_
      refine WS_nil ?_
      exact Loop_next (i + 1, ps ++ [⟨(f : Int), (t : Int)⟩], bs ++ [⟨X2, z1, q1, z2, q2⟩], (aA3, kA3, HA3), (aL3, kL3, HL3), JJ ++ HX) ⟨by simp only; omega, by simp only [List.length_append, List.length_singleton]; omega, hS3⟩ s10 sbA (by simp only; omega)
     ·
      refine WH_as (fun X hX => ?_)
      have J2_3_6 : ∀ (aA3 : Option Addr) (kA3 : Nat) (HA3 : List Blk) (bv : Nat) (hA3 : NewRow 24 3 (B0 :: (bs ++ [(⟨X2, z1, q1, z2, q2⟩ : Bl)])).length (blRow c (B0 :: (bs ++ [(⟨X2, z1, q1, z2, q2⟩ : Bl)]))) (.slice aA3 (B0 :: (bs ++ [(⟨X2, z1, q1, z2, q2⟩ : Bl)])).length kA3) HA3) (e2 : Env) (H2 : List Blk), Slots e2 [(1, .slice ba bn bcap), (3, .pointer (some ⟨b1, 0, none⟩)), (10, .int .i64 (N : Int)), (23, .int .i64 (many : Int)), (24, .int .i64 (i : Int)), (13, .pointer (some ⟨bx, 0, none⟩)), (14, .pointer (some ⟨bd, 0, none⟩)), (67, .slice (some ⟨br, 0, none⟩) (B0 :: bs).length kA), (68, .agg (Bl.cells c (⟨X2, z1, q1, z2, q2⟩ : Bl)).toArray), (71, .slice aL ps.length kL), (72, .agg #[.int .i64 (f : Int), .int .i64 (t : Int)]), (70, .slice aA3 (B0 :: (bs ++ [(⟨X2, z1, q1, z2, q2⟩ : Bl)])).length kA3), (73, .slice (some ⟨bv, 0, none⟩) 1 1)] → HSub H2 ((bv, CB [.int .i64 (f : Int), .int .i64 (t : Int)] 47) :: (bd, CB (Bl.cells c (⟨X2, z1, q1, z2, q2⟩ : Bl)) 24) :: (bx, CB [.int .i64 (f : Int), .int .i64 (t : Int)] 47) :: (b1, CB [.slice a1 c.n p1, .slice a2 c.inn.length p2, .int .i64 c.st] 24) :: HA3 ++ (JJ ++ (HX ++ (HL)))) → X 1 #[true, true, true, true, true, true, true, false] e2 H2 := by
       intro aA3 kA3 HA3 bv hA3 e2 H2 hsl hsb
       rw [← hsl.sets, hX]
       refine WH_sub hsb (HSub.sub sbA) ?_
       refine WH_step1 7 dk0 (fun _ h => St.sub h sbA) rf ?_
       ·
        refine WS_pull (bv, _) zu ?_
        refine WS_pullE HL (by repeat (first | exact PulE.hd | exact PulE.snd | exact PulE.one | apply PulE.cons | apply PulE.app)) ?_
        refine WS_appendN hF (H1 := (_ :: _ :: _ :: _ :: (HA3 ++ (JJ ++ (HX))))) (Hn := HL) (news := Po.cells (⟨(f : Int), (t : Int)⟩ : Po)) rf rf rf Tryz.underlying35 infPo rf rf hS.rowL (rowOf_len po_len _ _) (.inr ⟨bv, 0, rfl, Mem.own (us := Po.cells (⟨(f : Int), (t : Int)⟩ : Po)) 0 rf rf⟩) rf rf om0 om0 om0 ?_
        intro aL3 kL3 HL3 hr3
        have hL3 : NewRow 47 2 (ps ++ [(⟨(f : Int), (t : Int)⟩ : Po)]).length (pRow (ps ++ [(⟨(f : Int), (t : Int)⟩ : Po)])) (.slice aL3 (ps ++ [(⟨(f : Int), (t : Int)⟩ : Po)]).length kL3) HL3 := by
         rw [pRow_snoc, List.length_append]; exact hr3
        rw [show ps.length + 1 = (ps ++ [(⟨(f : Int), (t : Int)⟩ : Po)]).length by simp]
        simp only [List.append_assoc, List.cons_append, List.append_eq]
        refine WS_nil ?_
        refine WH_done dk0 (fun _ h => St.sub h sbA) ?_
        refine ⟨_, _, _, _, _, _, hA3, hL3, s30, ?_⟩
        refine HSub.pullL HL3 (by repeat (first | exact PulL.base | exact PulL.base1 | apply PulL.cons | apply PulL.app)) ?_
        refine HSub.pullL HA3 (by repeat (first | exact PulL.base | exact PulL.base1 | apply PulL.cons | apply PulL.app)) ?_
        refine HSub.pullL HX (by repeat (first | exact PulL.base | exact PulL.base1 | apply PulL.cons | apply PulL.app)) ?_
        refine HSub.pullL JJ (by repeat (first | exact PulL.base | exact PulL.base1 | apply PulL.cons | apply PulL.app)) ?_
        refine HSub.pull1 (b1, CB [.slice a1 c.n p1, .slice a2 c.inn.length p2, .int .i64 c.st] 24) zu ?_
        exact HSub.sub sbA
      have J2_3 : ∀ (aA3 : Option Addr) (kA3 : Nat) (HA3 : List Blk) (hA3 : NewRow 24 3 (B0 :: (bs ++ [(⟨X2, z1, q1, z2, q2⟩ : Bl)])).length (blRow c (B0 :: (bs ++ [(⟨X2, z1, q1, z2, q2⟩ : Bl)]))) (.slice aA3 (B0 :: (bs ++ [(⟨X2, z1, q1, z2, q2⟩ : Bl)])).length kA3) HA3) (e2 : Env) (H2 : List Blk), Slots e2 [(1, .slice ba bn bcap), (3, .pointer (some ⟨b1, 0, none⟩)), (10, .int .i64 (N : Int)), (23, .int .i64 (many : Int)), (24, .int .i64 (i : Int)), (13, .pointer (some ⟨bx, 0, none⟩)), (14, .pointer (some ⟨bd, 0, none⟩)), (67, .slice (some ⟨br, 0, none⟩) (B0 :: bs).length kA), (68, .agg (Bl.cells c (⟨X2, z1, q1, z2, q2⟩ : Bl)).toArray), (71, .slice aL ps.length kL), (72, .agg #[.int .i64 (f : Int), .int .i64 (t : Int)]), (70, .slice aA3 (B0 :: (bs ++ [(⟨X2, z1, q1, z2, q2⟩ : Bl)])).length kA3)] → HSub H2 ((bd, CB (Bl.cells c (⟨X2, z1, q1, z2, q2⟩ : Bl)) 24) :: (bx, CB [.int .i64 (f : Int), .int .i64 (t : Int)] 47) :: (b1, CB [.slice a1 c.n p1, .slice a2 c.inn.length p2, .int .i64 c.st] 24) :: HA3 ++ (JJ ++ (HX ++ (HL)))) → X 2 #[true, true, true, true, true, true, false, false] e2 H2 := by
       intro aA3 kA3 HA3 hA3 e2 H2 hsl hsb
       rw [← hsl.sets, hX]
       refine WH_sub hsb (HSub.sub sbA) ?_
       refine WH_step1 6 dk0 (fun _ h => St.sub h sbA) rf ?_
       ·
        refine WS_newS hF rf (y_buildSliceL bs35_1_0 rf) (fun bv => ?_)
        refine WS_nil ?_
        refine WH_pullL HL (by repeat (first | exact PulL.base | exact PulL.base1 | apply PulL.cons | apply PulL.app)) ?_
        refine WH_pullL HX (by repeat (first | exact PulL.base | exact PulL.base1 | apply PulL.cons | apply PulL.app)) ?_
        refine WH_pullL JJ (by repeat (first | exact PulL.base | exact PulL.base1 | apply PulL.cons | apply PulL.app)) ?_
        refine WH_pullL HA3 (by repeat (first | exact PulL.base | exact PulL.base1 | apply PulL.cons | apply PulL.app)) ?_
        refine WH_pull (b1, CB [.slice a1 c.n p1, .slice a2 c.inn.length p2, .int .i64 c.st] 24) zu ?_
        refine WH_pull (bx, CB [.int .i64 (f : Int), .int .i64 (t : Int)] 47) zu ?_
        refine WH_pull (bd, CB (Bl.cells c (⟨X2, z1, q1, z2, q2⟩ : Bl)) 24) zu ?_
        refine WH_pull (bv, CB [.int .i64 (f : Int), .int .i64 (t : Int)] 47) zu ?_
        exact WH_of hX rf dk0 (J2_3_6 aA3 kA3 HA3 bv hA3 _ _ s10 (HSub.sub (by repeat (first | exact List.nil_sublist _ | exact List.Sublist.refl _ | exact List.sublist_append_left _ _ | apply List.Sublist.cons_cons | apply List.Sublist.append_left))))
      have J2_6 : ∀ (bu : Nat) (bv : Nat) (e2 : Env) (H2 : List Blk), Slots e2 [(1, .slice ba bn bcap), (3, .pointer (some ⟨b1, 0, none⟩)), (10, .int .i64 (N : Int)), (23, .int .i64 (many : Int)), (24, .int .i64 (i : Int)), (13, .pointer (some ⟨bx, 0, none⟩)), (14, .pointer (some ⟨bd, 0, none⟩)), (67, .slice (some ⟨br, 0, none⟩) (B0 :: bs).length kA), (68, .agg (Bl.cells c (⟨X2, z1, q1, z2, q2⟩ : Bl)).toArray), (71, .slice aL ps.length kL), (72, .agg #[.int .i64 (f : Int), .int .i64 (t : Int)]), (69, .slice (some ⟨bu, 0, none⟩) 1 1), (73, .slice (some ⟨bv, 0, none⟩) 1 1)] → HSub H2 ((bu, CB (Bl.cells c (⟨X2, z1, q1, z2, q2⟩ : Bl)) 24) :: (bv, CB [.int .i64 (f : Int), .int .i64 (t : Int)] 47) :: (bd, CB (Bl.cells c (⟨X2, z1, q1, z2, q2⟩ : Bl)) 24) :: (bx, CB [.int .i64 (f : Int), .int .i64 (t : Int)] 47) :: (b1, CB [.slice a1 c.n p1, .slice a2 c.inn.length p2, .int .i64 c.st] 24) :: JJ ++ (HX ++ (HA ++ (HL)))) → X 2 #[true, true, true, false, true, true, true, false] e2 H2 := by
       intro bu bv e2 H2 hsl hsb
       rw [← hsl.sets, hX]
       refine WH_sub hsb (HSub.sub sbA) ?_
       refine WH_step1 3 dk0 (fun _ h => St.sub h sbA) rf ?_
       ·
        refine WS_pull (bu, _) zu ?_
        refine WS_pullE HA (by repeat (first | exact PulE.hd | exact PulE.snd | exact PulE.one | apply PulE.cons | apply PulE.app)) ?_
        refine WS_appendN hF (H1 := (_ :: _ :: _ :: _ :: _ :: (JJ ++ (HX ++ (HL))))) (Hn := HA) (news := Bl.cells c (⟨X2, z1, q1, z2, q2⟩ : Bl)) rf rf rf Tryz.underlying34 infCans rf rf hS.rowA (blRow_len c _) (.inr ⟨bu, 0, rfl, Mem.own (us := Bl.cells c (⟨X2, z1, q1, z2, q2⟩ : Bl)) 0 rf rf⟩) rf rf om0 om0 om0 ?_
        intro aA3 kA3 HA3 hr3
        have hA3 : NewRow 24 3 (B0 :: (bs ++ [(⟨X2, z1, q1, z2, q2⟩ : Bl)])).length (blRow c (B0 :: (bs ++ [(⟨X2, z1, q1, z2, q2⟩ : Bl)]))) (.slice aA3 (B0 :: (bs ++ [(⟨X2, z1, q1, z2, q2⟩ : Bl)])).length kA3) HA3 := by
         rw [blRow_cons_snoc, show (B0 :: (bs ++ [(⟨X2, z1, q1, z2, q2⟩ : Bl)])).length = (B0 :: bs).length + 1 by simp]; exact hr3
        rw [show (B0 :: bs).length + 1 = (B0 :: (bs ++ [(⟨X2, z1, q1, z2, q2⟩ : Bl)])).length by simp]
        simp only [List.append_assoc, List.cons_append, List.append_eq]
        refine WS_nil ?_
        refine WH_pullL HL (by repeat (first | exact PulL.base | exact PulL.base1 | apply PulL.cons | apply PulL.app)) ?_
        refine WH_pullL HX (by repeat (first | exact PulL.base | exact PulL.base1 | apply PulL.cons | apply PulL.app)) ?_
        refine WH_pullL JJ (by repeat (first | exact PulL.base | exact PulL.base1 | apply PulL.cons | apply PulL.app)) ?_
        refine WH_pullL HA3 (by repeat (first | exact PulL.base | exact PulL.base1 | apply PulL.cons | apply PulL.app)) ?_
        refine WH_pull (b1, CB [.slice a1 c.n p1, .slice a2 c.inn.length p2, .int .i64 c.st] 24) zu ?_
        refine WH_pull (bx, CB [.int .i64 (f : Int), .int .i64 (t : Int)] 47) zu ?_
        refine WH_pull (bd, CB (Bl.cells c (⟨X2, z1, q1, z2, q2⟩ : Bl)) 24) zu ?_
        refine WH_pull (bv, CB [.int .i64 (f : Int), .int .i64 (t : Int)] 47) zu ?_
        exact WH_of hX rf dk0 (J2_3_6 aA3 kA3 HA3 bv hA3 _ _ s10 (HSub.sub (by repeat (first | exact List.nil_sublist _ | exact List.Sublist.refl _ | exact List.sublist_append_left _ _ | apply List.Sublist.cons_cons | apply List.Sublist.append_left))))
      have J2 : ∀ (bu : Nat) (e2 : Env) (H2 : List Blk), Slots e2 [(1, .slice ba bn bcap), (3, .pointer (some ⟨b1, 0, none⟩)), (10, .int .i64 (N : Int)), (23, .int .i64 (many : Int)), (24, .int .i64 (i : Int)), (13, .pointer (some ⟨bx, 0, none⟩)), (14, .pointer (some ⟨bd, 0, none⟩)), (67, .slice (some ⟨br, 0, none⟩) (B0 :: bs).length kA), (68, .agg (Bl.cells c (⟨X2, z1, q1, z2, q2⟩ : Bl)).toArray), (71, .slice aL ps.length kL), (72, .agg #[.int .i64 (f : Int), .int .i64 (t : Int)]), (69, .slice (some ⟨bu, 0, none⟩) 1 1)] → HSub H2 ((bu, CB (Bl.cells c (⟨X2, z1, q1, z2, q2⟩ : Bl)) 24) :: (bd, CB (Bl.cells c (⟨X2, z1, q1, z2, q2⟩ : Bl)) 24) :: (bx, CB [.int .i64 (f : Int), .int .i64 (t : Int)] 47) :: (b1, CB [.slice a1 c.n p1, .slice a2 c.inn.length p2, .int .i64 c.st] 24) :: JJ ++ (HX ++ (HA ++ (HL)))) → X 3 #[true, true, true, false, true, true, false, false] e2 H2 := by
       intro bu e2 H2 hsl hsb
       rw [← hsl.sets, hX]
       refine WH_sub hsb (HSub.sub sbA) ?_
       refine WH_step2 3 6 dk0 (fun _ h => St.sub h sbA) rf rf ?_ ?_
       ·
        refine WS_pull (bu, _) zu ?_
        refine WS_pullE HA (by repeat (first | exact PulE.hd | exact PulE.snd | exact PulE.one | apply PulE.cons | apply PulE.app)) ?_
        refine WS_appendN hF (H1 := (_ :: _ :: _ :: _ :: (JJ ++ (HX ++ (HL))))) (Hn := HA) (news := Bl.cells c (⟨X2, z1, q1, z2, q2⟩ : Bl)) rf rf rf Tryz.underlying34 infCans rf rf hS.rowA (blRow_len c _) (.inr ⟨bu, 0, rfl, Mem.own (us := Bl.cells c (⟨X2, z1, q1, z2, q2⟩ : Bl)) 0 rf rf⟩) rf rf om0 om0 om0 ?_
        intro aA3 kA3 HA3 hr3
        have hA3 : NewRow 24 3 (B0 :: (bs ++ [(⟨X2, z1, q1, z2, q2⟩ : Bl)])).length (blRow c (B0 :: (bs ++ [(⟨X2, z1, q1, z2, q2⟩ : Bl)]))) (.slice aA3 (B0 :: (bs ++ [(⟨X2, z1, q1, z2, q2⟩ : Bl)])).length kA3) HA3 := by
         rw [blRow_cons_snoc, show (B0 :: (bs ++ [(⟨X2, z1, q1, z2, q2⟩ : Bl)])).length = (B0 :: bs).length + 1 by simp]; exact hr3
        rw [show (B0 :: bs).length + 1 = (B0 :: (bs ++ [(⟨X2, z1, q1, z2, q2⟩ : Bl)])).length by simp]
        simp only [List.append_assoc, List.cons_append, List.append_eq]
        refine WS_nil ?_
        refine WH_pullL HL (by repeat (first | exact PulL.base | exact PulL.base1 | apply PulL.cons | apply PulL.app)) ?_
        refine WH_pullL HX (by repeat (first | exact PulL.base | exact PulL.base1 | apply PulL.cons | apply PulL.app)) ?_
        refine WH_pullL JJ (by repeat (first | exact PulL.base | exact PulL.base1 | apply PulL.cons | apply PulL.app)) ?_
        refine WH_pullL HA3 (by repeat (first | exact PulL.base | exact PulL.base1 | apply PulL.cons | apply PulL.app)) ?_
        refine WH_pull (b1, CB [.slice a1 c.n p1, .slice a2 c.inn.length p2, .int .i64 c.st] 24) zu ?_
        refine WH_pull (bx, CB [.int .i64 (f : Int), .int .i64 (t : Int)] 47) zu ?_
        refine WH_pull (bd, CB (Bl.cells c (⟨X2, z1, q1, z2, q2⟩ : Bl)) 24) zu ?_
        exact WH_of hX rf dk0 (J2_3 aA3 kA3 HA3 hA3 _ _ s10 (HSub.sub (by repeat (first | exact List.nil_sublist _ | exact List.Sublist.refl _ | exact List.sublist_append_left _ _ | apply List.Sublist.cons_cons | apply List.Sublist.append_left))))
       ·
        refine WS_newS hF rf (y_buildSliceL bs35_1_0 rf) (fun bv => ?_)
        refine WS_nil ?_
        refine WH_pullL HL (by repeat (first | exact PulL.base | exact PulL.base1 | apply PulL.cons | apply PulL.app)) ?_
        refine WH_pullL HA (by repeat (first | exact PulL.base | exact PulL.base1 | apply PulL.cons | apply PulL.app)) ?_
        refine WH_pullL HX (by repeat (first | exact PulL.base | exact PulL.base1 | apply PulL.cons | apply PulL.app)) ?_
        refine WH_pullL JJ (by repeat (first | exact PulL.base | exact PulL.base1 | apply PulL.cons | apply PulL.app)) ?_
        refine WH_pull (b1, CB [.slice a1 c.n p1, .slice a2 c.inn.length p2, .int .i64 c.st] 24) zu ?_
        refine WH_pull (bx, CB [.int .i64 (f : Int), .int .i64 (t : Int)] 47) zu ?_
        refine WH_pull (bd, CB (Bl.cells c (⟨X2, z1, q1, z2, q2⟩ : Bl)) 24) zu ?_
        refine WH_pull (bv, CB [.int .i64 (f : Int), .int .i64 (t : Int)] 47) zu ?_
        refine WH_pull (bu, CB (Bl.cells c (⟨X2, z1, q1, z2, q2⟩ : Bl)) 24) zu ?_
        exact WH_of hX rf dk0 (J2_6 bu bv _ _ s10 (HSub.sub (by repeat (first | exact List.nil_sublist _ | exact List.Sublist.refl _ | exact List.sublist_append_left _ _ | apply List.Sublist.cons_cons | apply List.Sublist.append_left))))
      have J6 : ∀ (bv : Nat) (e2 : Env) (H2 : List Blk), Slots e2 [(1, .slice ba bn bcap), (3, .pointer (some ⟨b1, 0, none⟩)), (10, .int .i64 (N : Int)), (23, .int .i64 (many : Int)), (24, .int .i64 (i : Int)), (13, .pointer (some ⟨bx, 0, none⟩)), (14, .pointer (some ⟨bd, 0, none⟩)), (67, .slice (some ⟨br, 0, none⟩) (B0 :: bs).length kA), (68, .agg (Bl.cells c (⟨X2, z1, q1, z2, q2⟩ : Bl)).toArray), (71, .slice aL ps.length kL), (72, .agg #[.int .i64 (f : Int), .int .i64 (t : Int)]), (73, .slice (some ⟨bv, 0, none⟩) 1 1)] → HSub H2 ((bv, CB [.int .i64 (f : Int), .int .i64 (t : Int)] 47) :: (bd, CB (Bl.cells c (⟨X2, z1, q1, z2, q2⟩ : Bl)) 24) :: (bx, CB [.int .i64 (f : Int), .int .i64 (t : Int)] 47) :: (b1, CB [.slice a1 c.n p1, .slice a2 c.inn.length p2, .int .i64 c.st] 24) :: JJ ++ (HX ++ (HA ++ (HL)))) → X 3 #[true, true, false, false, true, true, true, false] e2 H2 := by
       intro bv e2 H2 hsl hsb
       rw [← hsl.sets, hX]
       refine WH_sub hsb (HSub.sub sbA) ?_
       refine WH_step1 2 dk0 (fun _ h => St.sub h sbA) rf ?_
       ·
        refine WS_newS hF rf (y_buildSliceL bs34_1_0 rf) (fun bu => ?_)
        refine WS_nil ?_
        refine WH_pullL HL (by repeat (first | exact PulL.base | exact PulL.base1 | apply PulL.cons | apply PulL.app)) ?_
        refine WH_pullL HA (by repeat (first | exact PulL.base | exact PulL.base1 | apply PulL.cons | apply PulL.app)) ?_
        refine WH_pullL HX (by repeat (first | exact PulL.base | exact PulL.base1 | apply PulL.cons | apply PulL.app)) ?_
        refine WH_pullL JJ (by repeat (first | exact PulL.base | exact PulL.base1 | apply PulL.cons | apply PulL.app)) ?_
        refine WH_pull (b1, CB [.slice a1 c.n p1, .slice a2 c.inn.length p2, .int .i64 c.st] 24) zu ?_
        refine WH_pull (bx, CB [.int .i64 (f : Int), .int .i64 (t : Int)] 47) zu ?_
        refine WH_pull (bd, CB (Bl.cells c (⟨X2, z1, q1, z2, q2⟩ : Bl)) 24) zu ?_
        refine WH_pull (bv, CB [.int .i64 (f : Int), .int .i64 (t : Int)] 47) zu ?_
        refine WH_pull (bu, CB (Bl.cells c (⟨X2, z1, q1, z2, q2⟩ : Bl)) 24) zu ?_
        exact WH_of hX rf dk0 (J2_6 bu bv _ _ s10 (HSub.sub (by repeat (first | exact List.nil_sublist _ | exact List.Sublist.refl _ | exact List.sublist_append_left _ _ | apply List.Sublist.cons_cons | apply List.Sublist.append_left))))
      have J : ∀  (e2 : Env) (H2 : List Blk), Slots e2 [(1, .slice ba bn bcap), (3, .pointer (some ⟨b1, 0, none⟩)), (10, .int .i64 (N : Int)), (23, .int .i64 (many : Int)), (24, .int .i64 (i : Int)), (13, .pointer (some ⟨bx, 0, none⟩)), (14, .pointer (some ⟨bd, 0, none⟩)), (67, .slice (some ⟨br, 0, none⟩) (B0 :: bs).length kA), (68, .agg (Bl.cells c (⟨X2, z1, q1, z2, q2⟩ : Bl)).toArray), (71, .slice aL ps.length kL), (72, .agg #[.int .i64 (f : Int), .int .i64 (t : Int)])] → HSub H2 ((bd, CB (Bl.cells c (⟨X2, z1, q1, z2, q2⟩ : Bl)) 24) :: (bx, CB [.int .i64 (f : Int), .int .i64 (t : Int)] 47) :: (b1, CB [.slice a1 c.n p1, .slice a2 c.inn.length p2, .int .i64 c.st] 24) :: JJ ++ (HX ++ (HA ++ (HL)))) → X 4 #[true, true, false, false, true, true, false, false] e2 H2 := by
       intro  e2 H2 hsl hsb
       rw [← hsl.sets, hX]
       refine WH_sub hsb (HSub.sub sbA) ?_
       refine WH_step2 2 6 dk0 (fun _ h => St.sub h sbA) rf rf ?_ ?_
       ·
        refine WS_newS hF rf (y_buildSliceL bs34_1_0 rf) (fun bu => ?_)
        refine WS_nil ?_
        refine WH_pullL HL (by repeat (first | exact PulL.base | exact PulL.base1 | apply PulL.cons | apply PulL.app)) ?_
        refine WH_pullL HA (by repeat (first | exact PulL.base | exact PulL.base1 | apply PulL.cons | apply PulL.app)) ?_
        refine WH_pullL HX (by repeat (first | exact PulL.base | exact PulL.base1 | apply PulL.cons | apply PulL.app)) ?_
        refine WH_pullL JJ (by repeat (first | exact PulL.base | exact PulL.base1 | apply PulL.cons | apply PulL.app)) ?_
        refine WH_pull (b1, CB [.slice a1 c.n p1, .slice a2 c.inn.length p2, .int .i64 c.st] 24) zu ?_
        refine WH_pull (bx, CB [.int .i64 (f : Int), .int .i64 (t : Int)] 47) zu ?_
        refine WH_pull (bd, CB (Bl.cells c (⟨X2, z1, q1, z2, q2⟩ : Bl)) 24) zu ?_
        refine WH_pull (bu, CB (Bl.cells c (⟨X2, z1, q1, z2, q2⟩ : Bl)) 24) zu ?_
        exact WH_of hX rf dk0 (J2 bu _ _ s10 (HSub.sub (by repeat (first | exact List.nil_sublist _ | exact List.Sublist.refl _ | exact List.sublist_append_left _ _ | apply List.Sublist.cons_cons | apply List.Sublist.append_left))))
       ·
        refine WS_newS hF rf (y_buildSliceL bs35_1_0 rf) (fun bv => ?_)
        refine WS_nil ?_
        refine WH_pullL HL (by repeat (first | exact PulL.base | exact PulL.base1 | apply PulL.cons | apply PulL.app)) ?_
        refine WH_pullL HA (by repeat (first | exact PulL.base | exact PulL.base1 | apply PulL.cons | apply PulL.app)) ?_
        refine WH_pullL HX (by repeat (first | exact PulL.base | exact PulL.base1 | apply PulL.cons | apply PulL.app)) ?_
        refine WH_pullL JJ (by repeat (first | exact PulL.base | exact PulL.base1 | apply PulL.cons | apply PulL.app)) ?_
        refine WH_pull (b1, CB [.slice a1 c.n p1, .slice a2 c.inn.length p2, .int .i64 c.st] 24) zu ?_
        refine WH_pull (bx, CB [.int .i64 (f : Int), .int .i64 (t : Int)] 47) zu ?_
        refine WH_pull (bd, CB (Bl.cells c (⟨X2, z1, q1, z2, q2⟩ : Bl)) 24) zu ?_
        refine WH_pull (bv, CB [.int .i64 (f : Int), .int .i64 (t : Int)] 47) zu ?_
        exact WH_of hX rf dk0 (J6 bv _ _ s10 (HSub.sub (by repeat (first | exact List.nil_sublist _ | exact List.Sublist.refl _ | exact List.sublist_append_left _ _ | apply List.Sublist.cons_cons | apply List.Sublist.append_left))))
      rw [hX]
      refine WH_take 0 dk0 rf dk0 dk0 rf (ye_move (c := .slice _ _ _) rf) ?_
      refine WH_take 1 dk0 rf dk0 dk0 rf (ye_loadN rf Tryz.isAgg24 Tryz.sizeOf24 (Mem.own (us := Bl.cells c (⟨X2, z1, q1, z2, q2⟩ : Bl)) 0 rf rf) rf) ?_
      refine WH_take 4 dk0 rf dk0 dk0 rf (ye_move (c := .slice _ _ _) rf) ?_
      refine WH_take 5 dk0 rf dk0 dk0 rf (ye_loadN rf Tryz.isAgg47 Tryz.sizeOf47 (Mem.own (us := [.int .i64 _, .int .i64 _]) 1 rf rf) rf) ?_
      refine WH_pullL HL (by repeat (first | exact PulL.base | exact PulL.base1 | apply PulL.cons | apply PulL.app)) ?_
      refine WH_pullL HA (by repeat (first | exact PulL.base | exact PulL.base1 | apply PulL.cons | apply PulL.app)) ?_
      refine WH_pullL HX (by repeat (first | exact PulL.base | exact PulL.base1 | apply PulL.cons | apply PulL.app)) ?_
      refine WH_pullL JJ (by repeat (first | exact PulL.base | exact PulL.base1 | apply PulL.cons | apply PulL.app)) ?_
      refine WH_pull (b1, CB [.slice a1 c.n p1, .slice a2 c.inn.length p2, .int .i64 c.st] 24) zu ?_
      refine WH_pull (bx, CB [.int .i64 (f : Int), .int .i64 (t : Int)] 47) zu ?_
      refine WH_pull (bd, CB (Bl.cells c (⟨X2, z1, q1, z2, q2⟩ : Bl)) 24) zu ?_
      exact WH_of hX rf dk0 (J  _ _ s10 (HSub.sub (by repeat (first | exact List.nil_sublist _ | exact List.Sublist.refl _ | exact List.sublist_append_left _ _ | apply List.Sublist.cons_cons | apply List.Sublist.append_left))))
    ·
     try simp only [qz1, qz2, qz3, qz4, qz5, qz6, qz7, qz8] at c13
     refine W_skip ?_
     refine InB_normal ?_
     refine zT fun ds => ?_
     refine zD hF (y_add rf rf ui) ?_
     refine zm (.int .i64 _) hF ?_
     refine WS_nil ?_
     exact Loop_next (k + 1) om0 s10 sbA om0
  ·
   try simp only [qz1, qz2, qz3, qz4, qz5, qz6, qz7, qz8] at c7
   refine W_exit ?_
   refine Then_exit ?_
   refine Loop_exit ?_
   refine InB_same ?_
   refine InB_normal ?_
   refine zT fun ds => ?_
   refine zD hF (y_add rf rf ui) ?_
   refine zm (.int .i64 _) hF ?_
   refine WS_nil ?_
   exact Loop_next (i + 1, ps, bs, (aA, kA, HA), (aL, kL, HL), HX) ⟨by simp only; omega, by simp only; omega, hS⟩ s10 sbA (by simp only; omega)
 ·
  try simp only [qz1, qz2, qz3, qz4, qz5, qz6, qz7, qz8] at c4
  refine W_exit ?_
  refine Then_exit ?_
  refine Loop_exit ?_
  refine InB_same ?_
  refine zS fun ds => ?_
  refine zm (.slice _ _ _) hF ?_
  refine zm (.slice _ _ _) hF ?_
  refine za (.slice _ _ _) hF ?_
  refine za (.slice _ _ _) hF ?_
  refine zN ?_
  refine W_ret ?_
  refine Fin_ret [.slice _ _ _, .slice _ _ _] (HX ++ (HA ++ HL)) Tryz.results17 ⟨by rfl, by rfl, trivial⟩ (HSub.sub sbA) ?_
  exact ⟨ps, bs, aA, kA, HA, aL, kL, HL, HX, rfl, by omega, hS, rfl⟩
end Go.Proofs.YtjekjehgmljbgaaGreatDoor.T
