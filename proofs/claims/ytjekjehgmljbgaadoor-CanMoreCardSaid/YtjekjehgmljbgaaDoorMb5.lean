/- Proved: for every input, with no condition, the law CanMore returns true and the input reads as it did (Rows.CanMoreSaid). -/
import Derived.Test.YtjekjehgmljbgaaDoorMb4
import Derived.Test.YtjekjehgmljbgaaDoorMb3
set_option linter.unusedVariables false
set_option linter.unusedSimpArgs false
/- Cans with one more, walked. -/
namespace Go.Proofs.YtjekjehgmljbgaaDoor.T
open Go.RowKit Go.Proofs Go.Eng
set_option maxRecDepth 100000
set_option maxHeartbeats 1000000
set_option linter.unusedVariables false
set_option linter.unusedSimpArgs false



/-- Cans with one more. -/
def Cn.more (c : Cn) (n : Int) : Cn := ⟨c.sz ++ [n], c.inn ++ [0], c.st⟩
theorem iv_snoc (xs : List Int) (n : Int) : iv xs ++ [Value.int .i64 n] = iv (xs ++ [n]) := by simp [iv]
theorem Cn.more_n (c : Cn) (n : Int) : (c.more n).n = c.n + 1 := by unfold Cn.more Cn.n; simp
theorem Cn.more_m (c : Cn) (n : Int) : (c.more n).inn.length = c.inn.length + 1 := by unfold Cn.more; simp
theorem cwith_any (c : Cn) (a1 : Option Addr) (p1 : Nat) (a2 : Option Addr) (p2 : Nat) (n : Int) (w : World) (hn : c.n ≤ 1000000) (hm : c.inn.length ≤ 1000000) (h1 : Ints w a1 c.n p1 c.sz) (h2 : Ints w a2 c.inn.length p2 c.inn) : Ct Tryd.prog 57 #[.agg #[.slice a1 c.n p1, .slice a2 c.inn.length p2, .int .i64 c.st], .int .i64 n] w (TwinC (c.more n)) := by
  have hn' : c.sz.length ≤ 1000000 := hn
  have hmn := c.more_n n
  have hmm := c.more_m n
  have hF := wide_wide
  refine Ct_start (args := [_, _]) Tryd.func57 (by rfl) Tryd.ntmps57 (by rfl) ?_
  refine W_seq ?_
  refine W_region_lit (fun ds => ?_)
  refine WS_new hF (by rfl) (y_box (by rfl)) (fun b2 => ?_)
  refine WS_new hF (by rfl) (y_alloc Tryd.zeroValue24 (by rfl)) (fun b4 => ?_)
  refine WS_nil ?_
  refine Then_normal ?_
  refine W_seq ?_
  refine W_tailH 14 Trydmixed (fun e2 H2 => ∃ s1 k1 s2 k2 K1 K2, NewRow 3 1 (c.more n).n (iv (c.more n).sz) (.slice s1 (c.more n).n k1) K1 ∧ NewRow 3 1 (c.more n).inn.length (iv (c.more n).inn) (.slice s2 (c.more n).inn.length k2) K2 ∧ Slots e2 [(4, .pointer (some ⟨b4, 0, none⟩)), (18, .agg #[.slice s1 (c.more n).n k1, .slice s2 (c.more n).inn.length k2, .int .i64 c.st])] ∧ HSub H2 ((b4, CB [.slice none 0 0, .slice none 0 0, .int .i64 0] 24) :: (K1 ++ K2))) (by decide +kernel) (fun ds e2 H2 hmid => ?_) (fun ds => ?_)
  ·
    obtain ⟨s1, k1, s2, k2, K1, K2, hr1, hr2, hsl, hsb⟩ := hmid
    rw [← hsl.sets]
    refine WS_sub hsb ?_
    refine WS_store hF (i := 0) (by rfl) (by rfl) Tryd.sizeOf24 (by rfl) (by rfl) (by rfl) (by first | decide | exact Nat.le_of_ble_eq_true rfl | simp) ?_
    refine WS_nil ?_
    refine Then_normal ?_
    refine W_ret ?_
    refine Fin_ret [_] (K1 ++ K2) Tryd.results57 ⟨lvN (by rfl) Tryd.isAgg24 Tryd.sizeOf24 (Mem.own (us := [.slice _ _ _, .slice _ _ _, .int .i64 _]) 0 (by rfl) (by rfl)) (by rfl), trivial⟩ (HSub.sub sbA) ?_
    exact ⟨_, _, _, _, K1, K2, rfl, hr1, hr2, rfl⟩
  ·
    refine WH_as (fun X hX => ?_)
    have J2_4_5_8_9 : ∀ (ka : Option Addr) (kk : Nat) (K1 : List Blk) (da : Option Addr) (dk : Nat) (Hd : List Blk) (bt : Nat) (hk1 : NewRow 3 1 (c.more n).n (iv (c.more n).sz) (.slice ka (c.more n).n kk) K1) (hd1 : NewRow 3 1 c.inn.length (iv c.inn) (.slice da c.inn.length dk) Hd) (e2 : Env) (H2 : List Blk), Slots e2 [(2, .pointer (some ⟨b2, 0, none⟩)), (4, .pointer (some ⟨b4, 0, none⟩)), (6, .slice a1 c.n p1), (8, .int .i64 n), (12, .slice a2 c.inn.length p2), (17, .int .i64 c.st), (10, .slice ka (c.n + 1) kk), (13, .slice da c.inn.length dk), (14, .slice (some ⟨bt, 0, none⟩) 1 1)] → HSub H2 ((bt, CB [.int .i64 0] 3) :: (b4, CB [.slice none 0 0, .slice none 0 0, .int .i64 0] 24) :: (b2, CB [.slice a1 c.n p1, .slice a2 c.inn.length p2, .int .i64 c.st] 24) :: K1 ++ (Hd)) → X 2 #[true, true, true, true, true, true, true, true, true, true, false, true, true, false] e2 H2 := by
      intro ka kk K1 da dk Hd bt hk1 hd1 e2 H2 hsl hsb
      rw [← hsl.sets, hX]
      refine WH_sub hsb (HSub.sub sbA) ?_
      refine WH_step1 10 (by decide +kernel) (fun _ h => St.sub h sbA) (by rfl) ?_
      ·
        refine WS_pull (bt, _) (by repeat (first | exact Pul.base0 | exact Pul.base | apply Pul.cons | apply Pul.app)) ?_
        refine WS_pullE Hd (by repeat (first | exact PulE.hd | exact PulE.snd | exact PulE.one | apply PulE.cons | apply PulE.app)) ?_
        refine WS_appendN hF (H1 := (_ :: _ :: _ :: (K1))) (Hn := Hd) (by rfl) (by rfl) (by rfl) Tryd.underlying22 infInt (by rfl) (by rfl) hd1 (iv_len c.inn) (.inr ⟨bt, 0, rfl, Mem.own1 0 (by rfl) (by rfl)⟩) (by rfl) (by rfl) (by omega) (by omega) (by omega) ?_
        intro ma mk K2 hr4
        have hk2 : NewRow 3 1 (c.more n).inn.length (iv (c.more n).inn) (.slice ma (c.more n).inn.length mk) K2 := by rw [hmm]; show NewRow _ _ _ (iv (c.inn ++ [0])) _ _; rw [← iv_snoc]; exact hr4
        refine WS_nil ?_
        refine WH_take 13 (by decide +kernel) (by rfl) (by decide +kernel) (by decide +kernel) (by rfl) (ye_buildL bd24_0_1_2 (by rfl)) ?_
        refine WH_done (by decide +kernel) (fun _ h => St.sub h sbA) ?_
        rw [← hmn, ← hmm]
        exact ⟨_, _, _, _, K1, K2, hk1, hk2, (by repeat (first | exact trivial | refine ⟨by rfl, ?_⟩ | refine ⟨congrArg (Value.int _) (by first | omega | (simp only; omega) | (push_cast; omega)), ?_⟩)), HSub.sub sbA⟩
    have J2_4_5_8 : ∀ (ka : Option Addr) (kk : Nat) (K1 : List Blk) (da : Option Addr) (dk : Nat) (Hd : List Blk) (hk1 : NewRow 3 1 (c.more n).n (iv (c.more n).sz) (.slice ka (c.more n).n kk) K1) (hd1 : NewRow 3 1 c.inn.length (iv c.inn) (.slice da c.inn.length dk) Hd) (e2 : Env) (H2 : List Blk), Slots e2 [(2, .pointer (some ⟨b2, 0, none⟩)), (4, .pointer (some ⟨b4, 0, none⟩)), (6, .slice a1 c.n p1), (8, .int .i64 n), (12, .slice a2 c.inn.length p2), (17, .int .i64 c.st), (10, .slice ka (c.n + 1) kk), (13, .slice da c.inn.length dk)] → HSub H2 ((b4, CB [.slice none 0 0, .slice none 0 0, .int .i64 0] 24) :: (b2, CB [.slice a1 c.n p1, .slice a2 c.inn.length p2, .int .i64 c.st] 24) :: K1 ++ (Hd)) → X 3 #[true, true, true, true, true, true, true, true, true, false, false, true, true, false] e2 H2 := by
      intro ka kk K1 da dk Hd hk1 hd1 e2 H2 hsl hsb
      rw [← hsl.sets, hX]
      refine WH_sub hsb (HSub.sub sbA) ?_
      refine WH_step1 9 (by decide +kernel) (fun _ h => St.sub h sbA) (by rfl) ?_
      ·
        refine WS_newS hF (by rfl) (y_buildSliceL bs22_1_0 (by rfl)) (fun bt => ?_)
        refine WS_nil ?_
        refine WH_pullL Hd (by repeat (first | exact PulL.base | exact PulL.base1 | apply PulL.cons | apply PulL.app)) ?_
        refine WH_pullL K1 (by repeat (first | exact PulL.base | exact PulL.base1 | apply PulL.cons | apply PulL.app)) ?_
        refine WH_pull (b2, CB [.slice a1 c.n p1, .slice a2 c.inn.length p2, .int .i64 c.st] 24) (by repeat (first | exact Pul.base0 | exact Pul.base | apply Pul.cons | apply Pul.app)) ?_
        refine WH_pull (b4, CB [.slice none 0 0, .slice none 0 0, .int .i64 0] 24) (by repeat (first | exact Pul.base0 | exact Pul.base | apply Pul.cons | apply Pul.app)) ?_
        refine WH_pull (bt, CB [.int .i64 0] 3) (by repeat (first | exact Pul.base0 | exact Pul.base | apply Pul.cons | apply Pul.app)) ?_
        exact WH_of hX (by rfl) (by decide +kernel) (J2_4_5_8_9 ka kk K1 da dk Hd bt hk1 hd1 _ _ (by repeat (first | exact trivial | refine ⟨by rfl, ?_⟩)) (HSub.sub (by repeat (first | exact List.nil_sublist _ | exact List.Sublist.refl _ | exact List.sublist_append_left _ _ | apply List.Sublist.cons_cons | apply List.Sublist.append_left))))
    have J2_4_5_9 : ∀ (ka : Option Addr) (kk : Nat) (K1 : List Blk) (bt : Nat) (hk1 : NewRow 3 1 (c.more n).n (iv (c.more n).sz) (.slice ka (c.more n).n kk) K1) (e2 : Env) (H2 : List Blk), Slots e2 [(2, .pointer (some ⟨b2, 0, none⟩)), (4, .pointer (some ⟨b4, 0, none⟩)), (6, .slice a1 c.n p1), (8, .int .i64 n), (12, .slice a2 c.inn.length p2), (17, .int .i64 c.st), (10, .slice ka (c.n + 1) kk), (14, .slice (some ⟨bt, 0, none⟩) 1 1)] → HSub H2 ((bt, CB [.int .i64 0] 3) :: (b4, CB [.slice none 0 0, .slice none 0 0, .int .i64 0] 24) :: (b2, CB [.slice a1 c.n p1, .slice a2 c.inn.length p2, .int .i64 c.st] 24) :: K1) → X 3 #[true, true, true, true, true, true, true, true, false, true, false, true, true, false] e2 H2 := by
      intro ka kk K1 bt hk1 e2 H2 hsl hsb
      rw [← hsl.sets, hX]
      refine WH_sub hsb (HSub.sub sbA) ?_
      refine WH_step1 8 (by decide +kernel) (fun _ h => St.sub h sbA) (by rfl) ?_
      ·
        refine WS_gen hF (by rfl) (y_callL (by rfl) (by rfl) Tryd.call78 (fun w hw => cloneN_any a2 c.inn.length p2 c.inn w hm (h2.st w hw))) ?_
        rintro _ Hd ⟨da, dk, rfl, hd1⟩
        refine WS_nil ?_
        refine WH_pullL Hd (by repeat (first | exact PulL.base | exact PulL.base1 | apply PulL.cons | apply PulL.app)) ?_
        refine WH_pullL K1 (by repeat (first | exact PulL.base | exact PulL.base1 | apply PulL.cons | apply PulL.app)) ?_
        refine WH_pull (b2, CB [.slice a1 c.n p1, .slice a2 c.inn.length p2, .int .i64 c.st] 24) (by repeat (first | exact Pul.base0 | exact Pul.base | apply Pul.cons | apply Pul.app)) ?_
        refine WH_pull (b4, CB [.slice none 0 0, .slice none 0 0, .int .i64 0] 24) (by repeat (first | exact Pul.base0 | exact Pul.base | apply Pul.cons | apply Pul.app)) ?_
        refine WH_pull (bt, CB [.int .i64 0] 3) (by repeat (first | exact Pul.base0 | exact Pul.base | apply Pul.cons | apply Pul.app)) ?_
        exact WH_of hX (by rfl) (by decide +kernel) (J2_4_5_8_9 ka kk K1 da dk Hd bt hk1 hd1 _ _ (by repeat (first | exact trivial | refine ⟨by rfl, ?_⟩)) (HSub.sub (by repeat (first | exact List.nil_sublist _ | exact List.Sublist.refl _ | exact List.sublist_append_left _ _ | apply List.Sublist.cons_cons | apply List.Sublist.append_left))))
    have J2_4_5 : ∀ (ka : Option Addr) (kk : Nat) (K1 : List Blk) (hk1 : NewRow 3 1 (c.more n).n (iv (c.more n).sz) (.slice ka (c.more n).n kk) K1) (e2 : Env) (H2 : List Blk), Slots e2 [(2, .pointer (some ⟨b2, 0, none⟩)), (4, .pointer (some ⟨b4, 0, none⟩)), (6, .slice a1 c.n p1), (8, .int .i64 n), (12, .slice a2 c.inn.length p2), (17, .int .i64 c.st), (10, .slice ka (c.n + 1) kk)] → HSub H2 ((b4, CB [.slice none 0 0, .slice none 0 0, .int .i64 0] 24) :: (b2, CB [.slice a1 c.n p1, .slice a2 c.inn.length p2, .int .i64 c.st] 24) :: K1) → X 4 #[true, true, true, true, true, true, true, true, false, false, false, true, true, false] e2 H2 := by
      intro ka kk K1 hk1 e2 H2 hsl hsb
      rw [← hsl.sets, hX]
      refine WH_sub hsb (HSub.sub sbA) ?_
      refine WH_step2 8 9 (by decide +kernel) (fun _ h => St.sub h sbA) (by rfl) (by rfl) ?_ ?_
      ·
        refine WS_gen hF (by rfl) (y_callL (by rfl) (by rfl) Tryd.call78 (fun w hw => cloneN_any a2 c.inn.length p2 c.inn w hm (h2.st w hw))) ?_
        rintro _ Hd ⟨da, dk, rfl, hd1⟩
        refine WS_nil ?_
        refine WH_pullL Hd (by repeat (first | exact PulL.base | exact PulL.base1 | apply PulL.cons | apply PulL.app)) ?_
        refine WH_pullL K1 (by repeat (first | exact PulL.base | exact PulL.base1 | apply PulL.cons | apply PulL.app)) ?_
        refine WH_pull (b2, CB [.slice a1 c.n p1, .slice a2 c.inn.length p2, .int .i64 c.st] 24) (by repeat (first | exact Pul.base0 | exact Pul.base | apply Pul.cons | apply Pul.app)) ?_
        refine WH_pull (b4, CB [.slice none 0 0, .slice none 0 0, .int .i64 0] 24) (by repeat (first | exact Pul.base0 | exact Pul.base | apply Pul.cons | apply Pul.app)) ?_
        exact WH_of hX (by rfl) (by decide +kernel) (J2_4_5_8 ka kk K1 da dk Hd hk1 hd1 _ _ (by repeat (first | exact trivial | refine ⟨by rfl, ?_⟩)) (HSub.sub (by repeat (first | exact List.nil_sublist _ | exact List.Sublist.refl _ | exact List.sublist_append_left _ _ | apply List.Sublist.cons_cons | apply List.Sublist.append_left))))
      ·
        refine WS_newS hF (by rfl) (y_buildSliceL bs22_1_0 (by rfl)) (fun bt => ?_)
        refine WS_nil ?_
        refine WH_pullL K1 (by repeat (first | exact PulL.base | exact PulL.base1 | apply PulL.cons | apply PulL.app)) ?_
        refine WH_pull (b2, CB [.slice a1 c.n p1, .slice a2 c.inn.length p2, .int .i64 c.st] 24) (by repeat (first | exact Pul.base0 | exact Pul.base | apply Pul.cons | apply Pul.app)) ?_
        refine WH_pull (b4, CB [.slice none 0 0, .slice none 0 0, .int .i64 0] 24) (by repeat (first | exact Pul.base0 | exact Pul.base | apply Pul.cons | apply Pul.app)) ?_
        refine WH_pull (bt, CB [.int .i64 0] 3) (by repeat (first | exact Pul.base0 | exact Pul.base | apply Pul.cons | apply Pul.app)) ?_
        exact WH_of hX (by rfl) (by decide +kernel) (J2_4_5_9 ka kk K1 bt hk1 _ _ (by repeat (first | exact trivial | refine ⟨by rfl, ?_⟩)) (HSub.sub (by repeat (first | exact List.nil_sublist _ | exact List.Sublist.refl _ | exact List.sublist_append_left _ _ | apply List.Sublist.cons_cons | apply List.Sublist.append_left))))
    have J2_4_9 : ∀ (ca : Option Addr) (ck : Nat) (Hc : List Blk) (bs : Nat) (bt : Nat) (hc1 : NewRow 3 1 c.n (iv c.sz) (.slice ca c.n ck) Hc) (e2 : Env) (H2 : List Blk), Slots e2 [(2, .pointer (some ⟨b2, 0, none⟩)), (4, .pointer (some ⟨b4, 0, none⟩)), (6, .slice a1 c.n p1), (8, .int .i64 n), (12, .slice a2 c.inn.length p2), (17, .int .i64 c.st), (7, .slice ca c.n ck), (9, .slice (some ⟨bs, 0, none⟩) 1 1), (14, .slice (some ⟨bt, 0, none⟩) 1 1)] → HSub H2 ((bs, CB [.int .i64 n] 3) :: (bt, CB [.int .i64 0] 3) :: (b4, CB [.slice none 0 0, .slice none 0 0, .int .i64 0] 24) :: (b2, CB [.slice a1 c.n p1, .slice a2 c.inn.length p2, .int .i64 c.st] 24) :: Hc) → X 4 #[true, true, true, true, true, false, true, true, false, true, false, true, true, false] e2 H2 := by
      intro ca ck Hc bs bt hc1 e2 H2 hsl hsb
      rw [← hsl.sets, hX]
      refine WH_sub hsb (HSub.sub sbA) ?_
      refine WH_step1 5 (by decide +kernel) (fun _ h => St.sub h sbA) (by rfl) ?_
      ·
        refine WS_pull (bs, _) (by repeat (first | exact Pul.base0 | exact Pul.base | apply Pul.cons | apply Pul.app)) ?_
        refine WS_pullE Hc (by repeat (first | exact PulE.hd | exact PulE.snd | exact PulE.one | apply PulE.cons | apply PulE.app)) ?_
        refine WS_appendN hF (H1 := (_ :: _ :: _ :: _ :: [])) (Hn := Hc) (by rfl) (by rfl) (by rfl) Tryd.underlying22 infInt (by rfl) (by rfl) hc1 (iv_len c.sz) (.inr ⟨bs, 0, rfl, Mem.own1 0 (by rfl) (by rfl)⟩) (by rfl) (by rfl) (by omega) (by omega) (by omega) ?_
        intro ka kk K1 hr3
        have hk1 : NewRow 3 1 (c.more n).n (iv (c.more n).sz) (.slice ka (c.more n).n kk) K1 := by rw [hmn]; show NewRow _ _ _ (iv (c.sz ++ [n])) _ _; rw [← iv_snoc]; exact hr3
        refine WS_nil ?_
        refine WH_pullL K1 (by repeat (first | exact PulL.base | exact PulL.base1 | apply PulL.cons | apply PulL.app)) ?_
        refine WH_pull (b2, CB [.slice a1 c.n p1, .slice a2 c.inn.length p2, .int .i64 c.st] 24) (by repeat (first | exact Pul.base0 | exact Pul.base | apply Pul.cons | apply Pul.app)) ?_
        refine WH_pull (b4, CB [.slice none 0 0, .slice none 0 0, .int .i64 0] 24) (by repeat (first | exact Pul.base0 | exact Pul.base | apply Pul.cons | apply Pul.app)) ?_
        refine WH_pull (bt, CB [.int .i64 0] 3) (by repeat (first | exact Pul.base0 | exact Pul.base | apply Pul.cons | apply Pul.app)) ?_
        exact WH_of hX (by rfl) (by decide +kernel) (J2_4_5_9 ka kk K1 bt hk1 _ _ (by repeat (first | exact trivial | refine ⟨by rfl, ?_⟩)) (HSub.sub (by repeat (first | exact List.nil_sublist _ | exact List.Sublist.refl _ | exact List.sublist_append_left _ _ | apply List.Sublist.cons_cons | apply List.Sublist.append_left))))
    have J2_4 : ∀ (ca : Option Addr) (ck : Nat) (Hc : List Blk) (bs : Nat) (hc1 : NewRow 3 1 c.n (iv c.sz) (.slice ca c.n ck) Hc) (e2 : Env) (H2 : List Blk), Slots e2 [(2, .pointer (some ⟨b2, 0, none⟩)), (4, .pointer (some ⟨b4, 0, none⟩)), (6, .slice a1 c.n p1), (8, .int .i64 n), (12, .slice a2 c.inn.length p2), (17, .int .i64 c.st), (7, .slice ca c.n ck), (9, .slice (some ⟨bs, 0, none⟩) 1 1)] → HSub H2 ((bs, CB [.int .i64 n] 3) :: (b4, CB [.slice none 0 0, .slice none 0 0, .int .i64 0] 24) :: (b2, CB [.slice a1 c.n p1, .slice a2 c.inn.length p2, .int .i64 c.st] 24) :: Hc) → X 5 #[true, true, true, true, true, false, true, true, false, false, false, true, true, false] e2 H2 := by
      intro ca ck Hc bs hc1 e2 H2 hsl hsb
      rw [← hsl.sets, hX]
      refine WH_sub hsb (HSub.sub sbA) ?_
      refine WH_step2 5 9 (by decide +kernel) (fun _ h => St.sub h sbA) (by rfl) (by rfl) ?_ ?_
      ·
        refine WS_pull (bs, _) (by repeat (first | exact Pul.base0 | exact Pul.base | apply Pul.cons | apply Pul.app)) ?_
        refine WS_pullE Hc (by repeat (first | exact PulE.hd | exact PulE.snd | exact PulE.one | apply PulE.cons | apply PulE.app)) ?_
        refine WS_appendN hF (H1 := (_ :: _ :: _ :: [])) (Hn := Hc) (by rfl) (by rfl) (by rfl) Tryd.underlying22 infInt (by rfl) (by rfl) hc1 (iv_len c.sz) (.inr ⟨bs, 0, rfl, Mem.own1 0 (by rfl) (by rfl)⟩) (by rfl) (by rfl) (by omega) (by omega) (by omega) ?_
        intro ka kk K1 hr3
        have hk1 : NewRow 3 1 (c.more n).n (iv (c.more n).sz) (.slice ka (c.more n).n kk) K1 := by rw [hmn]; show NewRow _ _ _ (iv (c.sz ++ [n])) _ _; rw [← iv_snoc]; exact hr3
        refine WS_nil ?_
        refine WH_pullL K1 (by repeat (first | exact PulL.base | exact PulL.base1 | apply PulL.cons | apply PulL.app)) ?_
        refine WH_pull (b2, CB [.slice a1 c.n p1, .slice a2 c.inn.length p2, .int .i64 c.st] 24) (by repeat (first | exact Pul.base0 | exact Pul.base | apply Pul.cons | apply Pul.app)) ?_
        refine WH_pull (b4, CB [.slice none 0 0, .slice none 0 0, .int .i64 0] 24) (by repeat (first | exact Pul.base0 | exact Pul.base | apply Pul.cons | apply Pul.app)) ?_
        exact WH_of hX (by rfl) (by decide +kernel) (J2_4_5 ka kk K1 hk1 _ _ (by repeat (first | exact trivial | refine ⟨by rfl, ?_⟩)) (HSub.sub (by repeat (first | exact List.nil_sublist _ | exact List.Sublist.refl _ | exact List.sublist_append_left _ _ | apply List.Sublist.cons_cons | apply List.Sublist.append_left))))
      ·
        refine WS_newS hF (by rfl) (y_buildSliceL bs22_1_0 (by rfl)) (fun bt => ?_)
        refine WS_nil ?_
        refine WH_pullL Hc (by repeat (first | exact PulL.base | exact PulL.base1 | apply PulL.cons | apply PulL.app)) ?_
        refine WH_pull (b2, CB [.slice a1 c.n p1, .slice a2 c.inn.length p2, .int .i64 c.st] 24) (by repeat (first | exact Pul.base0 | exact Pul.base | apply Pul.cons | apply Pul.app)) ?_
        refine WH_pull (b4, CB [.slice none 0 0, .slice none 0 0, .int .i64 0] 24) (by repeat (first | exact Pul.base0 | exact Pul.base | apply Pul.cons | apply Pul.app)) ?_
        refine WH_pull (bt, CB [.int .i64 0] 3) (by repeat (first | exact Pul.base0 | exact Pul.base | apply Pul.cons | apply Pul.app)) ?_
        refine WH_pull (bs, CB [.int .i64 n] 3) (by repeat (first | exact Pul.base0 | exact Pul.base | apply Pul.cons | apply Pul.app)) ?_
        exact WH_of hX (by rfl) (by decide +kernel) (J2_4_9 ca ck Hc bs bt hc1 _ _ (by repeat (first | exact trivial | refine ⟨by rfl, ?_⟩)) (HSub.sub (by repeat (first | exact List.nil_sublist _ | exact List.Sublist.refl _ | exact List.sublist_append_left _ _ | apply List.Sublist.cons_cons | apply List.Sublist.append_left))))
    have J2_9 : ∀ (ca : Option Addr) (ck : Nat) (Hc : List Blk) (bt : Nat) (hc1 : NewRow 3 1 c.n (iv c.sz) (.slice ca c.n ck) Hc) (e2 : Env) (H2 : List Blk), Slots e2 [(2, .pointer (some ⟨b2, 0, none⟩)), (4, .pointer (some ⟨b4, 0, none⟩)), (6, .slice a1 c.n p1), (8, .int .i64 n), (12, .slice a2 c.inn.length p2), (17, .int .i64 c.st), (7, .slice ca c.n ck), (14, .slice (some ⟨bt, 0, none⟩) 1 1)] → HSub H2 ((bt, CB [.int .i64 0] 3) :: (b4, CB [.slice none 0 0, .slice none 0 0, .int .i64 0] 24) :: (b2, CB [.slice a1 c.n p1, .slice a2 c.inn.length p2, .int .i64 c.st] 24) :: Hc) → X 5 #[true, true, true, true, false, false, true, true, false, true, false, true, true, false] e2 H2 := by
      intro ca ck Hc bt hc1 e2 H2 hsl hsb
      rw [← hsl.sets, hX]
      refine WH_sub hsb (HSub.sub sbA) ?_
      refine WH_step1 4 (by decide +kernel) (fun _ h => St.sub h sbA) (by rfl) ?_
      ·
        refine WS_newS hF (by rfl) (y_buildSliceL bs22_1_0 (by rfl)) (fun bs => ?_)
        refine WS_nil ?_
        refine WH_pullL Hc (by repeat (first | exact PulL.base | exact PulL.base1 | apply PulL.cons | apply PulL.app)) ?_
        refine WH_pull (b2, CB [.slice a1 c.n p1, .slice a2 c.inn.length p2, .int .i64 c.st] 24) (by repeat (first | exact Pul.base0 | exact Pul.base | apply Pul.cons | apply Pul.app)) ?_
        refine WH_pull (b4, CB [.slice none 0 0, .slice none 0 0, .int .i64 0] 24) (by repeat (first | exact Pul.base0 | exact Pul.base | apply Pul.cons | apply Pul.app)) ?_
        refine WH_pull (bt, CB [.int .i64 0] 3) (by repeat (first | exact Pul.base0 | exact Pul.base | apply Pul.cons | apply Pul.app)) ?_
        refine WH_pull (bs, CB [.int .i64 n] 3) (by repeat (first | exact Pul.base0 | exact Pul.base | apply Pul.cons | apply Pul.app)) ?_
        exact WH_of hX (by rfl) (by decide +kernel) (J2_4_9 ca ck Hc bs bt hc1 _ _ (by repeat (first | exact trivial | refine ⟨by rfl, ?_⟩)) (HSub.sub (by repeat (first | exact List.nil_sublist _ | exact List.Sublist.refl _ | exact List.sublist_append_left _ _ | apply List.Sublist.cons_cons | apply List.Sublist.append_left))))
    have J4_9 : ∀ (bs : Nat) (bt : Nat) (e2 : Env) (H2 : List Blk), Slots e2 [(2, .pointer (some ⟨b2, 0, none⟩)), (4, .pointer (some ⟨b4, 0, none⟩)), (6, .slice a1 c.n p1), (8, .int .i64 n), (12, .slice a2 c.inn.length p2), (17, .int .i64 c.st), (9, .slice (some ⟨bs, 0, none⟩) 1 1), (14, .slice (some ⟨bt, 0, none⟩) 1 1)] → HSub H2 ((bs, CB [.int .i64 n] 3) :: (bt, CB [.int .i64 0] 3) :: (b4, CB [.slice none 0 0, .slice none 0 0, .int .i64 0] 24) :: (b2, CB [.slice a1 c.n p1, .slice a2 c.inn.length p2, .int .i64 c.st] 24) :: []) → X 5 #[true, true, false, true, true, false, true, true, false, true, false, true, true, false] e2 H2 := by
      intro bs bt e2 H2 hsl hsb
      rw [← hsl.sets, hX]
      refine WH_sub hsb (HSub.sub sbA) ?_
      refine WH_step1 2 (by decide +kernel) (fun _ h => St.sub h sbA) (by rfl) ?_
      ·
        refine WS_gen hF (by rfl) (y_callL (by rfl) (by rfl) Tryd.call78 (fun w hw => cloneN_any a1 c.n p1 c.sz w hn (h1.st w hw))) ?_
        rintro _ Hc ⟨ca, ck, rfl, hc1⟩
        refine WS_nil ?_
        refine WH_pullL Hc (by repeat (first | exact PulL.base | exact PulL.base1 | apply PulL.cons | apply PulL.app)) ?_
        refine WH_pull (b2, CB [.slice a1 c.n p1, .slice a2 c.inn.length p2, .int .i64 c.st] 24) (by repeat (first | exact Pul.base0 | exact Pul.base | apply Pul.cons | apply Pul.app)) ?_
        refine WH_pull (b4, CB [.slice none 0 0, .slice none 0 0, .int .i64 0] 24) (by repeat (first | exact Pul.base0 | exact Pul.base | apply Pul.cons | apply Pul.app)) ?_
        refine WH_pull (bt, CB [.int .i64 0] 3) (by repeat (first | exact Pul.base0 | exact Pul.base | apply Pul.cons | apply Pul.app)) ?_
        refine WH_pull (bs, CB [.int .i64 n] 3) (by repeat (first | exact Pul.base0 | exact Pul.base | apply Pul.cons | apply Pul.app)) ?_
        exact WH_of hX (by rfl) (by decide +kernel) (J2_4_9 ca ck Hc bs bt hc1 _ _ (by repeat (first | exact trivial | refine ⟨by rfl, ?_⟩)) (HSub.sub (by repeat (first | exact List.nil_sublist _ | exact List.Sublist.refl _ | exact List.sublist_append_left _ _ | apply List.Sublist.cons_cons | apply List.Sublist.append_left))))
    have J2 : ∀ (ca : Option Addr) (ck : Nat) (Hc : List Blk) (hc1 : NewRow 3 1 c.n (iv c.sz) (.slice ca c.n ck) Hc) (e2 : Env) (H2 : List Blk), Slots e2 [(2, .pointer (some ⟨b2, 0, none⟩)), (4, .pointer (some ⟨b4, 0, none⟩)), (6, .slice a1 c.n p1), (8, .int .i64 n), (12, .slice a2 c.inn.length p2), (17, .int .i64 c.st), (7, .slice ca c.n ck)] → HSub H2 ((b4, CB [.slice none 0 0, .slice none 0 0, .int .i64 0] 24) :: (b2, CB [.slice a1 c.n p1, .slice a2 c.inn.length p2, .int .i64 c.st] 24) :: Hc) → X 6 #[true, true, true, true, false, false, true, true, false, false, false, true, true, false] e2 H2 := by
      intro ca ck Hc hc1 e2 H2 hsl hsb
      rw [← hsl.sets, hX]
      refine WH_sub hsb (HSub.sub sbA) ?_
      refine WH_step2 4 9 (by decide +kernel) (fun _ h => St.sub h sbA) (by rfl) (by rfl) ?_ ?_
      ·
        refine WS_newS hF (by rfl) (y_buildSliceL bs22_1_0 (by rfl)) (fun bs => ?_)
        refine WS_nil ?_
        refine WH_pullL Hc (by repeat (first | exact PulL.base | exact PulL.base1 | apply PulL.cons | apply PulL.app)) ?_
        refine WH_pull (b2, CB [.slice a1 c.n p1, .slice a2 c.inn.length p2, .int .i64 c.st] 24) (by repeat (first | exact Pul.base0 | exact Pul.base | apply Pul.cons | apply Pul.app)) ?_
        refine WH_pull (b4, CB [.slice none 0 0, .slice none 0 0, .int .i64 0] 24) (by repeat (first | exact Pul.base0 | exact Pul.base | apply Pul.cons | apply Pul.app)) ?_
        refine WH_pull (bs, CB [.int .i64 n] 3) (by repeat (first | exact Pul.base0 | exact Pul.base | apply Pul.cons | apply Pul.app)) ?_
        exact WH_of hX (by rfl) (by decide +kernel) (J2_4 ca ck Hc bs hc1 _ _ (by repeat (first | exact trivial | refine ⟨by rfl, ?_⟩)) (HSub.sub (by repeat (first | exact List.nil_sublist _ | exact List.Sublist.refl _ | exact List.sublist_append_left _ _ | apply List.Sublist.cons_cons | apply List.Sublist.append_left))))
      ·
        refine WS_newS hF (by rfl) (y_buildSliceL bs22_1_0 (by rfl)) (fun bt => ?_)
        refine WS_nil ?_
        refine WH_pullL Hc (by repeat (first | exact PulL.base | exact PulL.base1 | apply PulL.cons | apply PulL.app)) ?_
        refine WH_pull (b2, CB [.slice a1 c.n p1, .slice a2 c.inn.length p2, .int .i64 c.st] 24) (by repeat (first | exact Pul.base0 | exact Pul.base | apply Pul.cons | apply Pul.app)) ?_
        refine WH_pull (b4, CB [.slice none 0 0, .slice none 0 0, .int .i64 0] 24) (by repeat (first | exact Pul.base0 | exact Pul.base | apply Pul.cons | apply Pul.app)) ?_
        refine WH_pull (bt, CB [.int .i64 0] 3) (by repeat (first | exact Pul.base0 | exact Pul.base | apply Pul.cons | apply Pul.app)) ?_
        exact WH_of hX (by rfl) (by decide +kernel) (J2_9 ca ck Hc bt hc1 _ _ (by repeat (first | exact trivial | refine ⟨by rfl, ?_⟩)) (HSub.sub (by repeat (first | exact List.nil_sublist _ | exact List.Sublist.refl _ | exact List.sublist_append_left _ _ | apply List.Sublist.cons_cons | apply List.Sublist.append_left))))
    have J4 : ∀ (bs : Nat) (e2 : Env) (H2 : List Blk), Slots e2 [(2, .pointer (some ⟨b2, 0, none⟩)), (4, .pointer (some ⟨b4, 0, none⟩)), (6, .slice a1 c.n p1), (8, .int .i64 n), (12, .slice a2 c.inn.length p2), (17, .int .i64 c.st), (9, .slice (some ⟨bs, 0, none⟩) 1 1)] → HSub H2 ((bs, CB [.int .i64 n] 3) :: (b4, CB [.slice none 0 0, .slice none 0 0, .int .i64 0] 24) :: (b2, CB [.slice a1 c.n p1, .slice a2 c.inn.length p2, .int .i64 c.st] 24) :: []) → X 6 #[true, true, false, true, true, false, true, true, false, false, false, true, true, false] e2 H2 := by
      intro bs e2 H2 hsl hsb
      rw [← hsl.sets, hX]
      refine WH_sub hsb (HSub.sub sbA) ?_
      refine WH_step2 2 9 (by decide +kernel) (fun _ h => St.sub h sbA) (by rfl) (by rfl) ?_ ?_
      ·
        refine WS_gen hF (by rfl) (y_callL (by rfl) (by rfl) Tryd.call78 (fun w hw => cloneN_any a1 c.n p1 c.sz w hn (h1.st w hw))) ?_
        rintro _ Hc ⟨ca, ck, rfl, hc1⟩
        refine WS_nil ?_
        refine WH_pullL Hc (by repeat (first | exact PulL.base | exact PulL.base1 | apply PulL.cons | apply PulL.app)) ?_
        refine WH_pull (b2, CB [.slice a1 c.n p1, .slice a2 c.inn.length p2, .int .i64 c.st] 24) (by repeat (first | exact Pul.base0 | exact Pul.base | apply Pul.cons | apply Pul.app)) ?_
        refine WH_pull (b4, CB [.slice none 0 0, .slice none 0 0, .int .i64 0] 24) (by repeat (first | exact Pul.base0 | exact Pul.base | apply Pul.cons | apply Pul.app)) ?_
        refine WH_pull (bs, CB [.int .i64 n] 3) (by repeat (first | exact Pul.base0 | exact Pul.base | apply Pul.cons | apply Pul.app)) ?_
        exact WH_of hX (by rfl) (by decide +kernel) (J2_4 ca ck Hc bs hc1 _ _ (by repeat (first | exact trivial | refine ⟨by rfl, ?_⟩)) (HSub.sub (by repeat (first | exact List.nil_sublist _ | exact List.Sublist.refl _ | exact List.sublist_append_left _ _ | apply List.Sublist.cons_cons | apply List.Sublist.append_left))))
      ·
        refine WS_newS hF (by rfl) (y_buildSliceL bs22_1_0 (by rfl)) (fun bt => ?_)
        refine WS_nil ?_
        refine WH_pull (b2, CB [.slice a1 c.n p1, .slice a2 c.inn.length p2, .int .i64 c.st] 24) (by repeat (first | exact Pul.base0 | exact Pul.base | apply Pul.cons | apply Pul.app)) ?_
        refine WH_pull (b4, CB [.slice none 0 0, .slice none 0 0, .int .i64 0] 24) (by repeat (first | exact Pul.base0 | exact Pul.base | apply Pul.cons | apply Pul.app)) ?_
        refine WH_pull (bt, CB [.int .i64 0] 3) (by repeat (first | exact Pul.base0 | exact Pul.base | apply Pul.cons | apply Pul.app)) ?_
        refine WH_pull (bs, CB [.int .i64 n] 3) (by repeat (first | exact Pul.base0 | exact Pul.base | apply Pul.cons | apply Pul.app)) ?_
        exact WH_of hX (by rfl) (by decide +kernel) (J4_9 bs bt _ _ (by repeat (first | exact trivial | refine ⟨by rfl, ?_⟩)) (HSub.sub (by repeat (first | exact List.nil_sublist _ | exact List.Sublist.refl _ | exact List.sublist_append_left _ _ | apply List.Sublist.cons_cons | apply List.Sublist.append_left))))
    have J9 : ∀ (bt : Nat) (e2 : Env) (H2 : List Blk), Slots e2 [(2, .pointer (some ⟨b2, 0, none⟩)), (4, .pointer (some ⟨b4, 0, none⟩)), (6, .slice a1 c.n p1), (8, .int .i64 n), (12, .slice a2 c.inn.length p2), (17, .int .i64 c.st), (14, .slice (some ⟨bt, 0, none⟩) 1 1)] → HSub H2 ((bt, CB [.int .i64 0] 3) :: (b4, CB [.slice none 0 0, .slice none 0 0, .int .i64 0] 24) :: (b2, CB [.slice a1 c.n p1, .slice a2 c.inn.length p2, .int .i64 c.st] 24) :: []) → X 6 #[true, true, false, true, false, false, true, true, false, true, false, true, true, false] e2 H2 := by
      intro bt e2 H2 hsl hsb
      rw [← hsl.sets, hX]
      refine WH_sub hsb (HSub.sub sbA) ?_
      refine WH_step2 2 4 (by decide +kernel) (fun _ h => St.sub h sbA) (by rfl) (by rfl) ?_ ?_
      ·
        refine WS_gen hF (by rfl) (y_callL (by rfl) (by rfl) Tryd.call78 (fun w hw => cloneN_any a1 c.n p1 c.sz w hn (h1.st w hw))) ?_
        rintro _ Hc ⟨ca, ck, rfl, hc1⟩
        refine WS_nil ?_
        refine WH_pullL Hc (by repeat (first | exact PulL.base | exact PulL.base1 | apply PulL.cons | apply PulL.app)) ?_
        refine WH_pull (b2, CB [.slice a1 c.n p1, .slice a2 c.inn.length p2, .int .i64 c.st] 24) (by repeat (first | exact Pul.base0 | exact Pul.base | apply Pul.cons | apply Pul.app)) ?_
        refine WH_pull (b4, CB [.slice none 0 0, .slice none 0 0, .int .i64 0] 24) (by repeat (first | exact Pul.base0 | exact Pul.base | apply Pul.cons | apply Pul.app)) ?_
        refine WH_pull (bt, CB [.int .i64 0] 3) (by repeat (first | exact Pul.base0 | exact Pul.base | apply Pul.cons | apply Pul.app)) ?_
        exact WH_of hX (by rfl) (by decide +kernel) (J2_9 ca ck Hc bt hc1 _ _ (by repeat (first | exact trivial | refine ⟨by rfl, ?_⟩)) (HSub.sub (by repeat (first | exact List.nil_sublist _ | exact List.Sublist.refl _ | exact List.sublist_append_left _ _ | apply List.Sublist.cons_cons | apply List.Sublist.append_left))))
      ·
        refine WS_newS hF (by rfl) (y_buildSliceL bs22_1_0 (by rfl)) (fun bs => ?_)
        refine WS_nil ?_
        refine WH_pull (b2, CB [.slice a1 c.n p1, .slice a2 c.inn.length p2, .int .i64 c.st] 24) (by repeat (first | exact Pul.base0 | exact Pul.base | apply Pul.cons | apply Pul.app)) ?_
        refine WH_pull (b4, CB [.slice none 0 0, .slice none 0 0, .int .i64 0] 24) (by repeat (first | exact Pul.base0 | exact Pul.base | apply Pul.cons | apply Pul.app)) ?_
        refine WH_pull (bt, CB [.int .i64 0] 3) (by repeat (first | exact Pul.base0 | exact Pul.base | apply Pul.cons | apply Pul.app)) ?_
        refine WH_pull (bs, CB [.int .i64 n] 3) (by repeat (first | exact Pul.base0 | exact Pul.base | apply Pul.cons | apply Pul.app)) ?_
        exact WH_of hX (by rfl) (by decide +kernel) (J4_9 bs bt _ _ (by repeat (first | exact trivial | refine ⟨by rfl, ?_⟩)) (HSub.sub (by repeat (first | exact List.nil_sublist _ | exact List.Sublist.refl _ | exact List.sublist_append_left _ _ | apply List.Sublist.cons_cons | apply List.Sublist.append_left))))
    have J : ∀  (e2 : Env) (H2 : List Blk), Slots e2 [(2, .pointer (some ⟨b2, 0, none⟩)), (4, .pointer (some ⟨b4, 0, none⟩)), (6, .slice a1 c.n p1), (8, .int .i64 n), (12, .slice a2 c.inn.length p2), (17, .int .i64 c.st)] → HSub H2 ((b4, CB [.slice none 0 0, .slice none 0 0, .int .i64 0] 24) :: (b2, CB [.slice a1 c.n p1, .slice a2 c.inn.length p2, .int .i64 c.st] 24) :: []) → X 7 #[true, true, false, true, false, false, true, true, false, false, false, true, true, false] e2 H2 := by
      intro  e2 H2 hsl hsb
      rw [← hsl.sets, hX]
      refine WH_sub hsb (HSub.sub sbA) ?_
      refine WH_step3 2 4 9 (by decide +kernel) (fun _ h => St.sub h sbA) (by rfl) (by rfl) (by rfl) ?_ ?_ ?_
      ·
        refine WS_gen hF (by rfl) (y_callL (by rfl) (by rfl) Tryd.call78 (fun w hw => cloneN_any a1 c.n p1 c.sz w hn (h1.st w hw))) ?_
        rintro _ Hc ⟨ca, ck, rfl, hc1⟩
        refine WS_nil ?_
        refine WH_pullL Hc (by repeat (first | exact PulL.base | exact PulL.base1 | apply PulL.cons | apply PulL.app)) ?_
        refine WH_pull (b2, CB [.slice a1 c.n p1, .slice a2 c.inn.length p2, .int .i64 c.st] 24) (by repeat (first | exact Pul.base0 | exact Pul.base | apply Pul.cons | apply Pul.app)) ?_
        refine WH_pull (b4, CB [.slice none 0 0, .slice none 0 0, .int .i64 0] 24) (by repeat (first | exact Pul.base0 | exact Pul.base | apply Pul.cons | apply Pul.app)) ?_
        exact WH_of hX (by rfl) (by decide +kernel) (J2 ca ck Hc hc1 _ _ (by repeat (first | exact trivial | refine ⟨by rfl, ?_⟩)) (HSub.sub (by repeat (first | exact List.nil_sublist _ | exact List.Sublist.refl _ | exact List.sublist_append_left _ _ | apply List.Sublist.cons_cons | apply List.Sublist.append_left))))
      ·
        refine WS_newS hF (by rfl) (y_buildSliceL bs22_1_0 (by rfl)) (fun bs => ?_)
        refine WS_nil ?_
        refine WH_pull (b2, CB [.slice a1 c.n p1, .slice a2 c.inn.length p2, .int .i64 c.st] 24) (by repeat (first | exact Pul.base0 | exact Pul.base | apply Pul.cons | apply Pul.app)) ?_
        refine WH_pull (b4, CB [.slice none 0 0, .slice none 0 0, .int .i64 0] 24) (by repeat (first | exact Pul.base0 | exact Pul.base | apply Pul.cons | apply Pul.app)) ?_
        refine WH_pull (bs, CB [.int .i64 n] 3) (by repeat (first | exact Pul.base0 | exact Pul.base | apply Pul.cons | apply Pul.app)) ?_
        exact WH_of hX (by rfl) (by decide +kernel) (J4 bs _ _ (by repeat (first | exact trivial | refine ⟨by rfl, ?_⟩)) (HSub.sub (by repeat (first | exact List.nil_sublist _ | exact List.Sublist.refl _ | exact List.sublist_append_left _ _ | apply List.Sublist.cons_cons | apply List.Sublist.append_left))))
      ·
        refine WS_newS hF (by rfl) (y_buildSliceL bs22_1_0 (by rfl)) (fun bt => ?_)
        refine WS_nil ?_
        refine WH_pull (b2, CB [.slice a1 c.n p1, .slice a2 c.inn.length p2, .int .i64 c.st] 24) (by repeat (first | exact Pul.base0 | exact Pul.base | apply Pul.cons | apply Pul.app)) ?_
        refine WH_pull (b4, CB [.slice none 0 0, .slice none 0 0, .int .i64 0] 24) (by repeat (first | exact Pul.base0 | exact Pul.base | apply Pul.cons | apply Pul.app)) ?_
        refine WH_pull (bt, CB [.int .i64 0] 3) (by repeat (first | exact Pul.base0 | exact Pul.base | apply Pul.cons | apply Pul.app)) ?_
        exact WH_of hX (by rfl) (by decide +kernel) (J9 bt _ _ (by repeat (first | exact trivial | refine ⟨by rfl, ?_⟩)) (HSub.sub (by repeat (first | exact List.nil_sublist _ | exact List.Sublist.refl _ | exact List.sublist_append_left _ _ | apply List.Sublist.cons_cons | apply List.Sublist.append_left))))
    rw [hX]
    refine WH_take 0 (by decide +kernel) (by rfl) (by decide +kernel) (by decide +kernel) (by rfl) (ye_fieldAddr (by rfl) fa24_0) ?_
    refine WH_take 1 (by decide +kernel) (by rfl) (by decide +kernel) (by decide +kernel) (by rfl) (ye_load1 (by rfl) Tryd.isAgg22 (Mem.own1 1 (by rfl) (by rfl))) ?_
    refine WH_take 3 (by decide +kernel) (by rfl) (by decide +kernel) (by decide +kernel) (by rfl) (ye_move (c := .int .i64 _) (by rfl)) ?_
    refine WH_take 6 (by decide +kernel) (by rfl) (by decide +kernel) (by decide +kernel) (by rfl) (ye_fieldAddr (by rfl) fa24_1) ?_
    refine WH_take 7 (by decide +kernel) (by rfl) (by decide +kernel) (by decide +kernel) (by rfl) (ye_load1 (by rfl) Tryd.isAgg22 (Mem.own1 1 (by rfl) (by rfl))) ?_
    refine WH_take 11 (by decide +kernel) (by rfl) (by decide +kernel) (by decide +kernel) (by rfl) (ye_fieldAddr (by rfl) fa24_2) ?_
    refine WH_take 12 (by decide +kernel) (by rfl) (by decide +kernel) (by decide +kernel) (by rfl) (ye_load1 (by rfl) Tryd.isAgg3 (Mem.own1 1 (by rfl) (by rfl))) ?_
    refine WH_pull (b2, CB [.slice a1 c.n p1, .slice a2 c.inn.length p2, .int .i64 c.st] 24) (by repeat (first | exact Pul.base0 | exact Pul.base | apply Pul.cons | apply Pul.app)) ?_
    refine WH_pull (b4, CB [.slice none 0 0, .slice none 0 0, .int .i64 0] 24) (by repeat (first | exact Pul.base0 | exact Pul.base | apply Pul.cons | apply Pul.app)) ?_
    exact WH_of hX (by rfl) (by decide +kernel) (J  _ _ (by repeat (first | exact trivial | refine ⟨by rfl, ?_⟩)) (HSub.sub (by repeat (first | exact List.nil_sublist _ | exact List.Sublist.refl _ | exact List.sublist_append_left _ _ | apply List.Sublist.cons_cons | apply List.Sublist.append_left))))
theorem rwithC_any (c : Cn) (a1 : Option Addr) (p1 : Nat) (a2 : Option Addr) (p2 : Nat) (n : Int) (w : World) (hn : c.n ≤ 1000000) (hm : c.inn.length ≤ 1000000) (h1 : Ints w a1 c.n p1 c.sz) (h2 : Ints w a2 c.inn.length p2 c.inn) : Ct Tryd.prog 68 #[.agg #[.slice a1 c.n p1, .slice a2 c.inn.length p2, .int .i64 c.st], .int .i64 n] w (TwinC (c.more n)) := by
  have hn' : c.sz.length ≤ 1000000 := hn
  have hmn := c.more_n n
  have hmm := c.more_m n
  have hF := wide_wide
  refine Ct_start (args := [_, _]) Tryd.func68 (by rfl) Tryd.ntmps68 (by rfl) ?_
  refine W_seq ?_
  refine W_region_lit (fun ds => ?_)
  refine WS_new hF (by rfl) (y_box (by rfl)) (fun b2 => ?_)
  refine WS_new hF (by rfl) (y_alloc Tryd.zeroValue24 (by rfl)) (fun b4 => ?_)
  refine WS_nil ?_
  refine Then_normal ?_
  refine W_seq ?_
  refine W_region_lit (fun ds => ?_)
  refine WS_det hF (by rfl) (y_loadN (by rfl) Tryd.isAgg24 Tryd.sizeOf24 (Mem.own (us := [.slice _ _ _, .slice _ _ _, .int .i64 _]) 1 (by rfl) (by rfl)) (by rfl)) ?_
  refine WS_gen hF (by rfl) (y_callL (by rfl) (by rfl) Tryd.call10 (fun w hw => rctwin_any c a1 p1 a2 p2 w hn hm (h1.st w hw) (h2.st w hw))) ?_
  rintro _ _ ⟨z1, q1, z2, q2, G1, G2, rfl, hr1, hr2, rfl⟩
  refine WS_back ?_
  refine WS_new hF (by rfl) (y_alloc Tryd.zeroValue24 (by rfl)) (fun b5 => ?_)
  refine WS_store hF (i := 0) (by rfl) (by rfl) Tryd.sizeOf24 (by rfl) (by rfl) (by rfl) (by first | decide | exact Nat.le_of_ble_eq_true rfl | simp) ?_
  refine WS_nil ?_
  refine Then_normal ?_
  refine W_seq ?_
  refine W_tailH0 ((b5, CB [.slice z1 c.n q1, .slice z2 c.inn.length q2, .int .i64 c.st] 24) :: (b4, CB [.slice none 0 0, .slice none 0 0, .int .i64 0] 24) :: []) 10 Trydmixed (fun e2 H2 => ∃ s1 k1 s2 k2 K1 K2, NewRow 3 1 (c.more n).n (iv (c.more n).sz) (.slice s1 (c.more n).n k1) K1 ∧ NewRow 3 1 (c.more n).inn.length (iv (c.more n).inn) (.slice s2 (c.more n).inn.length k2) K2 ∧ Slots e2 [(4, .pointer (some ⟨b4, 0, none⟩)), (5, .pointer (some ⟨b5, 0, none⟩)), (12, .slice s1 (c.more n).n k1), (16, .slice s2 (c.more n).inn.length k2), (17, .pointer (some ⟨b5, 0, none⟩))] ∧ HSub H2 ((b5, CB [.slice z1 c.n q1, .slice z2 c.inn.length q2, .int .i64 c.st] 24) :: (b4, CB [.slice none 0 0, .slice none 0 0, .int .i64 0] 24) :: (K1 ++ K2))) (by decide +kernel) (fun ds e2 H2 hmid => ?_) (fun ds => ?_)
  ·
    obtain ⟨s1, k1, s2, k2, K1, K2, hk1, hk2, hsl, hsb⟩ := hmid
    rw [← hsl.sets]
    refine WS_sub hsb ?_
    refine WS_store hF (i := 0) (by rfl) (by rfl) Tryd.sizeOf22 (by rfl) (by rfl) (by rfl) (by first | decide | exact Nat.le_of_ble_eq_true rfl | simp) ?_
    refine WS_det hF (by rfl) (y_fieldAddr (by rfl) fa24_1) ?_
    refine WS_store hF (i := 0) (by rfl) (by rfl) Tryd.sizeOf22 (by rfl) (by rfl) (by rfl) (by first | decide | exact Nat.le_of_ble_eq_true rfl | simp) ?_
    refine WS_nil ?_
    refine Then_normal ?_
    refine W_seq ?_
    refine W_region_lit (fun ds => ?_)
    refine WS_det hF (by rfl) (y_loadN (by rfl) Tryd.isAgg24 Tryd.sizeOf24 (Mem.own (us := [.slice _ _ _, .slice _ _ _, .int .i64 _]) 0 (by rfl) (by rfl)) (by rfl)) ?_
    refine WS_store hF (i := 1) (by rfl) (by rfl) Tryd.sizeOf24 (by rfl) (by rfl) (by rfl) (by first | decide | exact Nat.le_of_ble_eq_true rfl | simp) ?_
    refine WS_nil ?_
    refine Then_normal ?_
    refine W_ret ?_
    refine Fin_ret [_] (K1 ++ K2) Tryd.results68 ⟨lvN (by rfl) Tryd.isAgg24 Tryd.sizeOf24 (Mem.own (us := [.slice _ _ _, .slice _ _ _, .int .i64 _]) 1 (by rfl) (by rfl)) (by rfl), trivial⟩ (HSub.sub sbA) ?_
    exact ⟨_, _, _, _, K1, K2, rfl, hk1, hk2, rfl⟩
  ·
    refine WH_as (fun X hX => ?_)
    have J3_4_7 : ∀ (ka : Option Addr) (kk : Nat) (K1 : List Blk) (bt : Nat) (hk1 : NewRow 3 1 (c.more n).n (iv (c.more n).sz) (.slice ka (c.more n).n kk) K1) (e2 : Env) (H2 : List Blk), Slots e2 [(4, .pointer (some ⟨b4, 0, none⟩)), (5, .pointer (some ⟨b5, 0, none⟩)), (9, .slice z1 c.n q1), (10, .int .i64 n), (14, .slice z2 c.inn.length q2), (12, .slice ka (c.n + 1) kk), (15, .slice (some ⟨bt, 0, none⟩) 1 1), (17, .pointer (some ⟨b5, 0, none⟩))] → HSub H2 ((bt, CB [.int .i64 0] 3) :: (b5, CB [.slice z1 c.n q1, .slice z2 c.inn.length q2, .int .i64 c.st] 24) :: (b4, CB [.slice none 0 0, .slice none 0 0, .int .i64 0] 24) :: K1 ++ (G2)) → X 1 #[true, true, true, true, true, true, true, true, false, true] e2 H2 := by
      intro ka kk K1 bt hk1 e2 H2 hsl hsb
      rw [← hsl.sets, hX]
      refine WH_sub hsb (HSub.sub sbA) ?_
      refine WH_step1 8 (by decide +kernel) (fun _ h => St.sub h sbA) (by rfl) ?_
      ·
        refine WS_pull (bt, _) (by repeat (first | exact Pul.base0 | exact Pul.base | apply Pul.cons | apply Pul.app)) ?_
        refine WS_pullE G2 (by repeat (first | exact PulE.hd | exact PulE.snd | exact PulE.one | apply PulE.cons | apply PulE.app)) ?_
        refine WS_appendN hF (H1 := (_ :: _ :: _ :: (K1))) (Hn := G2) (by rfl) (by rfl) (by rfl) Tryd.underlying22 infInt (by rfl) (by rfl) hr2 (iv_len c.inn) (.inr ⟨bt, 0, rfl, Mem.own1 0 (by rfl) (by rfl)⟩) (by rfl) (by rfl) (by omega) (by omega) (by omega) ?_
        intro ma mk K2 hr4
        have hk2 : NewRow 3 1 (c.more n).inn.length (iv (c.more n).inn) (.slice ma (c.more n).inn.length mk) K2 := by rw [hmm]; show NewRow _ _ _ (iv (c.inn ++ [0])) _ _; rw [← iv_snoc]; exact hr4
        refine WS_nil ?_
        refine WH_done (by decide +kernel) (fun _ h => St.sub h sbA) ?_
        rw [← hmn, ← hmm]
        exact ⟨_, _, _, _, K1, K2, hk1, hk2, (by repeat (first | exact trivial | refine ⟨by rfl, ?_⟩ | refine ⟨congrArg (Value.int _) (by first | omega | (simp only; omega) | (push_cast; omega)), ?_⟩)), HSub.sub sbA⟩
    have J3_4 : ∀ (ka : Option Addr) (kk : Nat) (K1 : List Blk) (hk1 : NewRow 3 1 (c.more n).n (iv (c.more n).sz) (.slice ka (c.more n).n kk) K1) (e2 : Env) (H2 : List Blk), Slots e2 [(4, .pointer (some ⟨b4, 0, none⟩)), (5, .pointer (some ⟨b5, 0, none⟩)), (9, .slice z1 c.n q1), (10, .int .i64 n), (14, .slice z2 c.inn.length q2), (12, .slice ka (c.n + 1) kk), (17, .pointer (some ⟨b5, 0, none⟩))] → HSub H2 ((b5, CB [.slice z1 c.n q1, .slice z2 c.inn.length q2, .int .i64 c.st] 24) :: (b4, CB [.slice none 0 0, .slice none 0 0, .int .i64 0] 24) :: K1 ++ (G2)) → X 2 #[true, true, true, true, true, true, true, false, false, true] e2 H2 := by
      intro ka kk K1 hk1 e2 H2 hsl hsb
      rw [← hsl.sets, hX]
      refine WH_sub hsb (HSub.sub sbA) ?_
      refine WH_step1 7 (by decide +kernel) (fun _ h => St.sub h sbA) (by rfl) ?_
      ·
        refine WS_newS hF (by rfl) (y_buildSliceL bs22_1_0 (by rfl)) (fun bt => ?_)
        refine WS_nil ?_
        refine WH_pullL G2 (by repeat (first | exact PulL.base | exact PulL.base1 | apply PulL.cons | apply PulL.app)) ?_
        refine WH_pullL K1 (by repeat (first | exact PulL.base | exact PulL.base1 | apply PulL.cons | apply PulL.app)) ?_
        refine WH_pull (b4, CB [.slice none 0 0, .slice none 0 0, .int .i64 0] 24) (by repeat (first | exact Pul.base0 | exact Pul.base | apply Pul.cons | apply Pul.app)) ?_
        refine WH_pull (b5, CB [.slice z1 c.n q1, .slice z2 c.inn.length q2, .int .i64 c.st] 24) (by repeat (first | exact Pul.base0 | exact Pul.base | apply Pul.cons | apply Pul.app)) ?_
        refine WH_pull (bt, CB [.int .i64 0] 3) (by repeat (first | exact Pul.base0 | exact Pul.base | apply Pul.cons | apply Pul.app)) ?_
        exact WH_of hX (by rfl) (by decide +kernel) (J3_4_7 ka kk K1 bt hk1 _ _ (by repeat (first | exact trivial | refine ⟨by rfl, ?_⟩)) (HSub.sub (by repeat (first | exact List.nil_sublist _ | exact List.Sublist.refl _ | exact List.sublist_append_left _ _ | apply List.Sublist.cons_cons | apply List.Sublist.append_left))))
    have J3_7 : ∀ (bs : Nat) (bt : Nat) (e2 : Env) (H2 : List Blk), Slots e2 [(4, .pointer (some ⟨b4, 0, none⟩)), (5, .pointer (some ⟨b5, 0, none⟩)), (9, .slice z1 c.n q1), (10, .int .i64 n), (14, .slice z2 c.inn.length q2), (11, .slice (some ⟨bs, 0, none⟩) 1 1), (15, .slice (some ⟨bt, 0, none⟩) 1 1)] → HSub H2 ((bs, CB [.int .i64 n] 3) :: (bt, CB [.int .i64 0] 3) :: (b5, CB [.slice z1 c.n q1, .slice z2 c.inn.length q2, .int .i64 c.st] 24) :: (b4, CB [.slice none 0 0, .slice none 0 0, .int .i64 0] 24) :: G1 ++ (G2)) → X 3 #[true, true, true, true, false, true, true, true, false, false] e2 H2 := by
      intro bs bt e2 H2 hsl hsb
      rw [← hsl.sets, hX]
      refine WH_sub hsb (HSub.sub sbA) ?_
      refine WH_step1 4 (by decide +kernel) (fun _ h => St.sub h sbA) (by rfl) ?_
      ·
        refine WS_pull (bs, _) (by repeat (first | exact Pul.base0 | exact Pul.base | apply Pul.cons | apply Pul.app)) ?_
        refine WS_pullE G1 (by repeat (first | exact PulE.hd | exact PulE.snd | exact PulE.one | apply PulE.cons | apply PulE.app)) ?_
        refine WS_appendN hF (H1 := (_ :: _ :: _ :: _ :: (G2))) (Hn := G1) (by rfl) (by rfl) (by rfl) Tryd.underlying22 infInt (by rfl) (by rfl) hr1 (iv_len c.sz) (.inr ⟨bs, 0, rfl, Mem.own1 0 (by rfl) (by rfl)⟩) (by rfl) (by rfl) (by omega) (by omega) (by omega) ?_
        intro ka kk K1 hr3
        have hk1 : NewRow 3 1 (c.more n).n (iv (c.more n).sz) (.slice ka (c.more n).n kk) K1 := by rw [hmn]; show NewRow _ _ _ (iv (c.sz ++ [n])) _ _; rw [← iv_snoc]; exact hr3
        refine WS_nil ?_
        refine WH_take 9 (by decide +kernel) (by rfl) (by decide +kernel) (by decide +kernel) (by rfl) (ye_fieldAddr (by rfl) fa24_0) ?_
        refine WH_pullL G2 (by repeat (first | exact PulL.base | exact PulL.base1 | apply PulL.cons | apply PulL.app)) ?_
        refine WH_pullL K1 (by repeat (first | exact PulL.base | exact PulL.base1 | apply PulL.cons | apply PulL.app)) ?_
        refine WH_pull (b4, CB [.slice none 0 0, .slice none 0 0, .int .i64 0] 24) (by repeat (first | exact Pul.base0 | exact Pul.base | apply Pul.cons | apply Pul.app)) ?_
        refine WH_pull (b5, CB [.slice z1 c.n q1, .slice z2 c.inn.length q2, .int .i64 c.st] 24) (by repeat (first | exact Pul.base0 | exact Pul.base | apply Pul.cons | apply Pul.app)) ?_
        refine WH_pull (bt, CB [.int .i64 0] 3) (by repeat (first | exact Pul.base0 | exact Pul.base | apply Pul.cons | apply Pul.app)) ?_
        exact WH_of hX (by rfl) (by decide +kernel) (J3_4_7 ka kk K1 bt hk1 _ _ (by repeat (first | exact trivial | refine ⟨by rfl, ?_⟩)) (HSub.sub (by repeat (first | exact List.nil_sublist _ | exact List.Sublist.refl _ | exact List.sublist_append_left _ _ | apply List.Sublist.cons_cons | apply List.Sublist.append_left))))
    have J3 : ∀ (bs : Nat) (e2 : Env) (H2 : List Blk), Slots e2 [(4, .pointer (some ⟨b4, 0, none⟩)), (5, .pointer (some ⟨b5, 0, none⟩)), (9, .slice z1 c.n q1), (10, .int .i64 n), (14, .slice z2 c.inn.length q2), (11, .slice (some ⟨bs, 0, none⟩) 1 1)] → HSub H2 ((bs, CB [.int .i64 n] 3) :: (b5, CB [.slice z1 c.n q1, .slice z2 c.inn.length q2, .int .i64 c.st] 24) :: (b4, CB [.slice none 0 0, .slice none 0 0, .int .i64 0] 24) :: G1 ++ (G2)) → X 4 #[true, true, true, true, false, true, true, false, false, false] e2 H2 := by
      intro bs e2 H2 hsl hsb
      rw [← hsl.sets, hX]
      refine WH_sub hsb (HSub.sub sbA) ?_
      refine WH_step2 4 7 (by decide +kernel) (fun _ h => St.sub h sbA) (by rfl) (by rfl) ?_ ?_
      ·
        refine WS_pull (bs, _) (by repeat (first | exact Pul.base0 | exact Pul.base | apply Pul.cons | apply Pul.app)) ?_
        refine WS_pullE G1 (by repeat (first | exact PulE.hd | exact PulE.snd | exact PulE.one | apply PulE.cons | apply PulE.app)) ?_
        refine WS_appendN hF (H1 := (_ :: _ :: _ :: (G2))) (Hn := G1) (by rfl) (by rfl) (by rfl) Tryd.underlying22 infInt (by rfl) (by rfl) hr1 (iv_len c.sz) (.inr ⟨bs, 0, rfl, Mem.own1 0 (by rfl) (by rfl)⟩) (by rfl) (by rfl) (by omega) (by omega) (by omega) ?_
        intro ka kk K1 hr3
        have hk1 : NewRow 3 1 (c.more n).n (iv (c.more n).sz) (.slice ka (c.more n).n kk) K1 := by rw [hmn]; show NewRow _ _ _ (iv (c.sz ++ [n])) _ _; rw [← iv_snoc]; exact hr3
        refine WS_nil ?_
        refine WH_take 9 (by decide +kernel) (by rfl) (by decide +kernel) (by decide +kernel) (by rfl) (ye_fieldAddr (by rfl) fa24_0) ?_
        refine WH_pullL G2 (by repeat (first | exact PulL.base | exact PulL.base1 | apply PulL.cons | apply PulL.app)) ?_
        refine WH_pullL K1 (by repeat (first | exact PulL.base | exact PulL.base1 | apply PulL.cons | apply PulL.app)) ?_
        refine WH_pull (b4, CB [.slice none 0 0, .slice none 0 0, .int .i64 0] 24) (by repeat (first | exact Pul.base0 | exact Pul.base | apply Pul.cons | apply Pul.app)) ?_
        refine WH_pull (b5, CB [.slice z1 c.n q1, .slice z2 c.inn.length q2, .int .i64 c.st] 24) (by repeat (first | exact Pul.base0 | exact Pul.base | apply Pul.cons | apply Pul.app)) ?_
        exact WH_of hX (by rfl) (by decide +kernel) (J3_4 ka kk K1 hk1 _ _ (by repeat (first | exact trivial | refine ⟨by rfl, ?_⟩)) (HSub.sub (by repeat (first | exact List.nil_sublist _ | exact List.Sublist.refl _ | exact List.sublist_append_left _ _ | apply List.Sublist.cons_cons | apply List.Sublist.append_left))))
      ·
        refine WS_newS hF (by rfl) (y_buildSliceL bs22_1_0 (by rfl)) (fun bt => ?_)
        refine WS_nil ?_
        refine WH_pullL G2 (by repeat (first | exact PulL.base | exact PulL.base1 | apply PulL.cons | apply PulL.app)) ?_
        refine WH_pullL G1 (by repeat (first | exact PulL.base | exact PulL.base1 | apply PulL.cons | apply PulL.app)) ?_
        refine WH_pull (b4, CB [.slice none 0 0, .slice none 0 0, .int .i64 0] 24) (by repeat (first | exact Pul.base0 | exact Pul.base | apply Pul.cons | apply Pul.app)) ?_
        refine WH_pull (b5, CB [.slice z1 c.n q1, .slice z2 c.inn.length q2, .int .i64 c.st] 24) (by repeat (first | exact Pul.base0 | exact Pul.base | apply Pul.cons | apply Pul.app)) ?_
        refine WH_pull (bt, CB [.int .i64 0] 3) (by repeat (first | exact Pul.base0 | exact Pul.base | apply Pul.cons | apply Pul.app)) ?_
        refine WH_pull (bs, CB [.int .i64 n] 3) (by repeat (first | exact Pul.base0 | exact Pul.base | apply Pul.cons | apply Pul.app)) ?_
        exact WH_of hX (by rfl) (by decide +kernel) (J3_7 bs bt _ _ (by repeat (first | exact trivial | refine ⟨by rfl, ?_⟩)) (HSub.sub (by repeat (first | exact List.nil_sublist _ | exact List.Sublist.refl _ | exact List.sublist_append_left _ _ | apply List.Sublist.cons_cons | apply List.Sublist.append_left))))
    have J7 : ∀ (bt : Nat) (e2 : Env) (H2 : List Blk), Slots e2 [(4, .pointer (some ⟨b4, 0, none⟩)), (5, .pointer (some ⟨b5, 0, none⟩)), (9, .slice z1 c.n q1), (10, .int .i64 n), (14, .slice z2 c.inn.length q2), (15, .slice (some ⟨bt, 0, none⟩) 1 1)] → HSub H2 ((bt, CB [.int .i64 0] 3) :: (b5, CB [.slice z1 c.n q1, .slice z2 c.inn.length q2, .int .i64 c.st] 24) :: (b4, CB [.slice none 0 0, .slice none 0 0, .int .i64 0] 24) :: G1 ++ (G2)) → X 4 #[true, true, true, false, false, true, true, true, false, false] e2 H2 := by
      intro bt e2 H2 hsl hsb
      rw [← hsl.sets, hX]
      refine WH_sub hsb (HSub.sub sbA) ?_
      refine WH_step1 3 (by decide +kernel) (fun _ h => St.sub h sbA) (by rfl) ?_
      ·
        refine WS_newS hF (by rfl) (y_buildSliceL bs22_1_0 (by rfl)) (fun bs => ?_)
        refine WS_nil ?_
        refine WH_pullL G2 (by repeat (first | exact PulL.base | exact PulL.base1 | apply PulL.cons | apply PulL.app)) ?_
        refine WH_pullL G1 (by repeat (first | exact PulL.base | exact PulL.base1 | apply PulL.cons | apply PulL.app)) ?_
        refine WH_pull (b4, CB [.slice none 0 0, .slice none 0 0, .int .i64 0] 24) (by repeat (first | exact Pul.base0 | exact Pul.base | apply Pul.cons | apply Pul.app)) ?_
        refine WH_pull (b5, CB [.slice z1 c.n q1, .slice z2 c.inn.length q2, .int .i64 c.st] 24) (by repeat (first | exact Pul.base0 | exact Pul.base | apply Pul.cons | apply Pul.app)) ?_
        refine WH_pull (bt, CB [.int .i64 0] 3) (by repeat (first | exact Pul.base0 | exact Pul.base | apply Pul.cons | apply Pul.app)) ?_
        refine WH_pull (bs, CB [.int .i64 n] 3) (by repeat (first | exact Pul.base0 | exact Pul.base | apply Pul.cons | apply Pul.app)) ?_
        exact WH_of hX (by rfl) (by decide +kernel) (J3_7 bs bt _ _ (by repeat (first | exact trivial | refine ⟨by rfl, ?_⟩)) (HSub.sub (by repeat (first | exact List.nil_sublist _ | exact List.Sublist.refl _ | exact List.sublist_append_left _ _ | apply List.Sublist.cons_cons | apply List.Sublist.append_left))))
    have J : ∀  (e2 : Env) (H2 : List Blk), Slots e2 [(4, .pointer (some ⟨b4, 0, none⟩)), (5, .pointer (some ⟨b5, 0, none⟩)), (9, .slice z1 c.n q1), (10, .int .i64 n), (14, .slice z2 c.inn.length q2)] → HSub H2 ((b5, CB [.slice z1 c.n q1, .slice z2 c.inn.length q2, .int .i64 c.st] 24) :: (b4, CB [.slice none 0 0, .slice none 0 0, .int .i64 0] 24) :: G1 ++ (G2)) → X 5 #[true, true, true, false, false, true, true, false, false, false] e2 H2 := by
      intro  e2 H2 hsl hsb
      rw [← hsl.sets, hX]
      refine WH_sub hsb (HSub.sub sbA) ?_
      refine WH_step2 3 7 (by decide +kernel) (fun _ h => St.sub h sbA) (by rfl) (by rfl) ?_ ?_
      ·
        refine WS_newS hF (by rfl) (y_buildSliceL bs22_1_0 (by rfl)) (fun bs => ?_)
        refine WS_nil ?_
        refine WH_pullL G2 (by repeat (first | exact PulL.base | exact PulL.base1 | apply PulL.cons | apply PulL.app)) ?_
        refine WH_pullL G1 (by repeat (first | exact PulL.base | exact PulL.base1 | apply PulL.cons | apply PulL.app)) ?_
        refine WH_pull (b4, CB [.slice none 0 0, .slice none 0 0, .int .i64 0] 24) (by repeat (first | exact Pul.base0 | exact Pul.base | apply Pul.cons | apply Pul.app)) ?_
        refine WH_pull (b5, CB [.slice z1 c.n q1, .slice z2 c.inn.length q2, .int .i64 c.st] 24) (by repeat (first | exact Pul.base0 | exact Pul.base | apply Pul.cons | apply Pul.app)) ?_
        refine WH_pull (bs, CB [.int .i64 n] 3) (by repeat (first | exact Pul.base0 | exact Pul.base | apply Pul.cons | apply Pul.app)) ?_
        exact WH_of hX (by rfl) (by decide +kernel) (J3 bs _ _ (by repeat (first | exact trivial | refine ⟨by rfl, ?_⟩)) (HSub.sub (by repeat (first | exact List.nil_sublist _ | exact List.Sublist.refl _ | exact List.sublist_append_left _ _ | apply List.Sublist.cons_cons | apply List.Sublist.append_left))))
      ·
        refine WS_newS hF (by rfl) (y_buildSliceL bs22_1_0 (by rfl)) (fun bt => ?_)
        refine WS_nil ?_
        refine WH_pullL G2 (by repeat (first | exact PulL.base | exact PulL.base1 | apply PulL.cons | apply PulL.app)) ?_
        refine WH_pullL G1 (by repeat (first | exact PulL.base | exact PulL.base1 | apply PulL.cons | apply PulL.app)) ?_
        refine WH_pull (b4, CB [.slice none 0 0, .slice none 0 0, .int .i64 0] 24) (by repeat (first | exact Pul.base0 | exact Pul.base | apply Pul.cons | apply Pul.app)) ?_
        refine WH_pull (b5, CB [.slice z1 c.n q1, .slice z2 c.inn.length q2, .int .i64 c.st] 24) (by repeat (first | exact Pul.base0 | exact Pul.base | apply Pul.cons | apply Pul.app)) ?_
        refine WH_pull (bt, CB [.int .i64 0] 3) (by repeat (first | exact Pul.base0 | exact Pul.base | apply Pul.cons | apply Pul.app)) ?_
        exact WH_of hX (by rfl) (by decide +kernel) (J7 bt _ _ (by repeat (first | exact trivial | refine ⟨by rfl, ?_⟩)) (HSub.sub (by repeat (first | exact List.nil_sublist _ | exact List.Sublist.refl _ | exact List.sublist_append_left _ _ | apply List.Sublist.cons_cons | apply List.Sublist.append_left))))
    rw [hX]
    refine WH_take 0 (by decide +kernel) (by rfl) (by decide +kernel) (by decide +kernel) (by rfl) (ye_fieldAddr (by rfl) fa24_0) ?_
    refine WH_take 1 (by decide +kernel) (by rfl) (by decide +kernel) (by decide +kernel) (by rfl) (ye_load1 (by rfl) Tryd.isAgg22 (Mem.own1 0 (by rfl) (by rfl))) ?_
    refine WH_take 2 (by decide +kernel) (by rfl) (by decide +kernel) (by decide +kernel) (by rfl) (ye_move (c := .int .i64 _) (by rfl)) ?_
    refine WH_take 5 (by decide +kernel) (by rfl) (by decide +kernel) (by decide +kernel) (by rfl) (ye_fieldAddr (by rfl) fa24_1) ?_
    refine WH_take 6 (by decide +kernel) (by rfl) (by decide +kernel) (by decide +kernel) (by rfl) (ye_load1 (by rfl) Tryd.isAgg22 (Mem.own1 0 (by rfl) (by rfl))) ?_
    refine WH_pullL G2 (by repeat (first | exact PulL.base | exact PulL.base1 | apply PulL.cons | apply PulL.app)) ?_
    refine WH_pullL G1 (by repeat (first | exact PulL.base | exact PulL.base1 | apply PulL.cons | apply PulL.app)) ?_
    refine WH_pull (b4, CB [.slice none 0 0, .slice none 0 0, .int .i64 0] 24) (by repeat (first | exact Pul.base0 | exact Pul.base | apply Pul.cons | apply Pul.app)) ?_
    refine WH_pull (b5, CB [.slice z1 c.n q1, .slice z2 c.inn.length q2, .int .i64 c.st] 24) (by repeat (first | exact Pul.base0 | exact Pul.base | apply Pul.cons | apply Pul.app)) ?_
    exact WH_of hX (by rfl) (by decide +kernel) (J  _ _ (by repeat (first | exact trivial | refine ⟨by rfl, ?_⟩)) (HSub.sub (by repeat (first | exact List.nil_sublist _ | exact List.Sublist.refl _ | exact List.sublist_append_left _ _ | apply List.Sublist.cons_cons | apply List.Sublist.append_left))))
end Go.Proofs.YtjekjehgmljbgaaDoor.T

/- Cans with one more, and the can that would help most: the program's walks. -/
namespace Go.Proofs.YtjekjehgmljbgaaDoor.T
open Go.RowKit Go.Proofs Go.Eng
set_option maxRecDepth 100000
set_option maxHeartbeats 1000000
set_option linter.unusedVariables false
set_option linter.unusedSimpArgs false

theorem fa121_0 : ∀ b o w, (Instr.fieldAt 121 (.pointer (some ⟨b, o, none⟩)) 0).run Tryd.prog w = .ok (.pointer (some ⟨b, o + 0, none⟩)) w := fun b o w => by kernel_rfl
theorem fa121_1 : ∀ b o w, (Instr.fieldAt 121 (.pointer (some ⟨b, o, none⟩)) 1).run Tryd.prog w = .ok (.pointer (some ⟨b, o + 1, none⟩)) w := fun b o w => by kernel_rfl

def Cn.adE (c : Cn) (n : Int) : Int := if c.okB then if c.n = 3 then 9 else if inB 1 20 [n] then 0 else 2 else 80
def Cn.adC (c : Cn) (n : Int) : Cn := if c.adE n = 0 then c.more n else Cn.zero
def AddCV (c : Cn) (n : Int) (v : Value) (Hn : List Blk) : Prop := ∃ v0, v = .tuple #[v0, .int .i64 (c.adE n)] ∧ TwinC (c.adC n) v0 Hn
theorem AddCV.bad {c : Cn} {n e : Int} (h : c.adE n = e) (he : e ≠ 0) : AddCV c n (.tuple #[.agg #[.slice none 0 0, .slice none 0 0, .int .i64 0], .int .i64 e]) [] := by
  subst h
  refine ⟨_, rfl, ?_⟩
  unfold Cn.adC
  rw [if_neg he]
  exact twinC_zero
theorem AddCV.ok {c : Cn} {n : Int} {v0 : Value} {Hn : List Blk} (h : c.adE n = 0) (hT : TwinC (c.more n) v0 Hn) : AddCV c n (.tuple #[v0, .int .i64 0]) Hn := by
  refine ⟨_, by rw [h], ?_⟩
  unfold Cn.adC
  rw [if_pos h]
  exact hT
theorem caddC_any (c : Cn) (a1 : Option Addr) (p1 : Nat) (a2 : Option Addr) (p2 : Nat) (n : Int) (w : World) (hG : Gv w) (hn : c.n ≤ 1000000) (hm : c.inn.length ≤ 1000000) (h1 : Ints w a1 c.n p1 c.sz) (h2 : Ints w a2 c.inn.length p2 c.inn) : Ct Tryd.prog 21 #[.agg #[.slice a1 c.n p1, .slice a2 c.inn.length p2, .int .i64 c.st], .int .i64 n] w (AddCV c n) := by
  have hF := wide_wide
  refine Ct_start (args := [_, _]) Tryd.func21 (by rfl) Tryd.ntmps21 (by rfl) ?_
  refine W_seq ?_
  refine W_region_lit (fun ds => ?_)
  refine WS_new hF (by rfl) (y_box (by rfl)) (fun b1 => ?_)
  refine WS_new hF (by rfl) (y_alloc Tryd.zeroValue24 (by rfl)) (fun b4 => ?_)
  refine WS_det hF (by rfl) (y_assign (c := .int .i64 _) (by rfl)) ?_
  refine WS_nil ?_
  refine Then_normal ?_
  refine W_seq ?_
  refine W_seq ?_
  refine W_region_lit (fun ds => ?_)
  refine WS_det hF (by rfl) (y_loadN (by rfl) Tryd.isAgg24 Tryd.sizeOf24 (Mem.own (us := [.slice _ _ _, .slice _ _ _, .int .i64 _]) 1 (by rfl) (by rfl)) (by rfl)) ?_
  refine WS_det hF (by rfl) (y_callL (by rfl) (by rfl) Tryd.call16 (fun w hw => ccheck_any c a1 p1 a2 p2 w (hG.st w hw) hn hm (h1.st w hw) (h2.st w hw))) ?_
  refine WS_det hF (by rfl) (y_assign (c := .int .i64 _) (by rfl)) ?_
  refine WS_nil ?_
  refine Then_normal ?_
  refine W_seq ?_
  refine W_region_lit (fun ds => ?_)
  refine WS_det hF (by rfl) (y_move (c := .int .i64 _) (by rfl)) ?_
  refine WS_det hF (by rfl) (y_neq (by rfl) (by rfl)) ?_
  refine WS_nil ?_
  refine Then_normal ?_
  refine W_cond (by rfl) (fun c2 => ?_) (fun c2 => ?_)
  ·
    try simp only [Bool.not_eq_true', Bool.not_eq_false', decide_eq_true_eq, decide_eq_false_iff_not, ne_eq, Classical.not_not, Int.not_lt, Int.not_le] at c2
    refine W_seq ?_
    refine W_region_lit (fun ds => ?_)
    refine WS_det hF (by rfl) (y_buildL bd24 (by rfl)) ?_
    refine WS_det hF (by rfl) (y_move (c := .int .i64 _) (by rfl)) ?_
    refine WS_store hF (i := 0) (by rfl) (by rfl) Tryd.sizeOf24 (by rfl) (by rfl) (by rfl) (by first | decide | exact Nat.le_of_ble_eq_true rfl | simp) ?_
    refine WS_det hF (by rfl) (y_assign (c := .int .i64 _) (by rfl)) ?_
    refine WS_nil ?_
    refine Then_normal ?_
    refine W_ret ?_
    refine Then_ret ?_
    refine Fin_ret [_, .int .i64 _] [] Tryd.results21 ⟨lvN (by rfl) Tryd.isAgg24 Tryd.sizeOf24 (Mem.own (us := [.slice _ _ _, .slice _ _ _, .int .i64 _]) 0 (by rfl) (by rfl)) (by rfl), by rfl, trivial⟩ HSub.nil ?_
    obtain ⟨h3, h4⟩ := Cn.err_no c2
    rw [h4]
    exact AddCV.bad (by unfold Cn.adE; rw [h3]; rfl) (by decide)
  ·
    try simp only [Bool.not_eq_true', Bool.not_eq_false', decide_eq_true_eq, decide_eq_false_iff_not, ne_eq, Classical.not_not, Int.not_lt, Int.not_le] at c2
    have hokB := Cn.err_iff.1 c2
    refine W_skip ?_
    refine Then_normal ?_
    refine W_seq ?_
    refine W_block ?_
    refine W_seq ?_
    refine W_region_lit (fun ds => ?_)
    refine WS_det hF (by rfl) (y_fieldAddr (by rfl) fa24_0) ?_
    refine WS_det hF (by rfl) (y_load1 (by rfl) Tryd.isAgg22 (Mem.own1 1 (by rfl) (by rfl))) ?_
    refine WS_det hF (by rfl) (y_len (by rfl) Tryd.runUnderlying22) ?_
    refine WS_det hF (by rfl) (y_eql (by rfl) (by rfl)) ?_
    refine WS_det hF (by rfl) (y_assign (c := .bool _) (by rfl)) ?_
    refine WS_nil ?_
    refine Then_normal ?_
    refine W_cond (by rfl) (fun c4 => ?_) (fun c4 => ?_)
    ·
      try simp only [Bool.not_eq_true', Bool.not_eq_false', decide_eq_true_eq, decide_eq_false_iff_not, ne_eq, Classical.not_not, Int.not_lt, Int.not_le] at c4
      refine W_seq ?_
      refine W_region_lit (fun ds => ?_)
      refine WS_det hF (by rfl) (y_buildL bd24 (by rfl)) ?_
      refine WS_store hF (i := 0) (by rfl) (by rfl) Tryd.sizeOf24 (by rfl) (by rfl) (by rfl) (by first | decide | exact Nat.le_of_ble_eq_true rfl | simp) ?_
      refine WS_det hF (by rfl) (y_assign (c := .int .i64 _) (by rfl)) ?_
      refine WS_nil ?_
      refine Then_normal ?_
      refine W_ret ?_
      refine InB_ret ?_
      refine Then_ret ?_
      refine Fin_ret [_, .int .i64 _] [] Tryd.results21 ⟨lvN (by rfl) Tryd.isAgg24 Tryd.sizeOf24 (Mem.own (us := [.slice _ _ _, .slice _ _ _, .int .i64 _]) 0 (by rfl) (by rfl)) (by rfl), by rfl, trivial⟩ HSub.nil ?_
      exact AddCV.bad (by unfold Cn.adE; rw [hokB, if_pos rfl, if_pos (by omega)]) (by decide)
    ·
      try simp only [Bool.not_eq_true', Bool.not_eq_false', decide_eq_true_eq, decide_eq_false_iff_not, ne_eq, Classical.not_not, Int.not_lt, Int.not_le] at c4
      refine W_seq ?_
      refine W_region_lit (fun ds => ?_)
      refine WS_det hF (by rfl) (y_move (c := .int .i64 _) (by rfl)) ?_
      refine WS_newS hF (by rfl) (y_buildSliceL bs22_1_0 (by rfl)) (fun b2 => ?_)
      refine WS_det hF (by rfl) (y_callL (by rfl) (by rfl) Tryd.call56 (fun w hw => cin_any _ _ _ _ _ _ w (by decide) (by first | exact Ints.one 0 rfl w hw | exact Ints.two 0 rfl w hw))) ?_
      refine WS_det hF (by rfl) (y_not (by rfl)) ?_
      refine WS_det hF (by rfl) (y_assign (c := .bool _) (by rfl)) ?_
      refine WS_nil ?_
      refine Then_normal ?_
      refine W_cond (by rfl) (fun c6 => ?_) (fun c6 => ?_)
      ·
        try simp only [Bool.not_eq_true', Bool.not_eq_false', decide_eq_true_eq, decide_eq_false_iff_not, ne_eq, Classical.not_not, Int.not_lt, Int.not_le] at c6
        refine W_seq ?_
        refine W_region_lit (fun ds => ?_)
        refine WS_det hF (by rfl) (y_buildL bd24 (by rfl)) ?_
        refine WS_store hF (i := 1) (by rfl) (by rfl) Tryd.sizeOf24 (by rfl) (by rfl) (by rfl) (by first | decide | exact Nat.le_of_ble_eq_true rfl | simp) ?_
        refine WS_det hF (by rfl) (y_assign (c := .int .i64 _) (by rfl)) ?_
        refine WS_nil ?_
        refine Then_normal ?_
        refine W_ret ?_
        refine InB_ret ?_
        refine Then_ret ?_
        refine Fin_ret [_, .int .i64 _] [] Tryd.results21 ⟨lvN (by rfl) Tryd.isAgg24 Tryd.sizeOf24 (Mem.own (us := [.slice _ _ _, .slice _ _ _, .int .i64 _]) 1 (by rfl) (by rfl)) (by rfl), by rfl, trivial⟩ HSub.nil ?_
        exact AddCV.bad (by unfold Cn.adE; rw [hokB, if_pos rfl, if_neg (by omega), c6]; rfl) (by decide)
      ·
        try simp only [Bool.not_eq_true', Bool.not_eq_false', decide_eq_true_eq, decide_eq_false_iff_not, ne_eq, Classical.not_not, Int.not_lt, Int.not_le] at c6
        refine W_skip ?_
        refine InB_normal ?_
        refine Then_normal ?_
        refine W_seq ?_
        refine W_region_lit (fun ds => ?_)
        refine WS_det hF (by rfl) (y_loadN (by rfl) Tryd.isAgg24 Tryd.sizeOf24 (Mem.own (us := [.slice _ _ _, .slice _ _ _, .int .i64 _]) 2 (by rfl) (by rfl)) (by rfl)) ?_
        refine WS_det hF (by rfl) (y_move (c := .int .i64 _) (by rfl)) ?_
        refine WS_gen hF (by rfl) (y_callL (by rfl) (by rfl) Tryd.call57 (fun w hw => cwith_any c a1 p1 a2 p2 n w hn hm (h1.st w hw) (h2.st w hw))) ?_
        rintro _ _ ⟨z1, q1, z2, q2, K1, K2, rfl, hr1, hr2, rfl⟩
        refine WS_back ?_
        refine WS_store hF (i := 1) (by rfl) (by rfl) Tryd.sizeOf24 (by rfl) (by rfl) (by rfl) (by first | decide | exact Nat.le_of_ble_eq_true rfl | simp) ?_
        refine WS_det hF (by rfl) (y_assign (c := .int .i64 _) (by rfl)) ?_
        refine WS_nil ?_
        refine Then_normal ?_
        refine W_ret ?_
        refine Fin_ret [_, .int .i64 _] (K1 ++ K2) Tryd.results21 ⟨lvN (by rfl) Tryd.isAgg24 Tryd.sizeOf24 (Mem.own (us := [.slice _ _ _, .slice _ _ _, .int .i64 _]) 1 (by rfl) (by rfl)) (by rfl), by rfl, trivial⟩ (HSub.sub sbA) ?_
        exact AddCV.ok (by unfold Cn.adE; rw [hokB, if_pos rfl, if_neg (by omega), c6]; rfl) ⟨_, _, _, _, K1, K2, rfl, hr1, hr2, rfl⟩
theorem raddC_any (c : Cn) (a1 : Option Addr) (p1 : Nat) (a2 : Option Addr) (p2 : Nat) (n : Int) (w : World) (hn : c.n ≤ 1000000) (hm : c.inn.length ≤ 1000000) (h1 : Ints w a1 c.n p1 c.sz) (h2 : Ints w a2 c.inn.length p2 c.inn) : Ct Tryd.prog 22 #[.agg #[.slice a1 c.n p1, .slice a2 c.inn.length p2, .int .i64 c.st], .int .i64 n] w (AddCV c n) := by
  have hF := wide_wide
  refine Ct_start (args := [_, _]) Tryd.func22 (by rfl) Tryd.ntmps22 (by rfl) ?_
  refine W_seq ?_
  refine W_region_lit (fun ds => ?_)
  refine WS_new hF (by rfl) (y_box (by rfl)) (fun b1 => ?_)
  refine WS_new hF (by rfl) (y_alloc Tryd.zeroValue24 (by rfl)) (fun b4 => ?_)
  refine WS_det hF (by rfl) (y_assign (c := .int .i64 _) (by rfl)) ?_
  refine WS_nil ?_
  refine Then_normal ?_
  refine W_seq ?_
  refine W_seq ?_
  refine W_region_lit (fun ds => ?_)
  refine WS_det hF (by rfl) (y_loadN (by rfl) Tryd.isAgg24 Tryd.sizeOf24 (Mem.own (us := [.slice _ _ _, .slice _ _ _, .int .i64 _]) 1 (by rfl) (by rfl)) (by rfl)) ?_
  refine WS_det hF (by rfl) (y_callL (by rfl) (by rfl) Tryd.call52 (fun w hw => rcans_any c a1 p1 a2 p2 w hn hm (h1.st w hw) (h2.st w hw))) ?_
  refine WS_det hF (by rfl) (y_not (by rfl)) ?_
  refine WS_nil ?_
  refine Then_normal ?_
  refine W_cond (by rfl) (fun c1 => ?_) (fun c1 => ?_)
  ·
    try simp only [Bool.not_eq_true', Bool.not_eq_false', decide_eq_true_eq, decide_eq_false_iff_not, ne_eq, Classical.not_not, Int.not_lt, Int.not_le] at c1
    refine W_seq ?_
    refine W_region_lit (fun ds => ?_)
    refine WS_det hF (by rfl) (y_buildL bd24 (by rfl)) ?_
    refine WS_store hF (i := 0) (by rfl) (by rfl) Tryd.sizeOf24 (by rfl) (by rfl) (by rfl) (by first | decide | exact Nat.le_of_ble_eq_true rfl | simp) ?_
    refine WS_det hF (by rfl) (y_assign (c := .int .i64 _) (by rfl)) ?_
    refine WS_nil ?_
    refine Then_normal ?_
    refine W_ret ?_
    refine Then_ret ?_
    refine Fin_ret [_, .int .i64 _] [] Tryd.results22 ⟨lvN (by rfl) Tryd.isAgg24 Tryd.sizeOf24 (Mem.own (us := [.slice _ _ _, .slice _ _ _, .int .i64 _]) 0 (by rfl) (by rfl)) (by rfl), by rfl, trivial⟩ HSub.nil ?_
    exact AddCV.bad (by unfold Cn.adE; rw [c1]; rfl) (by decide)
  ·
    try simp only [Bool.not_eq_true', Bool.not_eq_false', decide_eq_true_eq, decide_eq_false_iff_not, ne_eq, Classical.not_not, Int.not_lt, Int.not_le] at c1
    refine W_skip ?_
    refine Then_normal ?_
    refine W_seq ?_
    refine W_seq ?_
    refine W_region_lit (fun ds => ?_)
    refine WS_det hF (by rfl) (y_fieldAddr (by rfl) fa24_0) ?_
    refine WS_det hF (by rfl) (y_load1 (by rfl) Tryd.isAgg22 (Mem.own1 1 (by rfl) (by rfl))) ?_
    refine WS_det hF (by rfl) (y_len (by rfl) Tryd.runUnderlying22) ?_
    refine WS_det hF (by rfl) (y_eql (by rfl) (by rfl)) ?_
    refine WS_nil ?_
    refine Then_normal ?_
    refine W_cond (by rfl) (fun c3 => ?_) (fun c3 => ?_)
    ·
      try simp only [Bool.not_eq_true', Bool.not_eq_false', decide_eq_true_eq, decide_eq_false_iff_not, ne_eq, Classical.not_not, Int.not_lt, Int.not_le] at c3
      refine W_seq ?_
      refine W_region_lit (fun ds => ?_)
      refine WS_det hF (by rfl) (y_buildL bd24 (by rfl)) ?_
      refine WS_store hF (i := 0) (by rfl) (by rfl) Tryd.sizeOf24 (by rfl) (by rfl) (by rfl) (by first | decide | exact Nat.le_of_ble_eq_true rfl | simp) ?_
      refine WS_det hF (by rfl) (y_assign (c := .int .i64 _) (by rfl)) ?_
      refine WS_nil ?_
      refine Then_normal ?_
      refine W_ret ?_
      refine Then_ret ?_
      refine Fin_ret [_, .int .i64 _] [] Tryd.results22 ⟨lvN (by rfl) Tryd.isAgg24 Tryd.sizeOf24 (Mem.own (us := [.slice _ _ _, .slice _ _ _, .int .i64 _]) 0 (by rfl) (by rfl)) (by rfl), by rfl, trivial⟩ HSub.nil ?_
      exact AddCV.bad (by unfold Cn.adE; rw [c1, if_pos rfl, if_pos (by omega)]) (by decide)
    ·
      try simp only [Bool.not_eq_true', Bool.not_eq_false', decide_eq_true_eq, decide_eq_false_iff_not, ne_eq, Classical.not_not, Int.not_lt, Int.not_le] at c3
      refine W_skip ?_
      refine Then_normal ?_
      refine W_seq ?_
      refine W_seq ?_
      refine W_region_lit (fun ds => ?_)
      refine WS_det hF (by rfl) (y_move (c := .int .i64 _) (by rfl)) ?_
      refine WS_det hF (by rfl) (y_callL (by rfl) (by rfl) Tryd.call65 (fun w hw => rwi_any _ _ _ w)) ?_
      refine WS_det hF (by rfl) (y_not (by rfl)) ?_
      refine WS_nil ?_
      refine Then_normal ?_
      refine W_cond (by rfl) (fun c5 => ?_) (fun c5 => ?_)
      ·
        try simp only [Bool.not_eq_true', Bool.not_eq_false', decide_eq_true_eq, decide_eq_false_iff_not, ne_eq, Classical.not_not, Int.not_lt, Int.not_le] at c5
        refine W_seq ?_
        refine W_region_lit (fun ds => ?_)
        refine WS_det hF (by rfl) (y_buildL bd24 (by rfl)) ?_
        refine WS_store hF (i := 0) (by rfl) (by rfl) Tryd.sizeOf24 (by rfl) (by rfl) (by rfl) (by first | decide | exact Nat.le_of_ble_eq_true rfl | simp) ?_
        refine WS_det hF (by rfl) (y_assign (c := .int .i64 _) (by rfl)) ?_
        refine WS_nil ?_
        refine Then_normal ?_
        refine W_ret ?_
        refine Then_ret ?_
        refine Fin_ret [_, .int .i64 _] [] Tryd.results22 ⟨lvN (by rfl) Tryd.isAgg24 Tryd.sizeOf24 (Mem.own (us := [.slice _ _ _, .slice _ _ _, .int .i64 _]) 0 (by rfl) (by rfl)) (by rfl), by rfl, trivial⟩ HSub.nil ?_
        exact AddCV.bad (by unfold Cn.adE; rw [c1, if_pos rfl, if_neg (by omega), c5]; rfl) (by decide)
      ·
        try simp only [Bool.not_eq_true', Bool.not_eq_false', decide_eq_true_eq, decide_eq_false_iff_not, ne_eq, Classical.not_not, Int.not_lt, Int.not_le] at c5
        refine W_skip ?_
        refine Then_normal ?_
        refine W_seq ?_
        refine W_region_lit (fun ds => ?_)
        refine WS_det hF (by rfl) (y_loadN (by rfl) Tryd.isAgg24 Tryd.sizeOf24 (Mem.own (us := [.slice _ _ _, .slice _ _ _, .int .i64 _]) 1 (by rfl) (by rfl)) (by rfl)) ?_
        refine WS_det hF (by rfl) (y_move (c := .int .i64 _) (by rfl)) ?_
        refine WS_gen hF (by rfl) (y_callL (by rfl) (by rfl) Tryd.call68 (fun w hw => rwithC_any c a1 p1 a2 p2 n w hn hm (h1.st w hw) (h2.st w hw))) ?_
        rintro _ _ ⟨z1, q1, z2, q2, K1, K2, rfl, hr1, hr2, rfl⟩
        refine WS_back ?_
        refine WS_store hF (i := 0) (by rfl) (by rfl) Tryd.sizeOf24 (by rfl) (by rfl) (by rfl) (by first | decide | exact Nat.le_of_ble_eq_true rfl | simp) ?_
        refine WS_det hF (by rfl) (y_assign (c := .int .i64 _) (by rfl)) ?_
        refine WS_nil ?_
        refine Then_normal ?_
        refine W_ret ?_
        refine Fin_ret [_, .int .i64 _] (K1 ++ K2) Tryd.results22 ⟨lvN (by rfl) Tryd.isAgg24 Tryd.sizeOf24 (Mem.own (us := [.slice _ _ _, .slice _ _ _, .int .i64 _]) 0 (by rfl) (by rfl)) (by rfl), by rfl, trivial⟩ (HSub.sub sbA) ?_
        exact AddCV.ok (by unfold Cn.adE; rw [c1, if_pos rfl, if_neg (by omega), c5]; rfl) ⟨_, _, _, _, K1, K2, rfl, hr1, hr2, rfl⟩
theorem Cn.Ok.more {c : Cn} (h : c.Ok) (h3 : c.n ≠ 3) {n : Int} (hn : 1 ≤ n ∧ n ≤ 20) : (c.more n).Ok := by
  have h1 := h.n1
  have h2 := h.n3
  have hs : c.sz.length = c.n := rfl
  have hl := h.len
  refine ⟨by rw [c.more_n]; omega, by rw [c.more_n]; omega, by rw [c.more_m, c.more_n, h.len], h.st0, h.st1, fun k hk => ?_, fun k hk => ?_⟩
  · rw [c.more_n] at hk
    unfold Cn.s Cn.more
    by_cases hkn : k < c.n
    · rw [List.getD_eq_getElem?_getD, List.getElem?_append_left (by omega), ← List.getD_eq_getElem?_getD]
      exact h.s k hkn
    · obtain rfl : k = c.sz.length := by omega
      simp [List.getD_eq_getElem?_getD]
      exact hn
  · rw [c.more_n] at hk
    unfold Cn.s Cn.i Cn.more
    by_cases hkn : k < c.n
    · rw [List.getD_eq_getElem?_getD, List.getElem?_append_left (by omega), ← List.getD_eq_getElem?_getD, List.getD_eq_getElem?_getD (l := c.sz ++ [n]), List.getElem?_append_left (by omega), ← List.getD_eq_getElem?_getD]
      exact h.i k hkn
    · obtain rfl : k = c.sz.length := by omega
      rw [List.getD_eq_getElem?_getD, List.getD_eq_getElem?_getD, show c.sz.length = c.inn.length by omega]
      rw [show c.inn.length = c.sz.length by omega]
      simp [show c.inn.length = c.sz.length by omega]
      omega
/-- A can more, and how many pourings are needed then. -/
structure Hp where
  s : Int
  m : Int
deriving DecidableEq
def Hp.cells (x : Hp) : List Value := [.int .i64 x.s, .int .i64 x.m]
def Hp.z : Hp := ⟨0, 0⟩
theorem hp_len : ∀ x, (Hp.cells x).length = 2 := fun _ => rfl
abbrev Hps (w : World) (a : Option Addr) (n cap : Nat) (xs : List Hp) : Prop := Rws Hp.cells 2 Hp.z w a n cap xs
def hRow (xs : List Hp) : List Value := rowOf Hp.cells (fun k => xs.getD k Hp.z) xs.length
theorem hRow_snoc (xs : List Hp) (y : Hp) : hRow (xs ++ [y]) = hRow xs ++ y.cells := by
  unfold hRow
  rw [List.length_append, List.length_singleton, rowOf_succ]
  congr 1
  · exact rowOf_congr _ fun k hk => by simp [List.getD_eq_getElem?_getD, List.getElem?_append_left hk]
  · simp [List.getD_eq_getElem?_getD]
def ordH (a b : Hp) : Int := orL [cmpI a.m b.m, cmpI a.s b.s]
def minH : List Hp → Hp
  | [] => Hp.z
  | x :: l => l.foldl (fun b y => if ordH y b < 0 then y else b) x
theorem minH_snoc {l : List Hp} (x : Hp) (h : l ≠ []) : minH (l ++ [x]) = if ordH x (minH l) < 0 then x else minH l := by
  cases l with
  | nil => exact absurd rfl h
  | cons y l =>
    show List.foldl _ y (l ++ [x]) = _
    rw [List.foldl_append]
    rfl
theorem ordH_any (p q : Hp) (w : World) : Ct Tryd.prog 62 #[.agg p.cells.toArray, .agg q.cells.toArray] w fun v _ => v = .int .i64 (ordH p q) := by
  have hF := wide_wide
  refine Ct_start (args := [_, _]) Tryd.func62 (by rfl) Tryd.ntmps62 (by rfl) ?_
  refine W_seq ?_
  refine W_region_lit (fun ds => ?_)
  refine WS_new hF (by rfl) (y_box (by rfl)) (fun b1 => ?_)
  refine WS_new hF (by rfl) (y_box (by rfl)) (fun b2 => ?_)
  refine WS_det hF (by rfl) (y_assign (c := .int .i64 _) (by rfl)) ?_
  refine WS_nil ?_
  refine Then_normal ?_
  refine W_seq ?_
  refine W_draw0 hF Trydmixed [] (by decide +kernel) (fun ds => ?_)
  refine P_det (by rfl) (Over_nil (y_fieldAddr (by rfl) fa121_1)) ?_
  refine P_det (by rfl) (Over_nil (y_load1 (by rfl) Tryd.isAgg3 (Mem.own1 1 (by rfl) (by rfl)))) ?_
  refine P_det (by rfl) (Over_nil (y_fieldAddr (by rfl) fa121_1)) ?_
  refine P_det (by rfl) (Over_nil (y_load1 (by rfl) Tryd.isAgg3 (Mem.own1 0 (by rfl) (by rfl)))) ?_
  refine P_det (by rfl) (Over_nil (y_callL (by rfl) (by rfl) Tryd.call64 (fun w hw => compare_any p.m q.m w))) ?_
  refine P_det (by rfl) (Over_nil (y_fieldAddr (by rfl) fa121_0)) ?_
  refine P_det (by rfl) (Over_nil (y_load1 (by rfl) Tryd.isAgg3 (Mem.own1 1 (by rfl) (by rfl)))) ?_
  refine P_det (by rfl) (Over_nil (y_fieldAddr (by rfl) fa121_0)) ?_
  refine P_det (by rfl) (Over_nil (y_load1 (by rfl) Tryd.isAgg3 (Mem.own1 0 (by rfl) (by rfl)))) ?_
  refine P_det (by rfl) (Over_nil (y_callL (by rfl) (by rfl) Tryd.call64 (fun w hw => compare_any p.s q.s w))) ?_
  refine P_new (by rfl) (by rfl) (Over_nil (y_buildSliceL bs22_2_0_1 (by rfl))) ?_
  refine P_det (by rfl) (Over_in (by rfl) (Over_nil (by rintro _ _ ⟨b4, rfl, rfl⟩; exact (y_callL (by rfl) (by rfl) Tryd.call63 (fun w hw => orL_any _ 2 2 [cmpI p.m q.m, cmpI p.s q.s] w (by decide) (Ints.two 0 (by rfl) w hw)))))) ?_
  refine P_det (by rfl) (Over_out (by rfl) (Over_nil (y_assign (c := .int .i64 _) (by rfl)))) ?_
  refine PW_end (by rfl) ?_
  refine OverAll_cons (fun w15 l15 => ?_)
  refine OverAll_nil ?_
  rintro ⟨-, h15⟩
  obtain ⟨b3, rfl, rfl⟩ := h15
  refine Then_normal ?_
  refine W_ret ?_
  refine Fin_ret [.int .i64 _] [] Tryd.results62 ⟨by rfl, trivial⟩ HSub.nil ?_
  rfl
theorem minH_any (a : Option Addr) (n cap : Nat) (xs : List Hp) (w : World) (hn0 : 0 < n) (hn : n ≤ 1000000) (hx : Hps w a n cap xs) :
    Ct Tryd.prog 104 #[.slice a n cap, .func (.func 62) #[] #[]] w fun v _ => v = .agg (minH xs).cells.toArray := by
  have hl := hx.len
  obtain ⟨b0, o0, rfl, hc0⟩ := hx.cell 0 hn0
  change At w b0 _ (xs.getD 0 Hp.z).cells at hc0
  have hF := wide_wide
  refine Ct_start (args := [_, _]) Tryd.func104 (by rfl) Tryd.ntmps104 (by rfl) ?_
  refine W_seq ?_
  refine W_region_lit (fun ds => ?_)
  refine WS_new hF (by rfl) (y_alloc Tryd.zeroValue121 (by rfl)) (fun b1 => ?_)
  refine WS_nil ?_
  refine Then_normal ?_
  refine W_seq ?_
  refine W_seq ?_
  refine W_region_lit (fun ds => ?_)
  refine WS_det hF (by rfl) (y_move (c := .slice _ _ _) (by rfl)) ?_
  refine WS_det hF (by rfl) (y_len (by rfl) Tryd.runUnderlying109) ?_
  refine WS_det hF (by rfl) (y_lss (by rfl) (by rfl)) ?_
  refine WS_nil ?_
  refine Then_normal ?_
  refine W_cond (by rfl) (fun c1 => ?_) (fun c1 => ?_)
  · (simp only [decide_eq_true_eq] at c1; omega)
  ·
    try simp only [Bool.not_eq_true', Bool.not_eq_false', decide_eq_true_eq, decide_eq_false_iff_not, ne_eq, Classical.not_not, Int.not_lt, Int.not_le] at c1
    refine W_skip ?_
    refine Then_normal ?_
    refine W_seq ?_
    refine W_region_lit (fun ds => ?_)
    refine WS_det hF (by rfl) (y_move (c := .slice _ _ _) (by rfl)) ?_
    refine WS_det hF (by rfl) (y_index (k := 0) (by rfl) (by rfl) (by first | rfl | omega) (by first | decide | omega) Tryd.runUnderlying109 Tryd.sizeOf121) ?_
    refine WS_det hF (by rfl) (y_loadN (by rfl) Tryd.isAgg121 Tryd.sizeOf121 (by first | exact Mem.old (by assumption) | exact Mem.oldAt (us := [.int .i64 _, .int .i64 _]) (by assumption) (by rfl) | exact Mem.oldAtL (us := [.int .i64 _, .int .i64 _]) (by assumption) (by rfl) (by rfl)) (by rfl)) ?_
    refine WS_new hF (by rfl) (y_alloc Tryd.zeroValue121 (by rfl)) (fun b2 => ?_)
    refine WS_store hF (i := 0) (by rfl) (by rfl) Tryd.sizeOf121 (by rfl) (by rfl) (by rfl) (by first | decide | exact Nat.le_of_ble_eq_true rfl | simp) ?_
    refine WS_nil ?_
    refine Then_normal ?_
    refine W_seq ?_
    refine W_seq ?_
    have hm0 : xs.getD 0 Hp.z = minH (xs.take 1) := by
      cases xs with
      | nil => simp at hl; omega
      | cons y l => rfl
    refine W_region_lit (fun ds => ?_)
    refine WS_det hF (by rfl) (y_assign (c := .int .i64 _) (by rfl)) ?_
    refine WS_nil ?_
    refine Then_normal ?_
    refine W_block ?_
    refine W_loop (γ := Nat × Hp) (fun q => 1 ≤ q.1 ∧ q.1 ≤ n ∧ q.2 = minH (xs.take q.1)) (fun q => [(0, .slice (some ⟨b0, o0, none⟩) n cap), (1, .func (.func 62) #[] #[]), (4, .pointer (some ⟨b1, 0, none⟩)), (5, .pointer (some ⟨b2, 0, none⟩)), (6, .int .i64 (q.1 : Int))]) (fun q => [(b2, CB q.2.cells 121), (b1, CB [.int .i64 0, .int .i64 0] 121)]) (fun q => n - q.1) ((1, xs.getD 0 Hp.z)) ⟨Nat.le_refl _, hn0, hm0⟩ (by repeat (first | exact trivial | refine ⟨by rfl, ?_⟩)) (sbA) ?_
    rintro ⟨k, x⟩ e ⟨hk1, hkn, (hmx : x = minH (xs.take k))⟩
    refine W_seq ?_
    refine W_seq ?_
    refine W_region_lit (fun ds => ?_)
    refine WS_det hF (by rfl) (y_move (c := .int .i64 _) (by rfl)) ?_
    refine WS_det hF (by rfl) (y_move (c := .slice _ _ _) (by rfl)) ?_
    refine WS_det hF (by rfl) (y_len (by rfl) Tryd.runUnderlying109) ?_
    refine WS_det hF (by rfl) (y_lss (by rfl) (by rfl)) ?_
    refine WS_nil ?_
    refine Then_normal ?_
    refine W_cond (by rfl) (fun c5 => ?_) (fun c5 => ?_)
    ·
      try simp only [Bool.not_eq_true', Bool.not_eq_false', decide_eq_true_eq, decide_eq_false_iff_not, ne_eq, Classical.not_not, Int.not_lt, Int.not_le] at c5
      have hck := hx.at (k := k) (by omega)
      have htk : minH (xs.take (k + 1)) = if ordH (xs.getD k Hp.z) (minH (xs.take k)) < 0 then xs.getD k Hp.z else minH (xs.take k) := by
        have hkl : k < xs.length := by omega
        rw [List.take_add_one, List.getElem?_eq_getElem hkl]
        simp only [Option.toList_some]
        rw [minH_snoc _ (by intro h; have := congrArg List.length h; simp only [List.length_take, List.length_nil] at this; omega)]
        simp [List.getD_eq_getElem?_getD, hkl]
      rw [← hmx] at htk
      refine W_skip ?_
      refine Then_normal ?_
      refine W_seq ?_
      refine W_block ?_
      refine W_seq ?_
      refine W_draw0 hF Trydmixed [] (by decide +kernel) (fun ds => ?_)
      refine P_det (by rfl) (Over_nil (y_move (c := _) (by rfl))) ?_
      refine P_det (by rfl) (Over_nil (y_move (c := .slice _ _ _) (by rfl))) ?_
      refine P_det (by rfl) (Over_nil (y_move (c := .int .i64 _) (by rfl))) ?_
      refine P_det (by rfl) (Over_nil (y_index (k := k) (by rfl) (by rfl) (by first | rfl | omega) (by first | decide | omega) Tryd.runUnderlying109 Tryd.sizeOf121)) ?_
      refine P_det (by rfl) (Over_nil (y_loadN (by rfl) Tryd.isAgg121 Tryd.sizeOf121 (by first | exact Mem.old (by assumption) | exact Mem.oldAt (us := [.int .i64 _, .int .i64 _]) (by assumption) (by rfl) | exact Mem.oldAtL (us := [.int .i64 _, .int .i64 _]) (by assumption) (by rfl) (by rfl)) (by rfl))) ?_
      refine P_det (by rfl) (Over_nil (y_loadN (by rfl) Tryd.isAgg121 Tryd.sizeOf121 (Mem.own (us := [.int .i64 _, .int .i64 _]) 0 (by rfl) (by rfl)) (by rfl))) ?_
      refine P_det (by rfl) (Over_nil (y_callL (first := []) (captured := []) (by rfl) (by rfl) Tryd.call62 (fun w hw => ordH_any (xs.getD k Hp.z) x w))) ?_
      refine P_det (by rfl) (Over_nil (y_lss (by rfl) (by rfl))) ?_
      refine PW_end (by rfl) ?_
      refine OverAll_nil ?_
      rintro -
      refine Then_normal ?_
      refine W_cond (by rfl) (fun c7 => ?_) (fun c7 => ?_)
      ·
        try simp only [Bool.not_eq_true', Bool.not_eq_false', decide_eq_true_eq, decide_eq_false_iff_not, ne_eq, Classical.not_not, Int.not_lt, Int.not_le] at c7
        have hm2 : xs.getD k Hp.z = minH (xs.take (k + 1)) := by rw [htk, if_pos c7]
        refine W_region_lit (fun ds => ?_)
        refine WS_det hF (by rfl) (y_move (c := .slice _ _ _) (by rfl)) ?_
        refine WS_det hF (by rfl) (y_move (c := .int .i64 _) (by rfl)) ?_
        refine WS_det hF (by rfl) (y_index (k := k) (by rfl) (by rfl) (by first | rfl | omega) (by first | decide | omega) Tryd.runUnderlying109 Tryd.sizeOf121) ?_
        refine WS_det hF (by rfl) (y_loadN (by rfl) Tryd.isAgg121 Tryd.sizeOf121 (by first | exact Mem.old (by assumption) | exact Mem.oldAt (us := [.int .i64 _, .int .i64 _]) (by assumption) (by rfl) | exact Mem.oldAtL (us := [.int .i64 _, .int .i64 _]) (by assumption) (by rfl) (by rfl)) (by rfl)) ?_
        refine WS_store hF (i := 0) (by rfl) (by rfl) Tryd.sizeOf121 (by rfl) (by rfl) (by rfl) (by first | decide | exact Nat.le_of_ble_eq_true rfl | simp) ?_
        refine WS_nil ?_
        refine InB_normal ?_
        refine Then_normal ?_
        refine W_region_lit (fun ds => ?_)
        refine WS_det hF (by rfl) (y_move (c := .int .i64 _) (by rfl)) ?_
        refine WS_det hF (by rfl) (y_add (by rfl) (by rfl) (by unfold I64; omega)) ?_
        refine WS_det hF (by rfl) (y_assign (c := .int .i64 _) (by rfl)) ?_
        refine WS_nil ?_
        exact Loop_next (k + 1, xs.getD k Hp.z) ⟨by omega, by simp only; omega, hm2⟩ (by repeat (first | exact trivial | refine ⟨by rfl, ?_⟩)) sbA (by simp only; omega)
      ·
        try simp only [Bool.not_eq_true', Bool.not_eq_false', decide_eq_true_eq, decide_eq_false_iff_not, ne_eq, Classical.not_not, Int.not_lt, Int.not_le] at c7
        have hm2 : x = minH (xs.take (k + 1)) := by rw [htk, if_neg (by omega)]
        refine W_skip ?_
        refine InB_normal ?_
        refine Then_normal ?_
        refine W_region_lit (fun ds => ?_)
        refine WS_det hF (by rfl) (y_move (c := .int .i64 _) (by rfl)) ?_
        refine WS_det hF (by rfl) (y_add (by rfl) (by rfl) (by unfold I64; omega)) ?_
        refine WS_det hF (by rfl) (y_assign (c := .int .i64 _) (by rfl)) ?_
        refine WS_nil ?_
        exact Loop_next (k + 1, x) ⟨by omega, by simp only; omega, hm2⟩ (by repeat (first | exact trivial | refine ⟨by rfl, ?_⟩)) sbA (by simp only; omega)
    ·
      try simp only [Bool.not_eq_true', Bool.not_eq_false', decide_eq_true_eq, decide_eq_false_iff_not, ne_eq, Classical.not_not, Int.not_lt, Int.not_le] at c5
      refine W_exit ?_
      refine Then_exit ?_
      refine Loop_exit ?_
      refine InB_same ?_
      refine Then_normal ?_
      refine W_seq ?_
      refine W_region_lit (fun ds => ?_)
      refine WS_det hF (by rfl) (y_loadN (by rfl) Tryd.isAgg121 Tryd.sizeOf121 (Mem.own (us := [.int .i64 _, .int .i64 _]) 0 (by rfl) (by rfl)) (by rfl)) ?_
      refine WS_store hF (i := 1) (by rfl) (by rfl) Tryd.sizeOf121 (by rfl) (by rfl) (by rfl) (by first | decide | exact Nat.le_of_ble_eq_true rfl | simp) ?_
      refine WS_nil ?_
      refine Then_normal ?_
      refine W_ret ?_
      refine Fin_ret [_] [] Tryd.results104 ⟨lvN (by rfl) Tryd.isAgg121 Tryd.sizeOf121 (Mem.own (us := [.int .i64 _, .int .i64 _]) 1 (by rfl) (by rfl)) (by rfl), trivial⟩ HSub.nil ?_
      obtain rfl : k = n := by omega
      rw [hmx, ← hl, List.take_length]
      rfl
theorem firstH_any (a : Option Addr) (n cap : Nat) (xs : List Hp) (w : World) (hn0 : 0 < n) (hn : n ≤ 1000000) (hx : Hps w a n cap xs) :
    Ct Tryd.prog 61 #[.slice a n cap, .func (.func 62) #[] #[]] w fun v _ => v = .agg (minH xs).cells.toArray := by
  have hF := wide_wide
  refine Ct_start (args := [_, _]) Tryd.func61 (by rfl) Tryd.ntmps61 (by rfl) ?_
  refine W_seq ?_
  refine W_region_lit (fun ds => ?_)
  refine WS_new hF (by rfl) (y_alloc Tryd.zeroValue121 (by rfl)) (fun b1 => ?_)
  refine WS_nil ?_
  refine Then_normal ?_
  refine W_seq ?_
  refine W_region_lit (fun ds => ?_)
  refine WS_det hF (by rfl) (y_move (c := .slice _ _ _) (by rfl)) ?_
  refine WS_det hF (by rfl) (y_move (c := _) (by rfl)) ?_
  refine WS_det hF (by rfl) (y_callL (by rfl) (by rfl) Tryd.call104 (fun w hw => minH_any a n cap xs w hn0 hn (hx.st w hw))) ?_
  refine WS_store hF (i := 0) (by rfl) (by rfl) Tryd.sizeOf121 (by rfl) (by rfl) (by rfl) (by first | decide | exact Nat.le_of_ble_eq_true rfl | simp) ?_
  refine WS_nil ?_
  refine Then_normal ?_
  refine W_ret ?_
  refine Fin_ret [_] [] Tryd.results61 ⟨lvN (by rfl) Tryd.isAgg121 Tryd.sizeOf121 (Mem.own (us := [.int .i64 _, .int .i64 _]) 0 (by rfl) (by rfl)) (by rfl), trivial⟩ HSub.nil ?_
  rfl
end Go.Proofs.YtjekjehgmljbgaaDoor.T

/- The can that would help most: the program's walk. -/
namespace Go.Proofs.YtjekjehgmljbgaaDoor.T
open Go.RowKit Go.Proofs Go.Eng
set_option maxRecDepth 100000
set_option maxHeartbeats 1000000
set_option linter.unusedVariables false
set_option linter.unusedSimpArgs false

theorem bd121_0_1 {x0 : Int} {x1 : Int} : ∀ w, (Instr.build 121 #[(0, .int .i64 x0), (1, .int .i64 x1)]).run Tryd.prog w = .ok (.agg #[.int .i64 x0, .int .i64 x1]) w := fun w => by kernel_rfl
theorem bs109_1_0 {x0_0 : Int} {x0_1 : Int} : ∀ w, (Instr.buildSlice 109 1 #[(0, .agg #[.int .i64 x0_0, .int .i64 x0_1])]).run Tryd.prog w = .ok (.slice (some ⟨w.heap.size, 0, none⟩) 1 1) (w.alloc (CB [.int .i64 x0_0, .int .i64 x0_1] 121)) := fun w => by kernel_rfl

noncomputable def Cn.hk (c : Cn) (n s : Int) : Option Wy := (c.more s).few ((c.more s).someP n)
noncomputable def Cn.hpL (c : Cn) (n : Int) : Nat → List Hp
  | 0 => []
  | k + 1 => if (k : Int) + 1 = n then c.hpL n k else match c.hk n ((k : Int) + 1) with
    | none => c.hpL n k
    | some w => c.hpL n k ++ [⟨(k : Int) + 1, (w.l.length : Int)⟩]
theorem Cn.hpL_skip {c : Cn} {n : Int} {k : Nat} (h : (k : Int) + 1 = n) : c.hpL n (k + 1) = c.hpL n k := by
  rw [Cn.hpL, if_pos h]
theorem Cn.hpL_none {c : Cn} {n : Int} {k : Nat} (h : c.hk n ((k : Int) + 1) = none) : c.hpL n (k + 1) = c.hpL n k := by
  rw [Cn.hpL, h]
  split <;> rfl
theorem Cn.hpL_some {c : Cn} {n : Int} {k : Nat} {w : Wy} (h0 : ¬ (k : Int) + 1 = n) (h : c.hk n ((k : Int) + 1) = some w) : c.hpL n (k + 1) = c.hpL n k ++ [⟨(k : Int) + 1, (w.l.length : Int)⟩] := by
  rw [Cn.hpL, if_neg h0, h]
theorem Cn.hpL_len (c : Cn) (n : Int) : ∀ k, (c.hpL n k).length ≤ k
  | 0 => Nat.le_refl _
  | k + 1 => by
    have ih := c.hpL_len n k
    unfold Cn.hpL
    split
    · omega
    · split
      · omega
      · rw [List.length_append, List.length_singleton]; omega
noncomputable def Cn.hpE (c : Cn) (n : Int) : Int := if c.okB then if inB 0 20 [n] then if c.n = 3 then 9 else if c.hpL n 20 = [] then 6 else 0 else 2 else 80
def HlpV (c : Cn) (n : Int) (v : Value) : Prop := v = .tuple #[.int .i64 (if c.hpE n = 0 then (minH (c.hpL n 20)).s else 0), .int .i64 (if c.hpE n = 0 then (minH (c.hpL n 20)).m else 0), .int .i64 (c.hpE n)]
theorem HlpV.bad {c : Cn} {n e : Int} (h : c.hpE n = e) (he : e ≠ 0) : HlpV c n (.tuple #[.int .i64 0, .int .i64 0, .int .i64 e]) := by
  subst h
  unfold HlpV
  rw [if_neg he, if_neg he]
theorem HlpV.ok {c : Cn} {n : Int} (h : c.hpE n = 0) : HlpV c n (.tuple #[.int .i64 (minH (c.hpL n 20)).s, .int .i64 (minH (c.hpL n 20)).m, .int .i64 0]) := by
  unfold HlpV
  rw [if_pos h, if_pos h, h]
theorem infHp : (Tryd.prog.info? 121).map (fun i => (i.zero, i.size, i.bytes)) = some (some (.agg #[.int .i64 0, .int .i64 0]), 2, 16) := by kernel_rfl
theorem help_any (c : Cn) (a1 : Option Addr) (p1 : Nat) (a2 : Option Addr) (p2 : Nat) (n : Int) (w : World) (hG : Gv w) (hn : c.n ≤ 1000000) (hm : c.inn.length ≤ 1000000) (h1 : Ints w a1 c.n p1 c.sz) (h2 : Ints w a2 c.inn.length p2 c.inn) : Ct Tryd.prog 19 #[.agg #[.slice a1 c.n p1, .slice a2 c.inn.length p2, .int .i64 c.st], .int .i64 n] w fun v _ => HlpV c n v := by
  have hF := wide_wide
  refine Ct_start (args := [_, _]) Tryd.func19 (by rfl) Tryd.ntmps19 (by rfl) ?_
  refine W_seq ?_
  refine W_region_lit (fun ds => ?_)
  refine WS_new hF (by rfl) (y_box (by rfl)) (fun b1 => ?_)
  refine WS_det hF (by rfl) (y_assign (c := .int .i64 _) (by rfl)) ?_
  refine WS_det hF (by rfl) (y_assign (c := .int .i64 _) (by rfl)) ?_
  refine WS_det hF (by rfl) (y_assign (c := .int .i64 _) (by rfl)) ?_
  refine WS_nil ?_
  refine Then_normal ?_
  refine W_seq ?_
  refine W_seq ?_
  refine W_region_lit (fun ds => ?_)
  refine WS_det hF (by rfl) (y_loadN (by rfl) Tryd.isAgg24 Tryd.sizeOf24 (Mem.own (us := [.slice _ _ _, .slice _ _ _, .int .i64 _]) 0 (by rfl) (by rfl)) (by rfl)) ?_
  refine WS_det hF (by rfl) (y_callL (by rfl) (by rfl) Tryd.call16 (fun w hw => ccheck_any c a1 p1 a2 p2 w (hG.st w hw) hn hm (h1.st w hw) (h2.st w hw))) ?_
  refine WS_det hF (by rfl) (y_assign (c := .int .i64 _) (by rfl)) ?_
  refine WS_nil ?_
  refine Then_normal ?_
  refine W_seq ?_
  refine W_region_lit (fun ds => ?_)
  refine WS_det hF (by rfl) (y_move (c := .int .i64 _) (by rfl)) ?_
  refine WS_det hF (by rfl) (y_neq (by rfl) (by rfl)) ?_
  refine WS_nil ?_
  refine Then_normal ?_
  refine W_cond (by rfl) (fun c2 => ?_) (fun c2 => ?_)
  ·
    try simp only [Bool.not_eq_true', Bool.not_eq_false', decide_eq_true_eq, decide_eq_false_iff_not, ne_eq, Classical.not_not, Int.not_lt, Int.not_le] at c2
    refine W_seq ?_
    refine W_region_lit (fun ds => ?_)
    refine WS_det hF (by rfl) (y_move (c := .int .i64 _) (by rfl)) ?_
    refine WS_det hF (by rfl) (y_assign (c := .int .i64 _) (by rfl)) ?_
    refine WS_det hF (by rfl) (y_assign (c := .int .i64 _) (by rfl)) ?_
    refine WS_det hF (by rfl) (y_assign (c := .int .i64 _) (by rfl)) ?_
    refine WS_nil ?_
    refine Then_normal ?_
    refine W_ret ?_
    refine Then_ret ?_
    refine Fin_ret [.int .i64 _, .int .i64 _, .int .i64 _] [] Tryd.results19 ⟨by rfl, by rfl, by rfl, trivial⟩ HSub.nil ?_
    obtain ⟨h3, h4⟩ := Cn.err_no c2
    rw [h4]
    exact HlpV.bad (by unfold Cn.hpE; rw [h3]; rfl) (by decide)
  ·
    try simp only [Bool.not_eq_true', Bool.not_eq_false', decide_eq_true_eq, decide_eq_false_iff_not, ne_eq, Classical.not_not, Int.not_lt, Int.not_le] at c2
    have hokB := Cn.err_iff.1 c2
    have hok := Cn.ok_iff.1 hokB
    refine W_skip ?_
    refine Then_normal ?_
    refine W_seq ?_
    refine W_block ?_
    refine W_seq ?_
    refine W_region_lit (fun ds => ?_)
    refine WS_det hF (by rfl) (y_move (c := .int .i64 _) (by rfl)) ?_
    refine WS_newS hF (by rfl) (y_buildSliceL bs22_1_0 (by rfl)) (fun b2 => ?_)
    refine WS_det hF (by rfl) (y_callL (by rfl) (by rfl) Tryd.call56 (fun w hw => cin_any _ _ _ _ _ _ w (by decide) (by first | exact Ints.one 0 rfl w hw | exact Ints.two 0 rfl w hw))) ?_
    refine WS_det hF (by rfl) (y_not (by rfl)) ?_
    refine WS_det hF (by rfl) (y_assign (c := .bool _) (by rfl)) ?_
    refine WS_nil ?_
    refine Then_normal ?_
    refine W_cond (by rfl) (fun c4 => ?_) (fun c4 => ?_)
    ·
      try simp only [Bool.not_eq_true', Bool.not_eq_false', decide_eq_true_eq, decide_eq_false_iff_not, ne_eq, Classical.not_not, Int.not_lt, Int.not_le] at c4
      refine W_seq ?_
      refine W_region_lit (fun ds => ?_)
      refine WS_det hF (by rfl) (y_assign (c := .int .i64 _) (by rfl)) ?_
      refine WS_det hF (by rfl) (y_assign (c := .int .i64 _) (by rfl)) ?_
      refine WS_det hF (by rfl) (y_assign (c := .int .i64 _) (by rfl)) ?_
      refine WS_nil ?_
      refine Then_normal ?_
      refine W_ret ?_
      refine InB_ret ?_
      refine Then_ret ?_
      refine Fin_ret [.int .i64 _, .int .i64 _, .int .i64 _] [] Tryd.results19 ⟨by rfl, by rfl, by rfl, trivial⟩ HSub.nil ?_
      exact HlpV.bad (by unfold Cn.hpE; rw [hokB, if_pos rfl, c4]; rfl) (by decide)
    ·
      try simp only [Bool.not_eq_true', Bool.not_eq_false', decide_eq_true_eq, decide_eq_false_iff_not, ne_eq, Classical.not_not, Int.not_lt, Int.not_le] at c4
      refine W_seq ?_
      refine W_region_lit (fun ds => ?_)
      refine WS_det hF (by rfl) (y_fieldAddr (by rfl) fa24_0) ?_
      refine WS_det hF (by rfl) (y_load1 (by rfl) Tryd.isAgg22 (Mem.own1 1 (by rfl) (by rfl))) ?_
      refine WS_det hF (by rfl) (y_len (by rfl) Tryd.runUnderlying22) ?_
      refine WS_det hF (by rfl) (y_eql (by rfl) (by rfl)) ?_
      refine WS_det hF (by rfl) (y_assign (c := .bool _) (by rfl)) ?_
      refine WS_nil ?_
      refine Then_normal ?_
      refine W_cond (by rfl) (fun c6 => ?_) (fun c6 => ?_)
      ·
        try simp only [Bool.not_eq_true', Bool.not_eq_false', decide_eq_true_eq, decide_eq_false_iff_not, ne_eq, Classical.not_not, Int.not_lt, Int.not_le] at c6
        refine W_seq ?_
        refine W_region_lit (fun ds => ?_)
        refine WS_det hF (by rfl) (y_assign (c := .int .i64 _) (by rfl)) ?_
        refine WS_det hF (by rfl) (y_assign (c := .int .i64 _) (by rfl)) ?_
        refine WS_det hF (by rfl) (y_assign (c := .int .i64 _) (by rfl)) ?_
        refine WS_nil ?_
        refine Then_normal ?_
        refine W_ret ?_
        refine InB_ret ?_
        refine Then_ret ?_
        refine Fin_ret [.int .i64 _, .int .i64 _, .int .i64 _] [] Tryd.results19 ⟨by rfl, by rfl, by rfl, trivial⟩ HSub.nil ?_
        exact HlpV.bad (by unfold Cn.hpE; rw [hokB, if_pos rfl, c4, if_pos rfl, if_pos (by omega)]) (by decide)
      ·
        try simp only [Bool.not_eq_true', Bool.not_eq_false', decide_eq_true_eq, decide_eq_false_iff_not, ne_eq, Classical.not_not, Int.not_lt, Int.not_le] at c6
        refine W_skip ?_
        refine InB_normal ?_
        refine Then_normal ?_
        refine W_seq ?_
        refine W_region_lit (fun ds => ?_)
        refine WS_det hF (by rfl) (y_assign (c := .slice _ _ _) (by rfl)) ?_
        refine WS_nil ?_
        refine Then_normal ?_
        refine W_seq ?_
        refine W_seq ?_
        refine W_region_lit (fun ds => ?_)
        refine WS_det hF (by rfl) (y_move (c := .int .i64 _) (by rfl)) ?_
        refine WS_nil ?_
        refine Then_normal ?_
        refine W_block ?_
        refine W_loop (γ := Nat × Option Addr × Nat × List Blk) (fun q => q.1 ≤ 20 ∧ NewRow 121 2 (c.hpL n q.1).length (hRow (c.hpL n q.1)) (.slice q.2.1 (c.hpL n q.1).length q.2.2.1) q.2.2.2) (fun q => [(1, .int .i64 n), (2, .pointer (some ⟨b1, 0, none⟩)), (8, .slice q.2.1 (c.hpL n q.1).length q.2.2.1), (29, .int .i64 (q.1 : Int))]) (fun q => (b1, CB [.slice a1 c.n p1, .slice a2 c.inn.length p2, .int .i64 c.st] 24) :: q.2.2.2) (fun q => 20 - q.1) ((0, none, 0, [])) ⟨Nat.zero_le _, ⟨none, 0, rfl, Nat.le_refl _, .inr ⟨rfl, rfl, rfl⟩⟩⟩ (by repeat (first | exact trivial | refine ⟨by rfl, ?_⟩)) (sbA) ?_
        rintro ⟨k, a, cap, Hr⟩ e ⟨(hk : k ≤ 20), (hrow : NewRow 121 2 (c.hpL n k).length (hRow (c.hpL n k)) (.slice a (c.hpL n k).length cap) Hr)⟩
        refine W_seq ?_
        refine W_region_lit (fun ds => ?_)
        refine WS_det hF (by rfl) (y_lss (by rfl) (by rfl)) ?_
        refine WS_nil ?_
        refine Then_normal ?_
        refine W_seq ?_
        refine W_cond (by rfl) (fun c10 => ?_) (fun c10 => ?_)
        ·
          try simp only [Bool.not_eq_true', Bool.not_eq_false', decide_eq_true_eq, decide_eq_false_iff_not, ne_eq, Classical.not_not, Int.not_lt, Int.not_le] at c10
          have hk20 : k < 20 := by omega
          have hll := c.hpL_len n k
          have h1n := hok.n1
          have h3n := hok.n3
          refine W_skip ?_
          refine Then_normal ?_
          refine W_seq ?_
          refine W_block ?_
          refine W_seq ?_
          refine W_region_lit (fun ds => ?_)
          refine WS_det hF (by rfl) (y_move (c := .int .i64 _) (by rfl)) ?_
          refine WS_det hF (by rfl) (y_assign (c := .int .i64 _) (by rfl)) ?_
          refine WS_nil ?_
          refine Then_normal ?_
          refine W_seq ?_
          refine W_seq ?_
          refine W_region_lit (fun ds => ?_)
          refine WS_det hF (by rfl) (y_move (c := .int .i64 _) (by rfl)) ?_
          refine WS_det hF (by rfl) (y_add (by rfl) (by rfl) (by unfold I64; omega)) ?_
          refine WS_det hF (by rfl) (y_move (c := .int .i64 _) (by rfl)) ?_
          refine WS_det hF (by rfl) (y_eql (by rfl) (by rfl)) ?_
          refine WS_nil ?_
          refine Then_normal ?_
          refine W_cond (by rfl) (fun c12 => ?_) (fun c12 => ?_)
          ·
            try simp only [Bool.not_eq_true', Bool.not_eq_false', decide_eq_true_eq, decide_eq_false_iff_not, ne_eq, Classical.not_not, Int.not_lt, Int.not_le] at c12
            have hL : c.hpL n (k + 1) = c.hpL n k := Cn.hpL_skip c12
            refine W_exit ?_
            refine Then_exit ?_
            refine InB_same ?_
            refine Then_normal ?_
            refine W_region_lit (fun ds => ?_)
            refine WS_det hF (by rfl) (y_add (by rfl) (by rfl) (by unfold I64; omega)) ?_
            refine WS_det hF (by rfl) (y_move (c := .int .i64 _) (by rfl)) ?_
            refine WS_nil ?_
            exact Loop_next (k + 1, a, cap, Hr) ⟨by omega, by simp only [hL]; exact hrow⟩ (by simp only [hL]; repeat (first | exact trivial | refine ⟨by rfl, ?_⟩)) sbA (by simp only; omega)
          ·
            try simp only [Bool.not_eq_true', Bool.not_eq_false', decide_eq_true_eq, decide_eq_false_iff_not, ne_eq, Classical.not_not, Int.not_lt, Int.not_le] at c12
            have hokm : (c.more ((k : Int) + 1)).Ok := hok.more (by omega) (by omega)
            have hnm : (c.more ((k : Int) + 1)).n ≤ 1000000 := by rw [c.more_n]; omega
            have hmm : (c.more ((k : Int) + 1)).inn.length ≤ 1000000 := by rw [c.more_m]; have := hok.len; omega
            refine W_skip ?_
            refine Then_normal ?_
            refine W_seq ?_
            refine W_region_lit (fun ds => ?_)
            refine WS_det hF (by rfl) (y_loadN (by rfl) Tryd.isAgg24 Tryd.sizeOf24 (Mem.own (us := [.slice _ _ _, .slice _ _ _, .int .i64 _]) 0 (by rfl) (by rfl)) (by rfl)) ?_
            refine WS_det hF (by rfl) (y_move (c := .int .i64 _) (by rfl)) ?_
            refine WS_det hF (by rfl) (y_add (by rfl) (by rfl) (by unfold I64; omega)) ?_
            refine WS_gen hF (by rfl) (y_callL (by rfl) (by rfl) Tryd.call57 (fun w hw => cwith_any c a1 p1 a2 p2 ((k : Int) + 1) w hn hm (h1.st w hw) (h2.st w hw))) ?_
            rintro _ _ ⟨z1, q1, z2, q2, K1, K2, rfl, hr1, hr2, rfl⟩
            refine WS_back ?_
            refine WS_det hF (by rfl) (y_buildL bd96_0 (by rfl)) ?_
            refine WS_new hF (by rfl) (y_alloc Tryd.zeroValue96 (by rfl)) (fun b10 => ?_)
            refine WS_store hF (i := 0) (by rfl) (by rfl) Tryd.sizeOf96 (by rfl) (by rfl) (by rfl) (by first | decide | exact Nat.le_of_ble_eq_true rfl | simp) ?_
            refine WS_nil ?_
            refine Then_normal ?_
            refine W_seq ?_
            refine W_tailH 11 Trydmixed (fun e2 H2 => ∃ (fx : Wl) (fb : Bool) (b11 : Nat), (fb = true → c.hk n ((k : Int) + 1) = some fx.w) ∧ (fb = false → c.hk n ((k : Int) + 1) = none) ∧ Slots e2 [(1, .int .i64 n), (2, .pointer (some ⟨b1, 0, none⟩)), (8, .slice a (c.hpL n k).length cap), (9, .int .i64 (k : Int)), (29, .int .i64 (k : Int)), (11, .pointer (some ⟨b11, 0, none⟩)), (49, .bool fb)] ∧ HSub H2 ((b11, CB fx.cells 112) :: (b1, CB [.slice a1 c.n p1, .slice a2 c.inn.length p2, .int .i64 c.st] 24) :: Hr)) (by decide +kernel) (fun ds e2 H2 hmid => ?_) (fun ds => ?_)
            ·
              obtain ⟨fx, fb, b11, hfy, hfn, hsl, hsb⟩ := hmid
              rw [← hsl.sets]
              refine WS_sub hsb ?_
              refine WS_det hF (by rfl) (y_assign (c := .bool _) (by rfl)) ?_
              refine WS_nil ?_
              refine Then_normal ?_
              refine W_seq ?_
              refine W_region_lit (fun ds => ?_)
              refine WS_det hF (by rfl) (y_move (c := .bool _) (by rfl)) ?_
              refine WS_nil ?_
              refine Then_normal ?_
              refine W_cond (by rfl) (fun c15 => ?_) (fun c15 => ?_)
              ·
                try simp only [Bool.not_eq_true', Bool.not_eq_false', decide_eq_true_eq, decide_eq_false_iff_not, ne_eq, Classical.not_not, Int.not_lt, Int.not_le] at c15
                have hL : c.hpL n (k + 1) = c.hpL n k ++ [⟨(k : Int) + 1, (fx.w.l.length : Int)⟩] := Cn.hpL_some c12 (hfy c15)
                refine W_region_lit (fun ds => ?_)
                refine WS_det hF (by rfl) (y_move (c := .slice _ _ _) (by rfl)) ?_
                refine WS_det hF (by rfl) (y_move (c := .int .i64 _) (by rfl)) ?_
                refine WS_det hF (by rfl) (y_add (by rfl) (by rfl) (by unfold I64; omega)) ?_
                refine WS_det hF (by rfl) (y_fieldAddr (by rfl) fa112_0) ?_
                refine WS_det hF (by rfl) (y_load1 (by rfl) Tryd.isAgg27 (Mem.own1 0 (by rfl) (by rfl))) ?_
                refine WS_det hF (by rfl) (y_len (by rfl) Tryd.runUnderlying27) ?_
                refine WS_det hF (by rfl) (y_buildL bd121_0_1 (by rfl)) ?_
                refine WS_newS hF (by rfl) (y_buildSliceL bs109_1_0 (by rfl)) (fun b3 => ?_)
                refine WS_appendN hF (H1 := (_ :: _ :: _ :: [])) (Hn := Hr) (news := Hp.cells ⟨(k : Int) + 1, (fx.w.l.length : Int)⟩) (by rfl) (by rfl) (by rfl) Tryd.underlying109 infHp (by rfl) (by rfl) hrow (rowOf_len hp_len _ _) (.inr ⟨_, _, rfl, Mem.own (us := [.int _ _, .int _ _]) 0 (by rfl) (by rfl)⟩) (by rfl) (by rfl) (by omega) (by omega) (by omega) ?_
                intro a3 cap3 H3 hr3
                have hrow3 : NewRow 121 2 (c.hpL n (k + 1)).length (hRow (c.hpL n (k + 1))) (.slice a3 (c.hpL n (k + 1)).length cap3) H3 := by rw [hL, hRow_snoc, List.length_append]; exact hr3
                refine WS_det hF (by rfl) (y_assign (c := .slice _ _ _) (by rfl)) ?_
                refine WS_nil ?_
                refine InB_normal ?_
                refine Then_normal ?_
                refine W_region_lit (fun ds => ?_)
                refine WS_det hF (by rfl) (y_add (by rfl) (by rfl) (by unfold I64; omega)) ?_
                refine WS_det hF (by rfl) (y_move (c := .int .i64 _) (by rfl)) ?_
                refine WS_nil ?_
                exact Loop_next (k + 1, a3, cap3, H3) ⟨by omega, hrow3⟩ (by simp only [hL, List.length_append, List.length_singleton]; repeat (first | exact trivial | refine ⟨by rfl, ?_⟩)) sbA (by simp only; omega)
              ·
                try simp only [Bool.not_eq_true', Bool.not_eq_false', decide_eq_true_eq, decide_eq_false_iff_not, ne_eq, Classical.not_not, Int.not_lt, Int.not_le] at c15
                have hL : c.hpL n (k + 1) = c.hpL n k := Cn.hpL_none (hfn c15)
                refine W_skip ?_
                refine InB_normal ?_
                refine Then_normal ?_
                refine W_region_lit (fun ds => ?_)
                refine WS_det hF (by rfl) (y_add (by rfl) (by rfl) (by unfold I64; omega)) ?_
                refine WS_det hF (by rfl) (y_move (c := .int .i64 _) (by rfl)) ?_
                refine WS_nil ?_
                exact Loop_next (k + 1, a, cap, Hr) ⟨by omega, by simp only [hL]; exact hrow⟩ (by simp only [hL]; repeat (first | exact trivial | refine ⟨by rfl, ?_⟩)) sbA (by simp only; omega)
            ·
              refine WH_take 0 (by decide +kernel) (by rfl) (by decide +kernel) (by decide +kernel) (by rfl) (ye_loadN (by rfl) Tryd.isAgg96 Tryd.sizeOf96 (Mem.own (us := [.slice _ _ _, .slice _ _ _, .int .i64 _]) 0 (by rfl) (by rfl)) (by rfl)) ?_
              refine WH_take 2 (by decide +kernel) (by rfl) (by decide +kernel) (by decide +kernel) (by rfl) (ye_loadN (by rfl) Tryd.isAgg96 Tryd.sizeOf96 (Mem.own (us := [.slice _ _ _, .slice _ _ _, .int .i64 _]) 0 (by rfl) (by rfl)) (by rfl)) ?_
              refine WH_take 3 (by decide +kernel) (by rfl) (by decide +kernel) (by decide +kernel) (by rfl) (ye_move (c := .int .i64 _) (by rfl)) ?_
              refine WH_step2 1 9 (by decide +kernel) (fun _ h => St.sub h sbA) (by rfl) (by rfl) ?_ ?_
              ·
                refine WS_gen hF (by rfl) (y_callL (by rfl) (by rfl) Tryd.call59 (fun w hw => ways_any (c.more ((k : Int) + 1)) z1 q1 z2 q2 w hokm hnm hmm (NewRow.ints hr1 rfl sbA w hw) (NewRow.ints hr2 rfl sbA w hw))) ?_
                rintro _ _ ⟨mk, lE, ck, HX, rfl, rfl, hg, hT⟩
                refine WS_nil ?_
                refine WH_step2 4 9 (by decide +kernel) (fun _ h => St.sub h sbA) (by rfl) (by rfl) ?_ ?_
                ·
                  refine WS_gen hF (by rfl) (y_callL (by rfl) (by rfl) Tryd.call60 (fun w hw => some_any (c.more ((k : Int) + 1)) z1 q1 z2 q2 n w)) ?_
                  rintro _ _ ⟨bb, bp, rfl, rfl⟩
                  refine WS_nil ?_
                  refine WH_step2 5 9 (by decide +kernel) (fun _ h => St.sub h sbA) (by rfl) (by rfl) ?_ ?_
                  ·
                    refine WS_pull (bp, _) (by repeat (first | exact Pul.base0 | exact Pul.base | apply Pul.cons | apply Pul.app)) ?_
                    refine WS_pull (bb, _) (by repeat (first | exact Pul.base0 | exact Pul.base | apply Pul.cons | apply Pul.app)) ?_
                    refine WS_pull (mk, _) (by repeat (first | exact Pul.base0 | exact Pul.base | apply Pul.cons | apply Pul.app)) ?_
                    refine WS_callS hF (by rfl) (by rfl) (by rfl) Tryd.call58 (fewest_cs _ _ _ mk ck lE (c.more ((k : Int) + 1)) _ 102 [] [_, _] ((c.more ((k : Int) + 1)).someP n) hg (hT.mono sbA) [(bb, CB [.slice z1 (c.more ((k : Int) + 1)).n q1, .slice z2 (c.more ((k : Int) + 1)).inn.length q2, .int .i64 (c.more ((k : Int) + 1)).st] 96), (bp, CB [.int .i64 n] 3)] ⟨Tryd.call102, fun x hx C H w' hC hs hw => some1_any (c.more ((k : Int) + 1)) z1 q1 z2 q2 x n bb bp w' hokm (Mem.own (us := [.slice z1 (c.more ((k : Int) + 1)).n q1, .slice z2 (c.more ((k : Int) + 1)).inn.length q2, .int .i64 (c.more ((k : Int) + 1)).st]) 0 (by rfl) (by rfl) w' (St.sub hw hs)) (Mem.own1 1 (by rfl) (by rfl) w' (St.sub hw hs))⟩ sbA hokm) ?_
                    rintro _ _ ⟨fx, fb, rfl, hfv, rfl⟩
                    have hfy : fb = true → c.hk n ((k : Int) + 1) = some fx.w := hfv.yes'
                    have hfn : fb = false → c.hk n ((k : Int) + 1) = none := fun h => (hfv.no' h).2
                    refine WS_nil ?_
                    refine WH_take 6 (by decide +kernel) (by rfl) (by decide +kernel) (by decide +kernel) (by rfl) (ye_move (c := .tuple _) (by rfl)) ?_
                    refine WH_take 7 (by decide +kernel) (by rfl) (by decide +kernel) (by decide +kernel) (by rfl) (ye_extract (c := .agg _) (by rfl) (by rfl)) ?_
                    refine WH_take 8 (by decide +kernel) (by rfl) (by decide +kernel) (by decide +kernel) (by rfl) (ye_extract (c := .bool _) (by rfl) (by rfl)) ?_
                    refine WH_step1 9 (by decide +kernel) (fun _ h => St.sub h sbA) (by rfl) ?_
                    ·
                      refine WS_new hF (by rfl) (y_alloc Tryd.zeroValue112 (by rfl)) (fun b11 => ?_)
                      refine WS_nil ?_
                      refine WH_step1 10 (by decide +kernel) (fun _ h => St.sub h sbA) (by rfl) ?_
                      ·
                        refine WS_pull (b11, _) (by repeat (first | exact Pul.base0 | exact Pul.base | apply Pul.cons | apply Pul.app)) ?_
                        refine WS_store hF (i := 0) (by rfl) (by rfl) Tryd.sizeOf112 (by rfl) (by rfl) (by rfl) (by first | decide | exact Nat.le_of_ble_eq_true rfl | simp) ?_
                        refine WS_nil ?_
                        refine WH_done (by decide +kernel) (fun _ h => St.sub h sbA) ?_
                        exact ⟨fx, fb, _, hfy, hfn, (by repeat (first | exact trivial | refine ⟨by rfl, ?_⟩ | refine ⟨congrArg (Value.int _) (by first | omega | (simp only; omega) | (push_cast; omega)), ?_⟩)), HSub.sub sbA⟩
                  ·
                    refine WS_new hF (by rfl) (y_alloc Tryd.zeroValue112 (by rfl)) (fun b11 => ?_)
                    refine WS_nil ?_
                    refine WH_step1 5 (by decide +kernel) (fun _ h => St.sub h sbA) (by rfl) ?_
                    ·
                      refine WS_pull (bp, _) (by repeat (first | exact Pul.base0 | exact Pul.base | apply Pul.cons | apply Pul.app)) ?_
                      refine WS_pull (bb, _) (by repeat (first | exact Pul.base0 | exact Pul.base | apply Pul.cons | apply Pul.app)) ?_
                      refine WS_pull (mk, _) (by repeat (first | exact Pul.base0 | exact Pul.base | apply Pul.cons | apply Pul.app)) ?_
                      refine WS_callS hF (by rfl) (by rfl) (by rfl) Tryd.call58 (fewest_cs _ _ _ mk ck lE (c.more ((k : Int) + 1)) _ 102 [] [_, _] ((c.more ((k : Int) + 1)).someP n) hg (hT.mono sbA) [(bb, CB [.slice z1 (c.more ((k : Int) + 1)).n q1, .slice z2 (c.more ((k : Int) + 1)).inn.length q2, .int .i64 (c.more ((k : Int) + 1)).st] 96), (bp, CB [.int .i64 n] 3)] ⟨Tryd.call102, fun x hx C H w' hC hs hw => some1_any (c.more ((k : Int) + 1)) z1 q1 z2 q2 x n bb bp w' hokm (Mem.own (us := [.slice z1 (c.more ((k : Int) + 1)).n q1, .slice z2 (c.more ((k : Int) + 1)).inn.length q2, .int .i64 (c.more ((k : Int) + 1)).st]) 0 (by rfl) (by rfl) w' (St.sub hw hs)) (Mem.own1 1 (by rfl) (by rfl) w' (St.sub hw hs))⟩ sbA hokm) ?_
                      rintro _ _ ⟨fx, fb, rfl, hfv, rfl⟩
                      have hfy : fb = true → c.hk n ((k : Int) + 1) = some fx.w := hfv.yes'
                      have hfn : fb = false → c.hk n ((k : Int) + 1) = none := fun h => (hfv.no' h).2
                      refine WS_nil ?_
                      refine WH_take 6 (by decide +kernel) (by rfl) (by decide +kernel) (by decide +kernel) (by rfl) (ye_move (c := .tuple _) (by rfl)) ?_
                      refine WH_take 7 (by decide +kernel) (by rfl) (by decide +kernel) (by decide +kernel) (by rfl) (ye_extract (c := .agg _) (by rfl) (by rfl)) ?_
                      refine WH_take 8 (by decide +kernel) (by rfl) (by decide +kernel) (by decide +kernel) (by rfl) (ye_extract (c := .bool _) (by rfl) (by rfl)) ?_
                      refine WH_step1 10 (by decide +kernel) (fun _ h => St.sub h sbA) (by rfl) ?_
                      ·
                        refine WS_pull (b11, _) (by repeat (first | exact Pul.base0 | exact Pul.base | apply Pul.cons | apply Pul.app)) ?_
                        refine WS_store hF (i := 0) (by rfl) (by rfl) Tryd.sizeOf112 (by rfl) (by rfl) (by rfl) (by first | decide | exact Nat.le_of_ble_eq_true rfl | simp) ?_
                        refine WS_nil ?_
                        refine WH_done (by decide +kernel) (fun _ h => St.sub h sbA) ?_
                        exact ⟨fx, fb, _, hfy, hfn, (by repeat (first | exact trivial | refine ⟨by rfl, ?_⟩ | refine ⟨congrArg (Value.int _) (by first | omega | (simp only; omega) | (push_cast; omega)), ?_⟩)), HSub.sub sbA⟩
                ·
                  refine WS_new hF (by rfl) (y_alloc Tryd.zeroValue112 (by rfl)) (fun b11 => ?_)
                  refine WS_nil ?_
                  refine WH_step1 4 (by decide +kernel) (fun _ h => St.sub h sbA) (by rfl) ?_
                  ·
                    refine WS_gen hF (by rfl) (y_callL (by rfl) (by rfl) Tryd.call60 (fun w hw => some_any (c.more ((k : Int) + 1)) z1 q1 z2 q2 n w)) ?_
                    rintro _ _ ⟨bb, bp, rfl, rfl⟩
                    refine WS_nil ?_
                    refine WH_step1 5 (by decide +kernel) (fun _ h => St.sub h sbA) (by rfl) ?_
                    ·
                      refine WS_pull (bp, _) (by repeat (first | exact Pul.base0 | exact Pul.base | apply Pul.cons | apply Pul.app)) ?_
                      refine WS_pull (bb, _) (by repeat (first | exact Pul.base0 | exact Pul.base | apply Pul.cons | apply Pul.app)) ?_
                      refine WS_pull (mk, _) (by repeat (first | exact Pul.base0 | exact Pul.base | apply Pul.cons | apply Pul.app)) ?_
                      refine WS_callS hF (by rfl) (by rfl) (by rfl) Tryd.call58 (fewest_cs _ _ _ mk ck lE (c.more ((k : Int) + 1)) _ 102 [] [_, _] ((c.more ((k : Int) + 1)).someP n) hg (hT.mono sbA) [(bb, CB [.slice z1 (c.more ((k : Int) + 1)).n q1, .slice z2 (c.more ((k : Int) + 1)).inn.length q2, .int .i64 (c.more ((k : Int) + 1)).st] 96), (bp, CB [.int .i64 n] 3)] ⟨Tryd.call102, fun x hx C H w' hC hs hw => some1_any (c.more ((k : Int) + 1)) z1 q1 z2 q2 x n bb bp w' hokm (Mem.own (us := [.slice z1 (c.more ((k : Int) + 1)).n q1, .slice z2 (c.more ((k : Int) + 1)).inn.length q2, .int .i64 (c.more ((k : Int) + 1)).st]) 0 (by rfl) (by rfl) w' (St.sub hw hs)) (Mem.own1 1 (by rfl) (by rfl) w' (St.sub hw hs))⟩ sbA hokm) ?_
                      rintro _ _ ⟨fx, fb, rfl, hfv, rfl⟩
                      have hfy : fb = true → c.hk n ((k : Int) + 1) = some fx.w := hfv.yes'
                      have hfn : fb = false → c.hk n ((k : Int) + 1) = none := fun h => (hfv.no' h).2
                      refine WS_nil ?_
                      refine WH_take 6 (by decide +kernel) (by rfl) (by decide +kernel) (by decide +kernel) (by rfl) (ye_move (c := .tuple _) (by rfl)) ?_
                      refine WH_take 7 (by decide +kernel) (by rfl) (by decide +kernel) (by decide +kernel) (by rfl) (ye_extract (c := .agg _) (by rfl) (by rfl)) ?_
                      refine WH_take 8 (by decide +kernel) (by rfl) (by decide +kernel) (by decide +kernel) (by rfl) (ye_extract (c := .bool _) (by rfl) (by rfl)) ?_
                      refine WH_step1 10 (by decide +kernel) (fun _ h => St.sub h sbA) (by rfl) ?_
                      ·
                        refine WS_pull (b11, _) (by repeat (first | exact Pul.base0 | exact Pul.base | apply Pul.cons | apply Pul.app)) ?_
                        refine WS_store hF (i := 0) (by rfl) (by rfl) Tryd.sizeOf112 (by rfl) (by rfl) (by rfl) (by first | decide | exact Nat.le_of_ble_eq_true rfl | simp) ?_
                        refine WS_nil ?_
                        refine WH_done (by decide +kernel) (fun _ h => St.sub h sbA) ?_
                        exact ⟨fx, fb, _, hfy, hfn, (by repeat (first | exact trivial | refine ⟨by rfl, ?_⟩ | refine ⟨congrArg (Value.int _) (by first | omega | (simp only; omega) | (push_cast; omega)), ?_⟩)), HSub.sub sbA⟩
              ·
                refine WS_new hF (by rfl) (y_alloc Tryd.zeroValue112 (by rfl)) (fun b11 => ?_)
                refine WS_nil ?_
                refine WH_step1 1 (by decide +kernel) (fun _ h => St.sub h sbA) (by rfl) ?_
                ·
                  refine WS_gen hF (by rfl) (y_callL (by rfl) (by rfl) Tryd.call59 (fun w hw => ways_any (c.more ((k : Int) + 1)) z1 q1 z2 q2 w hokm hnm hmm (NewRow.ints hr1 rfl sbA w hw) (NewRow.ints hr2 rfl sbA w hw))) ?_
                  rintro _ _ ⟨mk, lE, ck, HX, rfl, rfl, hg, hT⟩
                  refine WS_nil ?_
                  refine WH_step1 4 (by decide +kernel) (fun _ h => St.sub h sbA) (by rfl) ?_
                  ·
                    refine WS_gen hF (by rfl) (y_callL (by rfl) (by rfl) Tryd.call60 (fun w hw => some_any (c.more ((k : Int) + 1)) z1 q1 z2 q2 n w)) ?_
                    rintro _ _ ⟨bb, bp, rfl, rfl⟩
                    refine WS_nil ?_
                    refine WH_step1 5 (by decide +kernel) (fun _ h => St.sub h sbA) (by rfl) ?_
                    ·
                      refine WS_pull (bp, _) (by repeat (first | exact Pul.base0 | exact Pul.base | apply Pul.cons | apply Pul.app)) ?_
                      refine WS_pull (bb, _) (by repeat (first | exact Pul.base0 | exact Pul.base | apply Pul.cons | apply Pul.app)) ?_
                      refine WS_pull (mk, _) (by repeat (first | exact Pul.base0 | exact Pul.base | apply Pul.cons | apply Pul.app)) ?_
                      refine WS_callS hF (by rfl) (by rfl) (by rfl) Tryd.call58 (fewest_cs _ _ _ mk ck lE (c.more ((k : Int) + 1)) _ 102 [] [_, _] ((c.more ((k : Int) + 1)).someP n) hg (hT.mono sbA) [(bb, CB [.slice z1 (c.more ((k : Int) + 1)).n q1, .slice z2 (c.more ((k : Int) + 1)).inn.length q2, .int .i64 (c.more ((k : Int) + 1)).st] 96), (bp, CB [.int .i64 n] 3)] ⟨Tryd.call102, fun x hx C H w' hC hs hw => some1_any (c.more ((k : Int) + 1)) z1 q1 z2 q2 x n bb bp w' hokm (Mem.own (us := [.slice z1 (c.more ((k : Int) + 1)).n q1, .slice z2 (c.more ((k : Int) + 1)).inn.length q2, .int .i64 (c.more ((k : Int) + 1)).st]) 0 (by rfl) (by rfl) w' (St.sub hw hs)) (Mem.own1 1 (by rfl) (by rfl) w' (St.sub hw hs))⟩ sbA hokm) ?_
                      rintro _ _ ⟨fx, fb, rfl, hfv, rfl⟩
                      have hfy : fb = true → c.hk n ((k : Int) + 1) = some fx.w := hfv.yes'
                      have hfn : fb = false → c.hk n ((k : Int) + 1) = none := fun h => (hfv.no' h).2
                      refine WS_nil ?_
                      refine WH_take 6 (by decide +kernel) (by rfl) (by decide +kernel) (by decide +kernel) (by rfl) (ye_move (c := .tuple _) (by rfl)) ?_
                      refine WH_take 7 (by decide +kernel) (by rfl) (by decide +kernel) (by decide +kernel) (by rfl) (ye_extract (c := .agg _) (by rfl) (by rfl)) ?_
                      refine WH_take 8 (by decide +kernel) (by rfl) (by decide +kernel) (by decide +kernel) (by rfl) (ye_extract (c := .bool _) (by rfl) (by rfl)) ?_
                      refine WH_step1 10 (by decide +kernel) (fun _ h => St.sub h sbA) (by rfl) ?_
                      ·
                        refine WS_pull (b11, _) (by repeat (first | exact Pul.base0 | exact Pul.base | apply Pul.cons | apply Pul.app)) ?_
                        refine WS_store hF (i := 0) (by rfl) (by rfl) Tryd.sizeOf112 (by rfl) (by rfl) (by rfl) (by first | decide | exact Nat.le_of_ble_eq_true rfl | simp) ?_
                        refine WS_nil ?_
                        refine WH_done (by decide +kernel) (fun _ h => St.sub h sbA) ?_
                        exact ⟨fx, fb, _, hfy, hfn, (by repeat (first | exact trivial | refine ⟨by rfl, ?_⟩ | refine ⟨congrArg (Value.int _) (by first | omega | (simp only; omega) | (push_cast; omega)), ?_⟩)), HSub.sub sbA⟩
        ·
          try simp only [Bool.not_eq_true', Bool.not_eq_false', decide_eq_true_eq, decide_eq_false_iff_not, ne_eq, Classical.not_not, Int.not_lt, Int.not_le] at c10
          obtain rfl : k = 20 := by omega
          have hll := c.hpL_len n 20
          refine W_exit ?_
          refine Then_exit ?_
          refine Loop_exit ?_
          refine InB_same ?_
          refine Then_normal ?_
          refine W_seq ?_
          refine W_seq ?_
          refine W_region_lit (fun ds => ?_)
          refine WS_det hF (by rfl) (y_move (c := .slice _ _ _) (by rfl)) ?_
          refine WS_det hF (by rfl) (y_len (by rfl) Tryd.runUnderlying109) ?_
          refine WS_det hF (by rfl) (y_eql (by rfl) (by rfl)) ?_
          refine WS_nil ?_
          refine Then_normal ?_
          refine W_cond (by rfl) (fun c18 => ?_) (fun c18 => ?_)
          ·
            try simp only [Bool.not_eq_true', Bool.not_eq_false', decide_eq_true_eq, decide_eq_false_iff_not, ne_eq, Classical.not_not, Int.not_lt, Int.not_le] at c18
            refine W_seq ?_
            refine W_region_lit (fun ds => ?_)
            refine WS_det hF (by rfl) (y_assign (c := .int .i64 _) (by rfl)) ?_
            refine WS_det hF (by rfl) (y_assign (c := .int .i64 _) (by rfl)) ?_
            refine WS_det hF (by rfl) (y_assign (c := .int .i64 _) (by rfl)) ?_
            refine WS_nil ?_
            refine Then_normal ?_
            refine W_ret ?_
            refine Then_ret ?_
            refine Fin_ret [.int .i64 _, .int .i64 _, .int .i64 _] [] Tryd.results19 ⟨by rfl, by rfl, by rfl, trivial⟩ HSub.nil ?_
            have h0 : c.hpL n 20 = [] := List.eq_nil_of_length_eq_zero (by omega)
            exact HlpV.bad (by unfold Cn.hpE; rw [hokB, if_pos rfl, c4, if_pos rfl, if_neg (by omega), if_pos h0]) (by decide)
          ·
            try simp only [Bool.not_eq_true', Bool.not_eq_false', decide_eq_true_eq, decide_eq_false_iff_not, ne_eq, Classical.not_not, Int.not_lt, Int.not_le] at c18
            have h0 : c.hpL n 20 ≠ [] := fun h => by rw [h] at c18; exact c18 rfl
            refine W_skip ?_
            refine Then_normal ?_
            refine W_seq ?_
            refine W_region_lit (fun ds => ?_)
            refine WS_det hF (by rfl) (y_move (c := .slice _ _ _) (by rfl)) ?_
            refine WS_det hF (by rfl) (y_callL (by rfl) (by rfl) Tryd.call61 (fun w hw => firstH_any a (c.hpL n 20).length cap (c.hpL n 20) w (by have := List.length_pos_iff.2 h0; omega) (by omega) (NewRow.rws hp_len hrow rfl sbA w hw))) ?_
            refine WS_new hF (by rfl) (y_alloc Tryd.zeroValue121 (by rfl)) (fun b4 => ?_)
            refine WS_store hF (i := 0) (by rfl) (by rfl) Tryd.sizeOf121 (by rfl) (by rfl) (by rfl) (by first | decide | exact Nat.le_of_ble_eq_true rfl | simp) ?_
            refine WS_nil ?_
            refine Then_normal ?_
            refine W_seq ?_
            refine W_draw0 hF Trydmixed [] (by decide +kernel) (fun ds => ?_)
            refine P_det (by rfl) (Over_nil (y_fieldAddr (by rfl) fa121_0)) ?_
            refine P_det (by rfl) (Over_nil (y_load1 (by rfl) Tryd.isAgg3 (Mem.own1 0 (by rfl) (by rfl)))) ?_
            refine P_det (by rfl) (Over_nil (y_fieldAddr (by rfl) fa121_1)) ?_
            refine P_det (by rfl) (Over_nil (y_load1 (by rfl) Tryd.isAgg3 (Mem.own1 0 (by rfl) (by rfl)))) ?_
            refine P_det (by rfl) (Over_nil (y_assign (c := .int .i64 _) (by rfl))) ?_
            refine P_det (by rfl) (Over_nil (y_assign (c := .int .i64 _) (by rfl))) ?_
            refine P_det (by rfl) (Over_nil (y_assign (c := .int .i64 _) (by rfl))) ?_
            refine PW_end (by rfl) ?_
            refine OverAll_nil ?_
            rintro -
            refine Then_normal ?_
            refine W_ret ?_
            refine Fin_ret [.int .i64 _, .int .i64 _, .int .i64 _] [] Tryd.results19 ⟨by rfl, by rfl, by rfl, trivial⟩ HSub.nil ?_
            exact HlpV.ok (by unfold Cn.hpE; rw [hokB, if_pos rfl, c4, if_pos rfl, if_neg (by omega), if_neg h0])
end Go.Proofs.YtjekjehgmljbgaaDoor.T

/- The can that would help most: the reference's walk. -/
namespace Go.Proofs.YtjekjehgmljbgaaDoor.T
open Go.RowKit Go.Proofs Go.Eng
set_option maxRecDepth 100000
set_option maxHeartbeats 1000000
set_option linter.unusedVariables false
set_option linter.unusedSimpArgs false



def stH (b x : Hp) : Hp := if b.s = 0 ∨ x.m < b.m then x else b
def hpF (l : List Hp) : Hp := l.foldl stH Hp.z
theorem hpF_snoc (l : List Hp) (x : Hp) : hpF (l ++ [x]) = stH (hpF l) x := by
  unfold hpF
  rw [List.foldl_append]
  rfl
theorem ordH_lt {a b : Hp} : ordH a b < 0 ↔ a.m < b.m ∨ (a.m = b.m ∧ a.s < b.s) := by
  have h := (@cmpP_lt ⟨a.m, a.s⟩ ⟨b.m, b.s⟩).1
  rw [Po.lt_iff] at h
  exact h
theorem minH_mem : ∀ {l : List Hp}, l ≠ [] → minH l ∈ l
  | [], h => absurd rfl h
  | x :: l, _ => by
    show l.foldl _ x ∈ x :: l
    have : ∀ (l : List Hp) (x : Hp), l.foldl (fun b y => if ordH y b < 0 then y else b) x ∈ x :: l := by
      intro l
      induction l with
      | nil => intro x; exact List.mem_cons_self
      | cons y l ih =>
        intro x
        rw [List.foldl_cons]
        have h := ih (if ordH y x < 0 then y else x)
        rcases List.mem_cons.1 h with h | h
        · rw [h]
          split
          · exact List.mem_cons_of_mem _ List.mem_cons_self
          · exact List.mem_cons_self
        · exact List.mem_cons_of_mem _ (List.mem_cons_of_mem _ h)
    exact this l x
theorem Cn.hpF_eq (c : Cn) (n : Int) : ∀ k, hpF (c.hpL n k) = minH (c.hpL n k) ∧ ∀ x ∈ c.hpL n k, 0 < x.s ∧ x.s ≤ (k : Int)
  | 0 => ⟨rfl, fun x h => by cases h⟩
  | k + 1 => by
    obtain ⟨h1, h2⟩ := c.hpF_eq n k
    have hmono : ∀ x ∈ c.hpL n k, 0 < x.s ∧ x.s ≤ ((k + 1 : Nat) : Int) := fun x hx => by have := h2 x hx; omega
    by_cases h0 : (k : Int) + 1 = n
    · rw [Cn.hpL_skip h0]; exact ⟨h1, hmono⟩
    · cases hf : c.hk n ((k : Int) + 1) with
      | none => rw [Cn.hpL_none hf]; exact ⟨h1, hmono⟩
      | some w =>
        rw [Cn.hpL_some h0 hf]
        refine ⟨?_, fun x hx => ?_⟩
        · rw [hpF_snoc, h1]
          by_cases hl : c.hpL n k = []
          · rw [hl]; rfl
          · rw [minH_snoc _ hl]
            have hm := h2 _ (minH_mem hl)
            unfold stH
            by_cases hlt : (w.l.length : Int) < (minH (c.hpL n k)).m
            · rw [if_pos (.inr hlt), if_pos (ordH_lt.2 (.inl hlt))]
            · rw [if_neg (by rintro (h | h); omega; exact hlt h), if_neg (fun h => by rcases ordH_lt.1 h with h | ⟨_, h⟩; exact hlt h; simp only at h; omega)]
        · rcases List.mem_append.1 hx with hx | hx
          · exact hmono x hx
          · simp only [List.mem_singleton] at hx
            subst hx
            simp only
            omega
theorem Cn.hpF_s (c : Cn) (n : Int) (k : Nat) : (hpF (c.hpL n k)).s = 0 ↔ c.hpL n k = [] := by
  obtain ⟨h1, h2⟩ := c.hpF_eq n k
  rw [h1]
  constructor
  · intro h
    by_cases hl : c.hpL n k = []
    · exact hl
    · have := h2 _ (minH_mem hl); omega
  · intro h; rw [h]; rfl
theorem rhelp_any (c : Cn) (a1 : Option Addr) (p1 : Nat) (a2 : Option Addr) (p2 : Nat) (n : Int) (w : World) (hn : c.n ≤ 1000000) (hm : c.inn.length ≤ 1000000) (h1 : Ints w a1 c.n p1 c.sz) (h2 : Ints w a2 c.inn.length p2 c.inn) : Ct Tryd.prog 20 #[.agg #[.slice a1 c.n p1, .slice a2 c.inn.length p2, .int .i64 c.st], .int .i64 n] w fun v _ => HlpV c n v := by
  have hF := wide_wide
  refine Ct_start (args := [_, _]) Tryd.func20 (by rfl) Tryd.ntmps20 (by rfl) ?_
  refine W_seq ?_
  refine W_region_lit (fun ds => ?_)
  refine WS_new hF (by rfl) (y_box (by rfl)) (fun b1 => ?_)
  refine WS_det hF (by rfl) (y_assign (c := .int .i64 _) (by rfl)) ?_
  refine WS_det hF (by rfl) (y_assign (c := .int .i64 _) (by rfl)) ?_
  refine WS_det hF (by rfl) (y_assign (c := .int .i64 _) (by rfl)) ?_
  refine WS_nil ?_
  refine Then_normal ?_
  refine W_seq ?_
  refine W_seq ?_
  refine W_region_lit (fun ds => ?_)
  refine WS_det hF (by rfl) (y_loadN (by rfl) Tryd.isAgg24 Tryd.sizeOf24 (Mem.own (us := [.slice _ _ _, .slice _ _ _, .int .i64 _]) 0 (by rfl) (by rfl)) (by rfl)) ?_
  refine WS_det hF (by rfl) (y_callL (by rfl) (by rfl) Tryd.call52 (fun w hw => rcans_any c a1 p1 a2 p2 w hn hm (h1.st w hw) (h2.st w hw))) ?_
  refine WS_det hF (by rfl) (y_not (by rfl)) ?_
  refine WS_nil ?_
  refine Then_normal ?_
  refine W_cond (by rfl) (fun c1 => ?_) (fun c1 => ?_)
  ·
    try simp only [Bool.not_eq_true', Bool.not_eq_false', decide_eq_true_eq, decide_eq_false_iff_not, ne_eq, Classical.not_not, Int.not_lt, Int.not_le] at c1
    refine W_seq ?_
    refine W_region_lit (fun ds => ?_)
    refine WS_det hF (by rfl) (y_assign (c := .int .i64 _) (by rfl)) ?_
    refine WS_det hF (by rfl) (y_assign (c := .int .i64 _) (by rfl)) ?_
    refine WS_det hF (by rfl) (y_assign (c := .int .i64 _) (by rfl)) ?_
    refine WS_nil ?_
    refine Then_normal ?_
    refine W_ret ?_
    refine Then_ret ?_
    refine Fin_ret [.int .i64 _, .int .i64 _, .int .i64 _] [] Tryd.results20 ⟨by rfl, by rfl, by rfl, trivial⟩ HSub.nil ?_
    exact HlpV.bad (by unfold Cn.hpE; rw [c1]; rfl) (by decide)
  ·
    try simp only [Bool.not_eq_true', Bool.not_eq_false', decide_eq_true_eq, decide_eq_false_iff_not, ne_eq, Classical.not_not, Int.not_lt, Int.not_le] at c1
    have hok := Cn.ok_iff.1 c1
    refine W_skip ?_
    refine Then_normal ?_
    refine W_seq ?_
    refine W_seq ?_
    refine W_region_lit (fun ds => ?_)
    refine WS_det hF (by rfl) (y_move (c := .int .i64 _) (by rfl)) ?_
    refine WS_det hF (by rfl) (y_callL (by rfl) (by rfl) Tryd.call65 (fun w hw => rwi_any _ _ _ w)) ?_
    refine WS_det hF (by rfl) (y_not (by rfl)) ?_
    refine WS_nil ?_
    refine Then_normal ?_
    refine W_cond (by rfl) (fun c3 => ?_) (fun c3 => ?_)
    ·
      try simp only [Bool.not_eq_true', Bool.not_eq_false', decide_eq_true_eq, decide_eq_false_iff_not, ne_eq, Classical.not_not, Int.not_lt, Int.not_le] at c3
      refine W_seq ?_
      refine W_region_lit (fun ds => ?_)
      refine WS_det hF (by rfl) (y_assign (c := .int .i64 _) (by rfl)) ?_
      refine WS_det hF (by rfl) (y_assign (c := .int .i64 _) (by rfl)) ?_
      refine WS_det hF (by rfl) (y_assign (c := .int .i64 _) (by rfl)) ?_
      refine WS_nil ?_
      refine Then_normal ?_
      refine W_ret ?_
      refine Then_ret ?_
      refine Fin_ret [.int .i64 _, .int .i64 _, .int .i64 _] [] Tryd.results20 ⟨by rfl, by rfl, by rfl, trivial⟩ HSub.nil ?_
      exact HlpV.bad (by unfold Cn.hpE; rw [c1, if_pos rfl, c3]; rfl) (by decide)
    ·
      try simp only [Bool.not_eq_true', Bool.not_eq_false', decide_eq_true_eq, decide_eq_false_iff_not, ne_eq, Classical.not_not, Int.not_lt, Int.not_le] at c3
      have hn0 := inB1.1 c3
      refine W_skip ?_
      refine Then_normal ?_
      refine W_seq ?_
      refine W_seq ?_
      refine W_region_lit (fun ds => ?_)
      refine WS_det hF (by rfl) (y_fieldAddr (by rfl) fa24_0) ?_
      refine WS_det hF (by rfl) (y_load1 (by rfl) Tryd.isAgg22 (Mem.own1 0 (by rfl) (by rfl))) ?_
      refine WS_det hF (by rfl) (y_len (by rfl) Tryd.runUnderlying22) ?_
      refine WS_det hF (by rfl) (y_eql (by rfl) (by rfl)) ?_
      refine WS_nil ?_
      refine Then_normal ?_
      refine W_cond (by rfl) (fun c5 => ?_) (fun c5 => ?_)
      ·
        try simp only [Bool.not_eq_true', Bool.not_eq_false', decide_eq_true_eq, decide_eq_false_iff_not, ne_eq, Classical.not_not, Int.not_lt, Int.not_le] at c5
        refine W_seq ?_
        refine W_region_lit (fun ds => ?_)
        refine WS_det hF (by rfl) (y_assign (c := .int .i64 _) (by rfl)) ?_
        refine WS_det hF (by rfl) (y_assign (c := .int .i64 _) (by rfl)) ?_
        refine WS_det hF (by rfl) (y_assign (c := .int .i64 _) (by rfl)) ?_
        refine WS_nil ?_
        refine Then_normal ?_
        refine W_ret ?_
        refine Then_ret ?_
        refine Fin_ret [.int .i64 _, .int .i64 _, .int .i64 _] [] Tryd.results20 ⟨by rfl, by rfl, by rfl, trivial⟩ HSub.nil ?_
        exact HlpV.bad (by unfold Cn.hpE; rw [c1, if_pos rfl, c3, if_pos rfl, if_pos (by omega)]) (by decide)
      ·
        try simp only [Bool.not_eq_true', Bool.not_eq_false', decide_eq_true_eq, decide_eq_false_iff_not, ne_eq, Classical.not_not, Int.not_lt, Int.not_le] at c5
        refine W_skip ?_
        refine Then_normal ?_
        refine W_seq ?_
        refine W_region_lit (fun ds => ?_)
        refine WS_det hF (by rfl) (y_assign (c := .int .i64 _) (by rfl)) ?_
        refine WS_det hF (by rfl) (y_assign (c := .int .i64 _) (by rfl)) ?_
        refine WS_nil ?_
        refine Then_normal ?_
        refine W_seq ?_
        refine W_seq ?_
        refine W_region_lit (fun ds => ?_)
        refine WS_det hF (by rfl) (y_assign (c := .int .i64 _) (by rfl)) ?_
        refine WS_nil ?_
        refine Then_normal ?_
        refine W_block ?_
        refine W_loop (γ := Nat) (fun k => k ≤ 20) (fun k => [(1, .int .i64 n), (2, .pointer (some ⟨b1, 0, none⟩)), (7, .int .i64 (hpF (c.hpL n k)).s), (8, .int .i64 (hpF (c.hpL n k)).m), (9, .int .i64 ((k : Int) + 1))]) (fun _ => _) (fun k => 20 - k) (0) (Nat.zero_le _) (by repeat (first | exact trivial | refine ⟨by rfl, ?_⟩)) (List.Sublist.refl _) ?_
        intro k e hk
        refine W_seq ?_
        refine W_seq ?_
        refine W_region_lit (fun ds => ?_)
        refine WS_det hF (by rfl) (y_move (c := .int .i64 _) (by rfl)) ?_
        refine WS_det hF (by rfl) (y_leq (by rfl) (by rfl)) ?_
        refine WS_nil ?_
        refine Then_normal ?_
        refine W_cond (by rfl) (fun c9 => ?_) (fun c9 => ?_)
        ·
          try simp only [Bool.not_eq_true', Bool.not_eq_false', decide_eq_true_eq, decide_eq_false_iff_not, ne_eq, Classical.not_not, Int.not_lt, Int.not_le] at c9
          have hk20 : k < 20 := by omega
          have h1n := hok.n1
          have h3n := hok.n3
          refine W_skip ?_
          refine Then_normal ?_
          refine W_seq ?_
          refine W_block ?_
          refine W_seq ?_
          refine W_seq ?_
          refine W_region_lit (fun ds => ?_)
          refine WS_det hF (by rfl) (y_move (c := .int .i64 _) (by rfl)) ?_
          refine WS_det hF (by rfl) (y_move (c := .int .i64 _) (by rfl)) ?_
          refine WS_det hF (by rfl) (y_eql (by rfl) (by rfl)) ?_
          refine WS_nil ?_
          refine Then_normal ?_
          refine W_cond (by rfl) (fun c11 => ?_) (fun c11 => ?_)
          ·
            try simp only [Bool.not_eq_true', Bool.not_eq_false', decide_eq_true_eq, decide_eq_false_iff_not, ne_eq, Classical.not_not, Int.not_lt, Int.not_le] at c11
            have hF2 : hpF (c.hpL n (k + 1)) = hpF (c.hpL n k) := by rw [Cn.hpL_skip c11]
            refine W_exit ?_
            refine Then_exit ?_
            refine InB_same ?_
            refine Then_normal ?_
            refine W_region_lit (fun ds => ?_)
            refine WS_det hF (by rfl) (y_move (c := .int .i64 _) (by rfl)) ?_
            refine WS_det hF (by rfl) (y_add (by rfl) (by rfl) (by unfold I64; omega)) ?_
            refine WS_det hF (by rfl) (y_assign (c := .int .i64 _) (by rfl)) ?_
            refine WS_nil ?_
            exact Loop_next (k + 1) (by omega) (by rw [hF2]; repeat (first | exact trivial | refine ⟨by rfl, ?_⟩)) sbA (by omega)
          ·
            try simp only [Bool.not_eq_true', Bool.not_eq_false', decide_eq_true_eq, decide_eq_false_iff_not, ne_eq, Classical.not_not, Int.not_lt, Int.not_le] at c11
            have hokm : (c.more ((k : Int) + 1)).Ok := hok.more (by omega) (by omega)
            have hnm : (c.more ((k : Int) + 1)).n ≤ 1000000 := by rw [c.more_n]; omega
            have hmm : (c.more ((k : Int) + 1)).inn.length ≤ 1000000 := by rw [c.more_m]; have := hok.len; omega
            have hpp : (c.more ((k : Int) + 1)).few (Am.p (c.more ((k : Int) + 1)) ⟨n, -1, []⟩) = c.hk n ((k : Int) + 1) := few_congr fun x => by
              unfold Am.p
              rw [if_neg (show ¬ (0 : Int) ≤ -1 by decide), if_pos (show 0 ≤ n by omega)]
            refine W_skip ?_
            refine Then_normal ?_
            refine W_seq ?_
            refine W_region_lit (fun ds => ?_)
            refine WS_det hF (by rfl) (y_loadN (by rfl) Tryd.isAgg24 Tryd.sizeOf24 (Mem.own (us := [.slice _ _ _, .slice _ _ _, .int .i64 _]) 0 (by rfl) (by rfl)) (by rfl)) ?_
            refine WS_det hF (by rfl) (y_move (c := .int .i64 _) (by rfl)) ?_
            refine WS_gen hF (by rfl) (y_callL (by rfl) (by rfl) Tryd.call68 (fun w hw => rwithC_any c a1 p1 a2 p2 ((k : Int) + 1) w hn hm (h1.st w hw) (h2.st w hw))) ?_
            rintro _ _ ⟨z1, q1, z2, q2, K1, K2, rfl, hr1, hr2, rfl⟩
            refine WS_back ?_
            refine WS_gen hF (by rfl) (y_callL (by rfl) (by rfl) Tryd.call67 (fun w hw => reached_any (c.more ((k : Int) + 1)) z1 q1 z2 q2 w hokm hnm hmm (NewRow.ints hr1 rfl sbA w hw) (NewRow.ints hr2 rfl sbA w hw))) ?_
            rintro _ _ ⟨rs, bo, cap, junk, HX, rfl, rfl, hrc, hrd, hcap⟩
            refine WS_det hF (by rfl) (y_move (c := .int .i64 _) (by rfl)) ?_
            refine WS_det hF (by rfl) (y_buildL bd134_0_1 (by rfl)) ?_
            refine WS_gen hF (by rfl) (y_callL (by rfl) (by rfl) Tryd.call66 (fun w hw => rfewest_any (c.more ((k : Int) + 1)) rs (some ⟨bo, 0, none⟩) cap ⟨n, -1, []⟩ none 0 w hokm hrc (rRow_rws 0 (by rfl) hcap w hw) (fun r hr => ⟨(hrd r hr).i _ _ w sbA hw, (hrd r hr).p _ _ w sbA hw⟩) (Ints.nil w none 0) (Nat.zero_le _) (fun _ h => by have : n < 0 := h; omega))) ?_
            rintro _ HL ⟨fb, q, rfl, hfy, hfn⟩
            refine WS_back ?_
            refine WS_det hF (by rfl) (y_move (c := .tuple _) (by rfl)) ?_
            refine WS_det hF (by rfl) (y_extract (c := .agg _) (by rfl) (by rfl)) ?_
            refine WS_det hF (by rfl) (y_extract (c := .bool _) (by rfl) (by rfl)) ?_
            refine WS_new hF (by rfl) (y_alloc Tryd.zeroValue128 (by rfl)) (fun b10 => ?_)
            refine WS_store hF (i := 0) (by rfl) (by rfl) Tryd.sizeOf128 (by rfl) (by rfl) (by rfl) (by first | decide | exact Nat.le_of_ble_eq_true rfl | simp) ?_
            refine WS_det hF (by rfl) (y_assign (c := .bool _) (by rfl)) ?_
            refine WS_nil ?_
            refine Then_normal ?_
            refine W_seq ?_
            refine W_region_lit (fun ds => ?_)
            refine WS_det hF (by rfl) (y_move (c := .bool _) (by rfl)) ?_
            refine WS_det hF (by rfl) (y_move (c := .bool _) (by rfl)) ?_
            refine WS_split 40 (by rfl) (fun g13_1 => ?_) (fun g13_1 => ?_)
            ·
              try simp only [Bool.not_eq_true', Bool.not_eq_false', decide_eq_true_eq, decide_eq_false_iff_not, ne_eq, Classical.not_not, Int.not_lt, Int.not_le] at g13_1
              obtain ⟨r, hr, rfl, hy⟩ := hfy g13_1
              rw [hpp] at hy
              have hL := Cn.hpL_some c11 hy
              refine WS_det hF (by rfl) (y_move (c := .int .i64 _) (by rfl)) ?_
              refine WS_det hF (by rfl) (y_eql (by rfl) (by rfl)) ?_
              refine WS_det hF (by rfl) (y_move (c := .bool _) (by rfl)) ?_
              refine WS_split 43 (by rfl) (fun g13_4 => ?_) (fun g13_4 => ?_)
              ·
                try simp only [Bool.not_eq_true', Bool.not_eq_false', decide_eq_true_eq, decide_eq_false_iff_not, ne_eq, Classical.not_not, Int.not_lt, Int.not_le] at g13_4
                have hF2 : hpF (c.hpL n (k + 1)) = ⟨(k : Int) + 1, (r.w.l.length : Int)⟩ := by rw [hL, hpF_snoc]; exact if_pos (.inl g13_4)
                refine WS_no hF (by rfl) ?_
                refine WS_no hF (by rfl) ?_
                refine WS_no hF (by rfl) ?_
                refine WS_no hF (by rfl) ?_
                refine WS_no hF (by rfl) ?_
                refine WS_det hF (by rfl) (by first | exact y_pick_t (c := .bool _) (by rfl) (by rfl) | exact y_pick_f (c := .bool _) (by rfl) (by rfl)) ?_
                refine WS_det hF (by rfl) (by first | exact y_pick_t (c := .bool _) (by rfl) (by rfl) | exact y_pick_f (c := .bool _) (by rfl) (by rfl)) ?_
                refine WS_nil ?_
                refine Then_normal ?_
                refine W_cond (by rfl) (fun c13 => ?_) (fun c13 => ?_)
                ·
                  try simp only [Bool.not_eq_true', Bool.not_eq_false', decide_eq_true_eq, decide_eq_false_iff_not, ne_eq, Classical.not_not, Int.not_lt, Int.not_le] at c13
                  refine W_draw0 hF Trydmixed [] (by decide +kernel) (fun ds => ?_)
                  refine P_det (by rfl) (Over_nil (y_move (c := .int .i64 _) (by rfl))) ?_
                  refine P_det (by rfl) (Over_nil (y_fieldAddr (by rfl) fa128_1)) ?_
                  refine P_det (by rfl) (Over_nil (y_load1 (by rfl) Tryd.isAgg27 (Mem.own1 0 (by rfl) (by rfl)))) ?_
                  refine P_det (by rfl) (Over_nil (y_len (by rfl) Tryd.runUnderlying27)) ?_
                  refine P_det (by rfl) (Over_nil (y_assign (c := .int .i64 _) (by rfl))) ?_
                  refine P_det (by rfl) (Over_nil (y_assign (c := .int .i64 _) (by rfl))) ?_
                  refine PW_end (by rfl) ?_
                  refine OverAll_nil ?_
                  rintro -
                  refine InB_normal ?_
                  refine Then_normal ?_
                  refine W_region_lit (fun ds => ?_)
                  refine WS_det hF (by rfl) (y_move (c := .int .i64 _) (by rfl)) ?_
                  refine WS_det hF (by rfl) (y_add (by rfl) (by rfl) (by unfold I64; omega)) ?_
                  refine WS_det hF (by rfl) (y_assign (c := .int .i64 _) (by rfl)) ?_
                  refine WS_nil ?_
                  exact Loop_next (k + 1) (by omega) (by rw [hF2]; repeat (first | exact trivial | refine ⟨by rfl, ?_⟩)) sbA (by omega)
                · cases c13
              ·
                try simp only [Bool.not_eq_true', Bool.not_eq_false', decide_eq_true_eq, decide_eq_false_iff_not, ne_eq, Classical.not_not, Int.not_lt, Int.not_le] at g13_4
                refine WS_det hF (by rfl) (y_fieldAddr (by rfl) fa128_1) ?_
                refine WS_det hF (by rfl) (y_load1 (by rfl) Tryd.isAgg27 (Mem.own1 0 (by rfl) (by rfl))) ?_
                refine WS_det hF (by rfl) (y_len (by rfl) Tryd.runUnderlying27) ?_
                refine WS_det hF (by rfl) (y_move (c := .int .i64 _) (by rfl)) ?_
                refine WS_det hF (by rfl) (y_lss (by rfl) (by rfl)) ?_
                refine WS_det hF (by rfl) (by first | exact y_pick_t (c := .bool _) (by rfl) (by rfl) | exact y_pick_f (c := .bool _) (by rfl) (by rfl)) ?_
                refine WS_det hF (by rfl) (by first | exact y_pick_t (c := .bool _) (by rfl) (by rfl) | exact y_pick_f (c := .bool _) (by rfl) (by rfl)) ?_
                refine WS_nil ?_
                refine Then_normal ?_
                refine W_cond (by rfl) (fun c13 => ?_) (fun c13 => ?_)
                ·
                  try simp only [Bool.not_eq_true', Bool.not_eq_false', decide_eq_true_eq, decide_eq_false_iff_not, ne_eq, Classical.not_not, Int.not_lt, Int.not_le] at c13
                  have hF2 : hpF (c.hpL n (k + 1)) = ⟨(k : Int) + 1, (r.w.l.length : Int)⟩ := by rw [hL, hpF_snoc]; exact if_pos (.inr c13)
                  refine W_draw0 hF Trydmixed [] (by decide +kernel) (fun ds => ?_)
                  refine P_det (by rfl) (Over_nil (y_move (c := .int .i64 _) (by rfl))) ?_
                  refine P_det (by rfl) (Over_nil (y_fieldAddr (by rfl) fa128_1)) ?_
                  refine P_det (by rfl) (Over_nil (y_load1 (by rfl) Tryd.isAgg27 (Mem.own1 0 (by rfl) (by rfl)))) ?_
                  refine P_det (by rfl) (Over_nil (y_len (by rfl) Tryd.runUnderlying27)) ?_
                  refine P_det (by rfl) (Over_nil (y_assign (c := .int .i64 _) (by rfl))) ?_
                  refine P_det (by rfl) (Over_nil (y_assign (c := .int .i64 _) (by rfl))) ?_
                  refine PW_end (by rfl) ?_
                  refine OverAll_nil ?_
                  rintro -
                  refine InB_normal ?_
                  refine Then_normal ?_
                  refine W_region_lit (fun ds => ?_)
                  refine WS_det hF (by rfl) (y_move (c := .int .i64 _) (by rfl)) ?_
                  refine WS_det hF (by rfl) (y_add (by rfl) (by rfl) (by unfold I64; omega)) ?_
                  refine WS_det hF (by rfl) (y_assign (c := .int .i64 _) (by rfl)) ?_
                  refine WS_nil ?_
                  exact Loop_next (k + 1) (by omega) (by rw [hF2]; repeat (first | exact trivial | refine ⟨by rfl, ?_⟩)) sbA (by omega)
                ·
                  try simp only [Bool.not_eq_true', Bool.not_eq_false', decide_eq_true_eq, decide_eq_false_iff_not, ne_eq, Classical.not_not, Int.not_lt, Int.not_le] at c13
                  have hF2 : hpF (c.hpL n (k + 1)) = hpF (c.hpL n k) := by rw [hL, hpF_snoc]; exact if_neg (fun h => by rcases h with h | h; exact g13_4 h; exact absurd h (Int.not_lt.2 c13))
                  refine W_skip ?_
                  refine InB_normal ?_
                  refine Then_normal ?_
                  refine W_region_lit (fun ds => ?_)
                  refine WS_det hF (by rfl) (y_move (c := .int .i64 _) (by rfl)) ?_
                  refine WS_det hF (by rfl) (y_add (by rfl) (by rfl) (by unfold I64; omega)) ?_
                  refine WS_det hF (by rfl) (y_assign (c := .int .i64 _) (by rfl)) ?_
                  refine WS_nil ?_
                  exact Loop_next (k + 1) (by omega) (by rw [hF2]; repeat (first | exact trivial | refine ⟨by rfl, ?_⟩)) sbA (by omega)
            ·
              try simp only [Bool.not_eq_true', Bool.not_eq_false', decide_eq_true_eq, decide_eq_false_iff_not, ne_eq, Classical.not_not, Int.not_lt, Int.not_le] at g13_1
              have hF2 : hpF (c.hpL n (k + 1)) = hpF (c.hpL n k) := by rw [Cn.hpL_none (hpp.symm.trans (hfn g13_1))]
              refine WS_no hF (by rfl) ?_
              refine WS_no hF (by rfl) ?_
              refine WS_no hF (by rfl) ?_
              refine WS_no hF (by rfl) ?_
              refine WS_no hF (by rfl) ?_
              refine WS_no hF (by rfl) ?_
              refine WS_no hF (by rfl) ?_
              refine WS_no hF (by rfl) ?_
              refine WS_no hF (by rfl) ?_
              refine WS_det hF (by rfl) (by first | exact y_pick_t (c := .bool _) (by rfl) (by rfl) | exact y_pick_f (c := .bool _) (by rfl) (by rfl)) ?_
              refine WS_nil ?_
              refine Then_normal ?_
              refine W_cond (by rfl) (fun c13 => ?_) (fun c13 => ?_)
              · cases c13
              ·
                try simp only [Bool.not_eq_true', Bool.not_eq_false', decide_eq_true_eq, decide_eq_false_iff_not, ne_eq, Classical.not_not, Int.not_lt, Int.not_le] at c13
                refine W_skip ?_
                refine InB_normal ?_
                refine Then_normal ?_
                refine W_region_lit (fun ds => ?_)
                refine WS_det hF (by rfl) (y_move (c := .int .i64 _) (by rfl)) ?_
                refine WS_det hF (by rfl) (y_add (by rfl) (by rfl) (by unfold I64; omega)) ?_
                refine WS_det hF (by rfl) (y_assign (c := .int .i64 _) (by rfl)) ?_
                refine WS_nil ?_
                exact Loop_next (k + 1) (by omega) (by rw [hF2]; repeat (first | exact trivial | refine ⟨by rfl, ?_⟩)) sbA (by omega)
        ·
          try simp only [Bool.not_eq_true', Bool.not_eq_false', decide_eq_true_eq, decide_eq_false_iff_not, ne_eq, Classical.not_not, Int.not_lt, Int.not_le] at c9
          obtain rfl : k = 20 := by omega
          have hfe := (c.hpF_eq n 20).1
          have hfs := c.hpF_s n 20
          refine W_exit ?_
          refine Then_exit ?_
          refine Loop_exit ?_
          refine InB_same ?_
          refine Then_normal ?_
          refine W_seq ?_
          refine W_seq ?_
          refine W_region_lit (fun ds => ?_)
          refine WS_det hF (by rfl) (y_move (c := .int .i64 _) (by rfl)) ?_
          refine WS_det hF (by rfl) (y_eql (by rfl) (by rfl)) ?_
          refine WS_nil ?_
          refine Then_normal ?_
          refine W_cond (by rfl) (fun c15 => ?_) (fun c15 => ?_)
          ·
            try simp only [Bool.not_eq_true', Bool.not_eq_false', decide_eq_true_eq, decide_eq_false_iff_not, ne_eq, Classical.not_not, Int.not_lt, Int.not_le] at c15
            refine W_seq ?_
            refine W_region_lit (fun ds => ?_)
            refine WS_det hF (by rfl) (y_assign (c := .int .i64 _) (by rfl)) ?_
            refine WS_det hF (by rfl) (y_assign (c := .int .i64 _) (by rfl)) ?_
            refine WS_det hF (by rfl) (y_assign (c := .int .i64 _) (by rfl)) ?_
            refine WS_nil ?_
            refine Then_normal ?_
            refine W_ret ?_
            refine Then_ret ?_
            refine Fin_ret [.int .i64 _, .int .i64 _, .int .i64 _] [] Tryd.results20 ⟨by rfl, by rfl, by rfl, trivial⟩ HSub.nil ?_
            exact HlpV.bad (by unfold Cn.hpE; rw [c1, if_pos rfl, c3, if_pos rfl, if_neg (by omega), if_pos (hfs.1 c15)]) (by decide)
          ·
            try simp only [Bool.not_eq_true', Bool.not_eq_false', decide_eq_true_eq, decide_eq_false_iff_not, ne_eq, Classical.not_not, Int.not_lt, Int.not_le] at c15
            refine W_skip ?_
            refine Then_normal ?_
            refine W_seq ?_
            refine W_region_lit (fun ds => ?_)
            refine WS_det hF (by rfl) (y_move (c := .int .i64 _) (by rfl)) ?_
            refine WS_det hF (by rfl) (y_move (c := .int .i64 _) (by rfl)) ?_
            refine WS_det hF (by rfl) (y_assign (c := .int .i64 _) (by rfl)) ?_
            refine WS_det hF (by rfl) (y_assign (c := .int .i64 _) (by rfl)) ?_
            refine WS_det hF (by rfl) (y_assign (c := .int .i64 _) (by rfl)) ?_
            refine WS_nil ?_
            refine Then_normal ?_
            refine W_ret ?_
            refine Fin_ret [.int .i64 _, .int .i64 _, .int .i64 _] [] Tryd.results20 ⟨by rfl, by rfl, by rfl, trivial⟩ HSub.nil ?_
            rw [hfe]
            exact HlpV.ok (by unfold Cn.hpE; rw [c1, if_pos rfl, c3, if_pos rfl, if_neg (by omega), if_neg (fun h => c15 (hfs.2 h))])
end Go.Proofs.YtjekjehgmljbgaaDoor.T

/- The law CanMore, walked. -/
namespace Go.Proofs.YtjekjehgmljbgaaDoor.T
open Go.RowKit Go.Proofs Go.Eng
set_option maxRecDepth 100000
set_option maxHeartbeats 1000000
set_option linter.unusedVariables false
set_option linter.unusedSimpArgs false



theorem Cn.adC_bd (c : Cn) (n : Int) (h : c.n ≤ 10) (h' : c.inn.length ≤ 10) : (c.adC n).n ≤ 1000 ∧ (c.adC n).inn.length ≤ 1000 := by
  unfold Cn.adC
  split
  · rw [c.more_n, c.more_m]; omega
  · exact ⟨Nat.zero_le _, Nat.zero_le _⟩
theorem canMore_any (c : Cn) (a1 : Option Addr) (p1 : Nat) (a2 : Option Addr) (p2 : Nat) (n s : Int) (w : World) (hG : Gv w) (h1 : Ints w a1 c.n p1 c.sz) (h2 : Ints w a2 c.inn.length p2 c.inn) :
    Ct Tryd.prog 4 #[.agg #[.slice a1 c.n p1, .slice a2 c.inn.length p2, .int .i64 c.st], .int .i64 n, .int .i64 s] w fun v _ => v = .bool true := by
  have hF := wide_wide
  refine Ct_start (args := [_, _, _]) Tryd.func4 (by rfl) Tryd.ntmps4 (by rfl) ?_
  refine W_seq ?_
  refine W_region_lit (fun ds => ?_)
  refine WS_new hF (by rfl) (y_box (by rfl)) (fun b1 => ?_)
  refine WS_det hF (by rfl) (y_assign (c := .bool _) (by rfl)) ?_
  refine WS_nil ?_
  refine Then_normal ?_
  refine W_seq ?_
  refine W_seq ?_
  refine W_region_lit (fun ds => ?_)
  refine WS_det hF (by rfl) (y_loadN (by rfl) Tryd.isAgg24 Tryd.sizeOf24 (Mem.own (us := [.slice _ _ _, .slice _ _ _, .int .i64 _]) 0 (by rfl) (by rfl)) (by rfl)) ?_
  refine WS_det hF (by rfl) (y_callL (by rfl) (by rfl) Tryd.call9 (fun w hw => rcgreat_any c a1 p1 a2 p2 w)) ?_
  refine WS_nil ?_
  refine Then_normal ?_
  refine W_cond (by rfl) (fun c1 => ?_) (fun c1 => ?_)
  ·
    try simp only [Bool.not_eq_true', Bool.not_eq_false', decide_eq_true_eq, decide_eq_false_iff_not, ne_eq, Classical.not_not, Int.not_lt, Int.not_le] at c1
    refine W_seq ?_
    refine W_region_lit (fun ds => ?_)
    refine WS_det hF (by rfl) (y_assign (c := .bool _) (by rfl)) ?_
    refine WS_nil ?_
    refine Then_normal ?_
    refine W_ret ?_
    refine Then_ret ?_
    refine Fin_ret [.bool _] [] Tryd.results4 ⟨by rfl, trivial⟩ HSub.nil ?_
    rfl
  ·
    try simp only [Bool.not_eq_true', Bool.not_eq_false', decide_eq_true_eq, decide_eq_false_iff_not, ne_eq, Classical.not_not, Int.not_lt, Int.not_le] at c1
    simp only [Bool.or_eq_false_iff, decide_eq_false_iff_not] at c1
    have hn : c.n ≤ 1000000 := by omega
    have hm : c.inn.length ≤ 1000000 := by omega
    obtain ⟨ab1, ab2⟩ := c.adC_bd s (by omega) (by omega)
    refine W_skip ?_
    refine Then_normal ?_
    refine W_seq ?_
    refine W_region_lit (fun ds => ?_)
    refine WS_det hF (by rfl) (y_loadN (by rfl) Tryd.isAgg24 Tryd.sizeOf24 (Mem.own (us := [.slice _ _ _, .slice _ _ _, .int .i64 _]) 0 (by rfl) (by rfl)) (by rfl)) ?_
    refine WS_gen hF (by rfl) (y_callL (by rfl) (by rfl) Tryd.call10 (fun w hw => rctwin_any c a1 p1 a2 p2 w hn hm (h1.st w hw) (h2.st w hw))) ?_
    rintro _ _ ⟨z1, q1, z2, q2, H1, H2, rfl, hr1, hr2, rfl⟩
    refine WS_back ?_
    refine WS_new hF (by rfl) (y_alloc Tryd.zeroValue24 (by rfl)) (fun bo => ?_)
    refine WS_store hF (us := [.slice _ _ _, .slice _ _ _, .int .i64 _]) (i := 0) (by rfl) (by rfl) Tryd.sizeOf24 (by rfl) (by rfl) (by rfl) (by first | decide | exact Nat.le_of_ble_eq_true rfl | simp) ?_
    refine WS_nil ?_
    refine Then_normal ?_
    refine W_seq ?_
    refine W_region_lit (fun ds => ?_)
    refine WS_det hF (by rfl) (y_loadN (by rfl) Tryd.isAgg24 Tryd.sizeOf24 (Mem.own (us := [.slice _ _ _, .slice _ _ _, .int .i64 _]) 0 (by rfl) (by rfl)) (by rfl)) ?_
    refine WS_det hF (by rfl) (y_move (c := .int .i64 _) (by rfl)) ?_
    refine WS_gen hF (by rfl) (y_callL (by rfl) (by rfl) Tryd.call19 (fun w hw => help_any c z1 q1 z2 q2 n w (hG.st w hw) hn hm (NewRow.ints hr1 rfl sbA w hw) (NewRow.ints hr2 rfl sbA w hw))) ?_
    rintro _ G1 hh
    unfold HlpV at hh
    subst hh
    refine WS_back ?_
    refine WS_det hF (by rfl) (y_move (c := .tuple _) (by rfl)) ?_
    refine WS_det hF (by rfl) (y_extract (c := .int .i64 _) (by rfl) (by rfl)) ?_
    refine WS_det hF (by rfl) (y_extract (c := .int .i64 _) (by rfl) (by rfl)) ?_
    refine WS_det hF (by rfl) (y_extract (c := .int .i64 _) (by rfl) (by rfl)) ?_
    refine WS_det hF (by rfl) (y_assign (c := .int .i64 _) (by rfl)) ?_
    refine WS_det hF (by rfl) (y_assign (c := .int .i64 _) (by rfl)) ?_
    refine WS_det hF (by rfl) (y_assign (c := .int .i64 _) (by rfl)) ?_
    refine WS_nil ?_
    refine Then_normal ?_
    refine W_seq ?_
    refine W_region_lit (fun ds => ?_)
    refine WS_det hF (by rfl) (y_loadN (by rfl) Tryd.isAgg24 Tryd.sizeOf24 (Mem.own (us := [.slice _ _ _, .slice _ _ _, .int .i64 _]) 1 (by rfl) (by rfl)) (by rfl)) ?_
    refine WS_det hF (by rfl) (y_move (c := .int .i64 _) (by rfl)) ?_
    refine WS_gen hF (by rfl) (y_callL (by rfl) (by rfl) Tryd.call20 (fun w hw => rhelp_any c a1 p1 a2 p2 n w hn hm (h1.st w hw) (h2.st w hw))) ?_
    rintro _ G2 hh
    unfold HlpV at hh
    subst hh
    refine WS_back ?_
    refine WS_det hF (by rfl) (y_move (c := .tuple _) (by rfl)) ?_
    refine WS_det hF (by rfl) (y_extract (c := .int .i64 _) (by rfl) (by rfl)) ?_
    refine WS_det hF (by rfl) (y_extract (c := .int .i64 _) (by rfl) (by rfl)) ?_
    refine WS_det hF (by rfl) (y_extract (c := .int .i64 _) (by rfl) (by rfl)) ?_
    refine WS_det hF (by rfl) (y_assign (c := .int .i64 _) (by rfl)) ?_
    refine WS_det hF (by rfl) (y_assign (c := .int .i64 _) (by rfl)) ?_
    refine WS_det hF (by rfl) (y_assign (c := .int .i64 _) (by rfl)) ?_
    refine WS_nil ?_
    refine Then_normal ?_
    refine W_seq ?_
    refine W_region_lit (fun ds => ?_)
    refine WS_det hF (by rfl) (y_loadN (by rfl) Tryd.isAgg24 Tryd.sizeOf24 (Mem.own (us := [.slice _ _ _, .slice _ _ _, .int .i64 _]) 0 (by rfl) (by rfl)) (by rfl)) ?_
    refine WS_det hF (by rfl) (y_move (c := .int .i64 _) (by rfl)) ?_
    refine WS_gen hF (by rfl) (y_callL (by rfl) (by rfl) Tryd.call21 (fun w hw => caddC_any c z1 q1 z2 q2 s w (hG.st w hw) hn hm (NewRow.ints hr1 rfl sbA w hw) (NewRow.ints hr2 rfl sbA w hw))) ?_
    rintro _ _ ⟨_, rfl, x1, y1, x2, y2, Hx1, Hx2, rfl, hx1, hx2, rfl⟩
    refine WS_back ?_
    refine WS_det hF (by rfl) (y_move (c := .tuple _) (by rfl)) ?_
    refine WS_det hF (by rfl) (y_extract (c := .agg _) (by rfl) (by rfl)) ?_
    refine WS_det hF (by rfl) (y_extract (c := .int .i64 _) (by rfl) (by rfl)) ?_
    refine WS_new hF (by rfl) (y_alloc Tryd.zeroValue24 (by rfl)) (fun bA => ?_)
    refine WS_store hF (us := [.slice _ _ _, .slice _ _ _, .int .i64 _]) (i := 0) (by rfl) (by rfl) Tryd.sizeOf24 (by rfl) (by rfl) (by rfl) (by first | decide | exact Nat.le_of_ble_eq_true rfl | simp) ?_
    refine WS_det hF (by rfl) (y_assign (c := .int .i64 _) (by rfl)) ?_
    refine WS_nil ?_
    refine Then_normal ?_
    refine W_seq ?_
    refine W_keep [(2, .int .i64 _), (3, .pointer _), (6, .bool _), (7, .pointer _), (8, .int .i64 _), (9, .int .i64 _), (10, .int .i64 _), (11, .int .i64 _), (12, .int .i64 _), (13, .int .i64 _), (14, .pointer _), (15, .int .i64 _)] (by repeat (first | exact trivial | refine ⟨by rfl, ?_⟩)) (fun e => ?_)
    refine W_region_lit (fun ds => ?_)
    refine WS_det hF (by rfl) (y_loadN (by rfl) Tryd.isAgg24 Tryd.sizeOf24 (Mem.own (us := [.slice _ _ _, .slice _ _ _, .int .i64 _]) 2 (by rfl) (by rfl)) (by rfl)) ?_
    refine WS_det hF (by rfl) (y_move (c := .int .i64 _) (by rfl)) ?_
    refine WS_gen hF (by rfl) (y_callL (by rfl) (by rfl) Tryd.call22 (fun w hw => raddC_any c a1 p1 a2 p2 s w hn hm (h1.st w hw) (h2.st w hw))) ?_
    rintro _ _ ⟨_, rfl, e1, f1, e2, f2, He1, He2, rfl, he1, he2, rfl⟩
    refine WS_back ?_
    refine WS_det hF (by rfl) (y_move (c := .tuple _) (by rfl)) ?_
    refine WS_det hF (by rfl) (y_extract (c := .agg _) (by rfl) (by rfl)) ?_
    refine WS_det hF (by rfl) (y_extract (c := .int .i64 _) (by rfl) (by rfl)) ?_
    refine WS_new hF (by rfl) (y_alloc Tryd.zeroValue24 (by rfl)) (fun b2 => ?_)
    refine WS_store hF (us := [.slice _ _ _, .slice _ _ _, .int .i64 _]) (i := 0) (by rfl) (by rfl) Tryd.sizeOf24 (by rfl) (by rfl) (by rfl) (by first | decide | exact Nat.le_of_ble_eq_true rfl | simp) ?_
    refine WS_det hF (by rfl) (y_assign (c := .int .i64 _) (by rfl)) ?_
    refine WS_nil ?_
    refine Then_normal ?_
    refine W_seq ?_
    refine W_region_lit (fun ds => ?_)
    refine WS_det hF (by rfl) (y_move (c := .int .i64 _) (by rfl)) ?_
    refine WS_det hF (by rfl) (y_move (c := .int .i64 _) (by rfl)) ?_
    refine WS_det hF (by rfl) (y_eqlT (by rfl) (by rfl)) ?_
    refine WS_det hF (by rfl) (y_move (c := .bool _) (by rfl)) ?_
    refine WS_det hF (by rfl) (y_move (c := .int .i64 _) (by rfl)) ?_
    refine WS_det hF (by rfl) (y_move (c := .int .i64 _) (by rfl)) ?_
    refine WS_det hF (by rfl) (y_eqlT (by rfl) (by rfl)) ?_
    refine WS_det hF (by rfl) (by first | exact y_pick_t (c := .bool _) (by rfl) (by rfl) | exact y_pick_f (c := .bool _) (by rfl) (by rfl)) ?_
    refine WS_det hF (by rfl) (y_move (c := .bool _) (by rfl)) ?_
    refine WS_det hF (by rfl) (y_move (c := .int .i64 _) (by rfl)) ?_
    refine WS_det hF (by rfl) (y_move (c := .int .i64 _) (by rfl)) ?_
    refine WS_det hF (by rfl) (y_eqlT (by rfl) (by rfl)) ?_
    refine WS_det hF (by rfl) (by first | exact y_pick_t (c := .bool _) (by rfl) (by rfl) | exact y_pick_f (c := .bool _) (by rfl) (by rfl)) ?_
    refine WS_det hF (by rfl) (y_move (c := .bool _) (by rfl)) ?_
    refine WS_det hF (by rfl) (y_loadN (by rfl) Tryd.isAgg24 Tryd.sizeOf24 (Mem.own (us := [.slice _ _ _, .slice _ _ _, .int .i64 _]) 1 (by rfl) (by rfl)) (by rfl)) ?_
    refine WS_det hF (by rfl) (y_loadN (by rfl) Tryd.isAgg24 Tryd.sizeOf24 (Mem.own (us := [.slice _ _ _, .slice _ _ _, .int .i64 _]) 0 (by rfl) (by rfl)) (by rfl)) ?_
    refine WS_det hF (by rfl) (y_callL (by rfl) (by rfl) Tryd.call15 (fun w hw => Ct_eq (rcsame_any (c.adC s) x1 y1 x2 y2 (c.adC s) e1 f1 e2 f2 w (by omega) (by omega) (NewRow.ints hx1 rfl sbA w hw) (NewRow.ints hx2 rfl sbA w hw) (NewRow.ints he1 rfl sbA w hw) (NewRow.ints he2 rfl sbA w hw)) (c' := .bool true) (by simp))) ?_
    refine WS_det hF (by rfl) (by first | exact y_pick_t (c := .bool _) (by rfl) (by rfl) | exact y_pick_f (c := .bool _) (by rfl) (by rfl)) ?_
    refine WS_det hF (by rfl) (y_move (c := .bool _) (by rfl)) ?_
    refine WS_det hF (by rfl) (y_move (c := .int .i64 _) (by rfl)) ?_
    refine WS_det hF (by rfl) (y_move (c := .int .i64 _) (by rfl)) ?_
    refine WS_det hF (by rfl) (y_eqlT (by rfl) (by rfl)) ?_
    refine WS_det hF (by rfl) (by first | exact y_pick_t (c := .bool _) (by rfl) (by rfl) | exact y_pick_f (c := .bool _) (by rfl) (by rfl)) ?_
    refine WS_det hF (by rfl) (y_assign (c := .bool _) (by rfl)) ?_
    refine WS_nil ?_
    refine Then_normal ?_
    refine W_seq ?_
    refine W_seq ?_
    have ho1 : OwnR (Hx1 ++ Hx2) 3 1 x1 (c.adC s).n := hx1.own fun y h => List.mem_append_left _ h
    have ho2 : OwnR (Hx1 ++ Hx2) 3 1 x2 (c.adC s).inn.length := hx2.own fun y h => List.mem_append_right _ h
    refine W_keep [(3, .pointer _), (6, .bool _), (7, .pointer _), (14, .pointer _), (18, .bool _)] (by repeat (first | exact trivial | refine ⟨by rfl, ?_⟩)) (fun e => ?_)
    refine W_region_lit (fun ds => ?_)
    refine WS_det hF (by rfl) (y_fieldAddr (by rfl) fa24_0) ?_
    refine WS_det hF (by rfl) (y_load1 (by rfl) Tryd.isAgg22 (Mem.own1 1 (by rfl) (by rfl))) ?_
    refine WS_det hF (by rfl) (y_len (by rfl) Tryd.runUnderlying22) ?_
    refine WS_det hF (by rfl) (y_move (c := .int .i64 _) (by rfl)) ?_
    refine WS_nil ?_
    refine Then_normal ?_
    refine W_block ?_
    refine W_loop (γ := Nat × List Blk) (fun q => q.1 ≤ (c.adC s).n ∧ Shp (Hx1 ++ Hx2) q.2) (fun q => [(77, .int .i64 (q.1 : Int)), (76, .int .i64 ((c.adC s).n : Int)), (3, .pointer (some ⟨b1, 0, none⟩)), (7, .pointer (some ⟨bo, 0, none⟩)), (14, .pointer (some ⟨bA, 0, none⟩)), (18, .bool true)]) (fun q => (bA, CB [.slice x1 (c.adC s).n y1, .slice x2 (c.adC s).inn.length y2, .int .i64 (c.adC s).st] 24) :: (bo, CB [.slice z1 c.n q1, .slice z2 c.inn.length q2, .int .i64 c.st] 24) :: (b1, CB [.slice a1 c.n p1, .slice a2 c.inn.length p2, .int .i64 c.st] 24) :: (H1 ++ (H2 ++ q.2))) (fun q => (c.adC s).n - q.1) ((0, Hx1 ++ Hx2)) ⟨Nat.zero_le _, hx1.shp.app hx2.shp⟩ (by repeat (first | exact trivial | refine ⟨by rfl, ?_⟩)) (sbA) ?_
    rintro ⟨i, S⟩ e ⟨hi, hS⟩
    refine W_seq ?_
    refine W_region_lit (fun ds => ?_)
    refine WS_det hF (by rfl) (y_lss (by rfl) (by rfl)) ?_
    refine WS_nil ?_
    refine Then_normal ?_
    refine W_seq ?_
    refine W_cond (by rfl) (fun c10 => ?_) (fun c10 => ?_)
    ·
      try simp only [Bool.not_eq_true', Bool.not_eq_false', decide_eq_true_eq, decide_eq_false_iff_not, ne_eq, Classical.not_not, Int.not_lt, Int.not_le] at c10
      obtain ⟨by_, Sa, us, Sb, hz1, rfl, hle, hput⟩ := ho1.get (k := i) (by omega) hS
      refine W_pull (by_, CB us 3) (by repeat (first | exact Pul.base0 | exact Pul.base | apply Pul.cons | apply Pul.app)) ?_
      refine W_skip ?_
      refine Then_normal ?_
      refine W_seq ?_
      refine W_block ?_
      refine W_seq ?_
      refine W_region_lit (fun ds => ?_)
      refine WS_det hF (by rfl) (y_move (c := .int .i64 _) (by rfl)) ?_
      refine WS_det hF (by rfl) (y_assign (c := .int .i64 _) (by rfl)) ?_
      refine WS_nil ?_
      refine Then_normal ?_
      refine W_region_lit (fun ds => ?_)
      refine WS_det hF (by rfl) (y_fieldAddr (by rfl) fa24_0) ?_
      refine WS_det hF (by rfl) (y_load1 (by rfl) Tryd.isAgg22 (Mem.own1 1 (by rfl) (by rfl))) ?_
      refine WS_det hF (by rfl) (y_move (c := .int .i64 _) (by rfl)) ?_
      rw [hz1]
      refine WS_det hF (by rfl) (y_index (k := i) (by rfl) (by rfl) (by first | rfl | omega) (by first | decide | omega) Tryd.runUnderlying22 Tryd.sizeOf3) ?_
      refine WS_store hF (us := [.int .i64 _]) (i := 0) (by rfl) (by rfl) Tryd.sizeOf3 (by rfl) (by rfl) (by rfl) (by simp only [List.length_singleton]; omega) ?_
      refine WS_nil ?_
      refine InB_normal ?_
      refine Then_normal ?_
      refine W_push (M := (bA, _) :: (bo, _) :: (b1, _) :: (H1 ++ (H2 ++ (Sa ++ (by_, CB (splice us (0 + i * 1) [.int .i64 (-7)]) 3) :: Sb)))) (by repeat (first | exact Pul.base0 | exact Pul.base | apply Pul.cons | apply Pul.app)) ?_
      obtain ⟨Sn, hSe, hSn⟩ : ∃ Sn, Sn = Sa ++ (by_, CB (splice us (0 + i * 1) [.int .i64 (-7)]) 3) :: Sb ∧ Shp (Hx1 ++ Hx2) Sn := ⟨_, rfl, hput _ (length_splice (by simp only [List.length_singleton]; omega))⟩
      rw [← hSe]
      refine W_region_lit (fun ds => ?_)
      refine WS_det hF (by rfl) (y_add (by rfl) (by rfl) (by unfold I64; omega)) ?_
      refine WS_det hF (by rfl) (y_move (c := .int .i64 _) (by rfl)) ?_
      refine WS_nil ?_
      exact Loop_next (i + 1, Sn) ⟨by simp only; omega, hSn⟩ (by repeat (first | exact trivial | refine ⟨by rfl, ?_⟩)) sbA (by simp only; omega)
    ·
      try simp only [Bool.not_eq_true', Bool.not_eq_false', decide_eq_true_eq, decide_eq_false_iff_not, ne_eq, Classical.not_not, Int.not_lt, Int.not_le] at c10
      refine W_exit ?_
      refine Then_exit ?_
      refine Loop_exit ?_
      refine InB_same ?_
      refine Then_normal ?_
      refine W_seq ?_
      refine W_seq ?_
      refine W_region_lit (fun ds => ?_)
      refine WS_det hF (by rfl) (y_fieldAddr (by rfl) fa24_1) ?_
      refine WS_det hF (by rfl) (y_load1 (by rfl) Tryd.isAgg22 (Mem.own1 0 (by rfl) (by rfl))) ?_
      refine WS_det hF (by rfl) (y_len (by rfl) Tryd.runUnderlying22) ?_
      refine WS_det hF (by rfl) (y_move (c := .int .i64 _) (by rfl)) ?_
      refine WS_nil ?_
      refine Then_normal ?_
      refine W_block ?_
      refine W_loop (γ := Nat × List Blk) (fun q => q.1 ≤ (c.adC s).inn.length ∧ Shp (Hx1 ++ Hx2) q.2) (fun q => [(88, .int .i64 (q.1 : Int)), (87, .int .i64 ((c.adC s).inn.length : Int)), (3, .pointer (some ⟨b1, 0, none⟩)), (7, .pointer (some ⟨bo, 0, none⟩)), (14, .pointer (some ⟨bA, 0, none⟩)), (18, .bool true)]) (fun q => (bA, CB [.slice x1 (c.adC s).n y1, .slice x2 (c.adC s).inn.length y2, .int .i64 (c.adC s).st] 24) :: (bo, CB [.slice z1 c.n q1, .slice z2 c.inn.length q2, .int .i64 c.st] 24) :: (b1, CB [.slice a1 c.n p1, .slice a2 c.inn.length p2, .int .i64 c.st] 24) :: (H1 ++ (H2 ++ q.2))) (fun q => (c.adC s).inn.length - q.1) ((0, S)) ⟨Nat.zero_le _, hS⟩ (by repeat (first | exact trivial | refine ⟨by rfl, ?_⟩)) (sbA) ?_
      rintro ⟨j, S2⟩ e ⟨hj, hS2⟩
      refine W_seq ?_
      refine W_region_lit (fun ds => ?_)
      refine WS_det hF (by rfl) (y_lss (by rfl) (by rfl)) ?_
      refine WS_nil ?_
      refine Then_normal ?_
      refine W_seq ?_
      refine W_cond (by rfl) (fun c15 => ?_) (fun c15 => ?_)
      ·
        try simp only [Bool.not_eq_true', Bool.not_eq_false', decide_eq_true_eq, decide_eq_false_iff_not, ne_eq, Classical.not_not, Int.not_lt, Int.not_le] at c15
        obtain ⟨by_, Sa, us, Sb, hz1, rfl, hle, hput⟩ := ho2.get (k := j) (by omega) hS2
        refine W_pull (by_, CB us 3) (by repeat (first | exact Pul.base0 | exact Pul.base | apply Pul.cons | apply Pul.app)) ?_
        refine W_skip ?_
        refine Then_normal ?_
        refine W_seq ?_
        refine W_block ?_
        refine W_seq ?_
        refine W_region_lit (fun ds => ?_)
        refine WS_det hF (by rfl) (y_move (c := .int .i64 _) (by rfl)) ?_
        refine WS_det hF (by rfl) (y_assign (c := .int .i64 _) (by rfl)) ?_
        refine WS_nil ?_
        refine Then_normal ?_
        refine W_region_lit (fun ds => ?_)
        refine WS_det hF (by rfl) (y_fieldAddr (by rfl) fa24_1) ?_
        refine WS_det hF (by rfl) (y_load1 (by rfl) Tryd.isAgg22 (Mem.own1 1 (by rfl) (by rfl))) ?_
        refine WS_det hF (by rfl) (y_move (c := .int .i64 _) (by rfl)) ?_
        rw [hz1]
        refine WS_det hF (by rfl) (y_index (k := j) (by rfl) (by rfl) (by first | rfl | omega) (by first | decide | omega) Tryd.runUnderlying22 Tryd.sizeOf3) ?_
        refine WS_store hF (us := [.int .i64 _]) (i := 0) (by rfl) (by rfl) Tryd.sizeOf3 (by rfl) (by rfl) (by rfl) (by simp only [List.length_singleton]; omega) ?_
        refine WS_nil ?_
        refine InB_normal ?_
        refine Then_normal ?_
        refine W_push (M := (bA, _) :: (bo, _) :: (b1, _) :: (H1 ++ (H2 ++ (Sa ++ (by_, CB (splice us (0 + j * 1) [.int .i64 (-7)]) 3) :: Sb)))) (by repeat (first | exact Pul.base0 | exact Pul.base | apply Pul.cons | apply Pul.app)) ?_
        obtain ⟨Sn, hSe, hSn⟩ : ∃ Sn, Sn = Sa ++ (by_, CB (splice us (0 + j * 1) [.int .i64 (-7)]) 3) :: Sb ∧ Shp (Hx1 ++ Hx2) Sn := ⟨_, rfl, hput _ (length_splice (by simp only [List.length_singleton]; omega))⟩
        rw [← hSe]
        refine W_region_lit (fun ds => ?_)
        refine WS_det hF (by rfl) (y_add (by rfl) (by rfl) (by unfold I64; omega)) ?_
        refine WS_det hF (by rfl) (y_move (c := .int .i64 _) (by rfl)) ?_
        refine WS_nil ?_
        exact Loop_next (j + 1, Sn) ⟨by simp only; omega, hSn⟩ (by repeat (first | exact trivial | refine ⟨by rfl, ?_⟩)) sbA (by simp only; omega)
      ·
        try simp only [Bool.not_eq_true', Bool.not_eq_false', decide_eq_true_eq, decide_eq_false_iff_not, ne_eq, Classical.not_not, Int.not_lt, Int.not_le] at c15
        refine W_exit ?_
        refine Then_exit ?_
        refine Loop_exit ?_
        refine InB_same ?_
        refine Then_normal ?_
        refine W_seq ?_
        refine W_region_lit (fun ds => ?_)
        refine WS_det hF (by rfl) (y_move (c := .bool _) (by rfl)) ?_
        refine WS_det hF (by rfl) (y_move (c := .bool _) (by rfl)) ?_
        refine WS_det hF (by rfl) (y_loadN (by rfl) Tryd.isAgg24 Tryd.sizeOf24 (Mem.own (us := [.slice _ _ _, .slice _ _ _, .int .i64 _]) 1 (by rfl) (by rfl)) (by rfl)) ?_
        refine WS_det hF (by rfl) (y_loadN (by rfl) Tryd.isAgg24 Tryd.sizeOf24 (Mem.own (us := [.slice _ _ _, .slice _ _ _, .int .i64 _]) 2 (by rfl) (by rfl)) (by rfl)) ?_
        refine WS_det hF (by rfl) (y_callL (by rfl) (by rfl) Tryd.call15 (fun w hw => Ct_eq (rcsame_any c z1 q1 z2 q2 c a1 p1 a2 p2 w hn hm (NewRow.ints hr1 rfl sbA w hw) (NewRow.ints hr2 rfl sbA w hw) (h1.st w hw) (h2.st w hw)) (c' := .bool true) (by simp))) ?_
        refine WS_det hF (by rfl) (by first | exact y_pick_t (c := .bool _) (by rfl) (by rfl) | exact y_pick_f (c := .bool _) (by rfl) (by rfl)) ?_
        refine WS_det hF (by rfl) (y_assign (c := .bool _) (by rfl)) ?_
        refine WS_nil ?_
        refine Then_normal ?_
        refine W_ret ?_
        refine Fin_ret [.bool _] [] Tryd.results4 ⟨by rfl, trivial⟩ HSub.nil ?_
        rfl
end Go.Proofs.YtjekjehgmljbgaaDoor.T

namespace Go.Proofs.YtjekjehgmljbgaaDoor
open Go.RowKit Go.Proofs Go.Eng Go.ChangeShapes Go.WideShapes Go.ChangeAt Go.Joins T
set_option maxRecDepth 100000
set_option maxHeartbeats 1000000
set_option linter.unusedVariables false

theorem walkCanMore (v0 v1 v2 : Value) (W : World) (hG : Gv W) (h0 : ∃ (c0 : Cn) (a0 : Option Addr) (p0 : Nat) (b0 : Option Addr) (q0 : Nat), v0 = .agg #[.slice a0 c0.n p0, .slice b0 c0.inn.length q0, .int .i64 c0.st] ∧ Ints W a0 c0.n p0 c0.sz ∧ Ints W b0 c0.inn.length q0 c0.inn) (h1 : ∃ n1 : Int, v1 = .int .i64 n1) (h2 : ∃ n2 : Int, v2 = .int .i64 n2) :
    Calls Tryd.prog 4 #[v0, v1, v2] W fun e W' => e = .returned (.bool true) ∧ Below W.heap.size W W' := by
  obtain ⟨c0, a0, p0, b0, q0, rfl, hx0, hy0⟩ := h0
  obtain ⟨n1, rfl⟩ := h1
  obtain ⟨n2, rfl⟩ := h2
  refine Calls.mono (canMore_any c0 a0 p0 b0 q0 n1 n2 W hG hx0 hy0  ) ?_
  rintro e W' ⟨v, rfl, Hn, hb, _, rfl⟩
  exact ⟨rfl, hb⟩

theorem liftCanMore (os : Os) (started : os.Started) (H : Type) (enc : TypeId × Value → H) :
    ReturnsInHanded {} Tryd.checked os 4 .any (fun w args => (Rows.canMoreSpec.pre enc Tryd.prog Tryd.f4 [] false w args ∧ laidMetH Tryd.prog laidC w) ∧ sizedMet enc Tryd.prog Tryd.f4 (OpenSpec.ofChange Rows.canMoreSpec) false w args) (Rows.canMoreSpec.post enc Tryd.prog Tryd.f4 false true false false) := by
  refine returnsInHanded_of_change_and (C := Tryd.checked) (X := fun w _ => laidMetH Tryd.prog laidC w) (fun _ _ _ hh h => h.of_heap hh) own started (by kernel_rfl) Tryd.func4
    (ChangeSpec.witness_shaped (enc := enc) (C := Tryd.checked) (os := os) (X := fun w _ => laidMetH Tryd.prog laidC w) false (World.doorLaid Tryd.prog 400 os) #[.agg #[.slice none 0 0, .slice none 0 0, .int .i64 0], .int .i64 0, .int .i64 0] 8 rfl (World.shaped_of_RefB (by kernel_rfl) (by kernel_rfl)) (by kernel_rfl) (by kernel_rfl) (by kernel_rfl) (door_met os _)) ?_
  intro W base args ds gs before hval0 hW _ _ hL _
  have hval : ∀ (j : Nat) t v, Tryd.f4.params[j]? = some t → args[j]? = some v → Value.okWide Tryd.prog W .any base t v := hval0
  have hW' := hW
  obtain ⟨p, q, hA0, hV, rfl, hfz, hnd⟩ := hW
  have hA : DataW.TrodAll enc Tryd.prog W 0 (fun _ => true) true Tryd.f4.params.toList args.toList ds p := hA0
  rw [Tryd.params4] at hA hval
  obtain ⟨v0, vs0, d0, ds0, p0, q0, hargs, rfl, rfl, h0, r0⟩ := trodAll_cons hA
  obtain ⟨v1, vs1, d1, ds1, p1, q1, rfl, rfl, rfl, h1, r1⟩ := trodAll_cons r0
  obtain ⟨v2, vs2, d2, ds2, p2, q2, rfl, rfl, rfl, h2, r2⟩ := trodAll_cons r1
  obtain ⟨rfl, rfl, rfl⟩ := trodAll_nil r2
  obtain rfl : args = #[v0, v1, v2] := by cases args; simp_all
  obtain ⟨rfl, rfl⟩ := trodVars_none hV
  have lt0 : ∀ x ∈ p0, x.block < W.heap.size := by obtain ⟨m, hm⟩ := h0; exact DataW.trod_lt m _ _ _ hm
  have lt1 : ∀ x ∈ p1, x.block < W.heap.size := by obtain ⟨m, hm⟩ := h1; exact DataW.trod_lt m _ _ _ hm
  have lt2 : ∀ x ∈ p2, x.block < W.heap.size := by obtain ⟨m, hm⟩ := h2; exact DataW.trod_lt m _ _ _ hm
  have o0 : ∃ (c0 : Cn) (a0 : Option Addr) (p0 : Nat) (b0 : Option Addr) (q0 : Nat), v0 = .agg #[.slice a0 c0.n p0, .slice b0 c0.inn.length q0, .int .i64 c0.st] ∧ Ints W a0 c0.n p0 c0.sz ∧ Ints W b0 c0.inn.length q0 c0.inn := open_cans (hval 0 _ v0 rfl rfl) h0 (fun _ => rfl)
  have o1 : ∃ n1 : Int, v1 = .int .i64 n1 := by obtain ⟨n, h, _⟩ := open_int Tryd.underlying3 (hval 1 3 v1 rfl rfl) h1; exact ⟨n, h⟩
  have o2 : ∃ n2 : Int, v2 = .int .i64 n2 := by obtain ⟨n, h, _⟩ := open_int Tryd.underlying3 (hval 2 3 v2 rfl rfl) h2; exact ⟨n, h⟩
  clear hA0 hval0
  refine (walkCanMore v0 v1 v2 W (of_laid hL) o0 o1 o2).mono fun e W' ⟨he, bel⟩ => ?_
  subst he
  exact ⟨_, rfl, _, _, _, [], _, [], hW', trodAll_mk1 (shut_bool Tryd.underlying4 _),
    (trodAll_cons_mk (Below.trod laidOut (by kernel_rfl) (of_decide_eq_true (by kernel_rfl)) h0 bel lt0) (trodAll_cons_mk (Below.trod laidOut (by kernel_rfl) (of_decide_eq_true (by kernel_rfl)) h1 bel lt1) (trodAll_cons_mk (Below.trod laidOut (by kernel_rfl) (of_decide_eq_true (by kernel_rfl)) h2 bel lt2) trodAll_mk0))), rfl, bel.frame _, fun h => by cases h⟩

theorem canMoreH : Rows.CanMoreSaid :=
  OpenClaim.holds_of_wide 4 Tryd.f4 rfl rfl rfl rfl rfl rfl rfl ⟨rfl, rfl, rfl, rfl, rfl⟩ rfl rfl rfl rfl rfl (by kernel_rfl) Tryd.func4 (by kernel_rfl)
    (of_decide_eq_true (by kernel_rfl)) (by unfold Func.isWrapper; first | (rw [if_pos (by decide +kernel)]; kernel_rfl) | (rw [if_neg (by decide +kernel)]; exact ⟨rfl, rfl⟩))
    (fun os started H enc _ => liftCanMore os started H enc)
theorem canMore : Rows.CanMoreCardSaid :=
  Claim7.holds_tied_plain_at .later [] [.funcs] true (true, "4f976da4b806c04e14c28f8bda1ba53d549989da811836dbb6df42d861d3a136") false
    canMoreH (fun _ h => by cases h) (by kernel_rfl) (fun _ h => by cases h) canMore_row_tie rfl ⟨rfl, rfl⟩ (by kernel_rfl) rfl
    (fun f fn hf hfn => by
      obtain rfl : f = 4 := Option.some.inj ((show Tryd.prog.funcNamed "oilcake/oilcakelaw08.CanMore" = some 4 by kernel_rfl).symm.trans hf) |>.symm
      obtain rfl : fn = Tryd.f4 := (Option.some.inj (Tryd.func4.symm.trans hfn)).symm
      exact ⟨by kernel_rfl, fun j t ht => by
        rw [Tryd.params4] at ht
        have hm : t ∈ [24, 3, 3] := by simpa using Array.mem_of_getElem? ht
        have hall : ([24, 3, 3].all fun u => !Tryd.prog.wantsStandIn u) = true := by kernel_rfl
        exact (show Tryd.prog.wantsStandIn t = false by simpa using List.all_eq_true.1 hall t hm)⟩)
    (by kernel_rfl)
end Go.Proofs.YtjekjehgmljbgaaDoor
