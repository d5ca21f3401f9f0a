/- Proved: for every input, with no condition, the law WireBest returns true and the input reads as it did (Rows.WireBestSaid). -/
import Derived.Test.YtmpanejghmgoaaaMb2
import Derived.Test.YtmpanejghmgoaaaMb1
set_option linter.unusedVariables false
set_option linter.unusedSimpArgs false
namespace Go.Proofs.Ytmpanejghmgoaaa.T
open Go.RowKit Go.Proofs Go.Eng
set_option maxRecDepth 100000
set_option maxHeartbeats 1000000
theorem bd25  : ∀ w, (Instr.build 25 #[]).run Try.prog w = .ok (.agg #[.slice none 0 0]) w := fun w => by kernel_rfl
theorem bd25_0 {x0a : Option Addr} {x0l x0c : Nat} : ∀ w, (Instr.build 25 #[(0, .slice x0a x0l x0c)]).run Try.prog w = .ok (.agg #[.slice x0a x0l x0c]) w := fun w => by kernel_rfl
noncomputable def bstL (xs : List Int) : List Str := if oftB xs then (spL (bsL (lenR xs 64)) xs.length []).getD [] else []
def bstE (xs : List Int) : Int := if oftB xs then 0 else 113
def BstV (xs : List Int) (v : Value) (Hn : List Blk) : Prop :=
 ∃ a cap, v = .tuple #[.agg #[.slice a (bstL xs).length cap], .int .i64 (bstE xs)] ∧ NewRow 9 1 (bstL xs).length (sL (bstL xs)) (.slice a (bstL xs).length cap) Hn
theorem row_none {T : TypeId} {sz : Nat} : NewRow T sz 0 [] (.slice none 0 0) [] := ⟨none, 0, rfl, Nat.le_refl _, .inr ⟨rfl, rfl, rfl⟩⟩
theorem BstV.bad {xs : List Int} (h : oftB xs = false) : BstV xs (.tuple #[.agg #[.slice none 0 0], .int .i64 113]) [] := by
 unfold BstV bstL bstE
 rw [h]
 exact ⟨none, 0, rfl, row_none⟩
theorem BstV.good {xs : List Int} {R : Option (List Str)} {a : Option Addr} {cap : Nat} {Hf : List Blk} (h : oftB xs = true) (hR : spL (bsL (lenR xs 64)) xs.length [] = R) (hr : NewRow 9 1 (R.getD []).length (sL (R.getD [])) (.slice a (R.getD []).length cap) Hf) :
  BstV xs (.tuple #[.agg #[.slice a (R.getD []).length cap], .int .i64 0]) Hf := by
 subst hR
 unfold BstV bstL bstE
 rw [h]
 exact ⟨a, cap, rfl, hr⟩
theorem oft_len {xs : List Int} (h : oftB xs = true) : (1 ≤ xs.length ∧ xs.length ≤ 7) ∧ (∀ o ∈ xs, 0 ≤ o ∧ o ≤ 1000) ∧ ∃ l c, lenR xs 64 = some (l, c) ∧ l.length = xs.length ∧ ∀ x ∈ l, 1 ≤ x ∧ x ≤ 6 := by
 obtain ⟨h1, h2⟩ := oftB_iff.1 h
 refine ⟨h1, h2, ?_⟩
 have hs := lenR_some xs 64 om0
 cases hr : lenR xs 64 with
 | none => rw [hr] at hs; cases hs
 | some x =>
  obtain ⟨l, c⟩ := x
  obtain ⟨h3, h4, _⟩ := lenR_ok xs 64 h2 l c hr
  exact ⟨l, c, rfl, h3, h4⟩
theorem rbest_any (a : Option Addr) (n cap : Nat) (xs : List Int) (w : World) (hn : n ≤ 1000000) (hx : Ints w a n cap xs) :
  Ct Try.prog 5 #[.slice a n cap] w (BstV xs) := by
 have hl := hx.len
 subst hl
 have hF := wide_wide
 refine Ct_start (args := [_]) Try.func5 rf Try.ntmps5 rf ?_
 refine zR fun ds => ?_
 refine WS_new hF rf (y_alloc Try.zeroValue25 rf) (fun b1 => ?_)
 refine za (.int .i64 _) hF ?_
 refine zO ?_
 refine zR fun ds => ?_
 refine zm (.slice _ _ _) hF ?_
 refine zD hF (y_callL rf rf Try.call14 (fun w hw => roften_any a _ cap xs w hn (hx.st w hw))) ?_
 refine zD hF (y_not rf) ?_
 refine zN ?_
 refine W_cond rf (fun c1 => ?_) (fun c1 => ?_)
 ·
  try simp only [qz1, qz2, qz3, qz4, qz5, qz6, qz7, qz8] at c1
  refine zR fun ds => ?_
  refine zD hF (y_buildL bd25 rf) ?_
  refine WS_store hF (i := 0) rf rf Try.sizeOf25 rf rf rf d2 ?_
  refine za (.int .i64 _) hF ?_
  refine zN ?_
  refine W_ret ?_
  refine Then_ret ?_
  refine Fin_ret [_, .int .i64 _] [] Try.results5 ⟨lvN rf Try.isAgg25 Try.sizeOf25 (Mem.own1 0 rf rf) rf, by rfl, trivial⟩ (HSub.sub sbA) ?_
  exact BstV.bad c1
 ·
  try simp only [qz1, qz2, qz3, qz4, qz5, qz6, qz7, qz8] at c1
  obtain ⟨⟨hn1, hn7⟩, hv, l, c, hr, hll, hl6⟩ := oft_len c1
  refine W_skip ?_
  refine zS fun ds => ?_
  refine zm (.slice _ _ _) hF ?_
  refine WS_gen hF rf (y_callL rf rf Try.call15 (fun w hw => rlen_any a cap xs hn7 hv xs.length 0 64 w om0 (by decide) (by decide) (hx.st w hw))) ?_
  rintro _ Hq ⟨la, lcap, Hl, rfl, hrl, hsl⟩
  rw [List.drop_zero, hr] at hrl
  rw [List.drop_zero, hr]
  simp only [bsL, bsD] at hrl ⊢
  refine WS_back ?_
  refine zm (.tuple _) hF ?_
  refine zD hF (y_extract (c := .slice _ _ _) rf rf) ?_
  refine zD hF (y_extract (c := .int .i64 _) rf rf) ?_
  refine za (.slice _ _ _) hF ?_
  refine za (.int .i64 _) hF ?_
  refine zP fun ds => ?_
  refine zm (.slice _ _ _) hF ?_
  refine WS_gen hF rf (y_callL rf rf Try.call16 (fun w hw => rwords_any l om0 hl6 l.length [] 0 la lcap none 0 w rfl (by simp) (NewRow.ints hrl (natI_len l) (hsl.trans sbA) w hw) (Rws.nil _ _ _))) ?_
  rintro v0 Hr ⟨_, hp⟩
  have hp2 := hp om0
  obtain ⟨oa, ocap, ob, Hf, hv0, hrow, hsf⟩ : ∃ oa ocap ob Hf, v0 = .tuple #[.slice oa ((spL l l.length []).getD []).length ocap, .bool ob] ∧ NewRow 9 1 ((spL l l.length []).getD []).length (sL ((spL l l.length []).getD [])) (.slice oa ((spL l l.length []).getD []).length ocap) Hf ∧ Hf.Sublist Hr := by
   cases hs : spL l l.length [] with
   | none => rw [hs] at hp2; exact ⟨none, 0, false, [], hp2, row_none, List.nil_sublist _⟩
   | some R =>
    rw [hs] at hp2
    obtain ⟨oa, ocap, Hf, h1, h2, h3⟩ := hp2
    exact ⟨oa, ocap, true, Hf, h1, h2, h3⟩
  subst hv0
  refine WS_back ?_
  refine zm (.tuple _) hF ?_
  refine zD hF (y_extract (c := .slice _ _ _) rf rf) ?_
  refine zD hF (y_extract (c := .bool _) rf rf) ?_
  refine za (.slice _ _ _) hF ?_
  refine za (.bool _) hF ?_
  refine zP fun ds => ?_
  refine zm (.slice _ _ _) hF ?_
  refine zD hF (y_buildL bd25_0 rf) ?_
  refine WS_store hF (i := 0) rf rf Try.sizeOf25 rf rf rf d2 ?_
  refine za (.int .i64 _) hF ?_
  refine zN ?_
  refine W_ret ?_
  refine Fin_ret [_, .int .i64 _] Hf Try.results5 ⟨lvN rf Try.isAgg25 Try.sizeOf25 (Mem.own1 0 rf rf) rf, by rfl, trivial⟩ (HSub.sub (hsf.trans sbA)) ?_
  exact BstV.good (R := spL l l.length []) c1 (by rw [hr, hll]; rfl) hrow
theorem best_any (a : Option Addr) (n cap : Nat) (xs : List Int) (w : World) (hn : n ≤ 1000000) (hx : Ints w a n cap xs) :
  Ct Try.prog 4 #[.slice a n cap] w (BstV xs) := by
 have hl := hx.len
 subst hl
 have hF := wide_wide
 refine Ct_start (args := [_]) Try.func4 rf Try.ntmps4 rf ?_
 refine zR fun ds => ?_
 refine WS_new hF rf (y_box rf) (fun bo => ?_)
 refine WS_new hF rf (y_alloc Try.zeroValue25 rf) (fun br => ?_)
 refine za (.int .i64 _) hF ?_
 refine zO ?_
 refine zR fun ds => ?_
 refine zD hF (y_load1 rf Try.isAgg22 (Mem.own1 1 rf rf)) ?_
 refine zD hF (y_callL rf rf Try.call8 (fun w hw => sent_any a _ cap xs w hn (hx.st w hw))) ?_
 refine zD hF (y_not rf) ?_
 refine zN ?_
 refine W_cond rf (fun c1 => ?_) (fun c1 => ?_)
 ·
  try simp only [qz1, qz2, qz3, qz4, qz5, qz6, qz7, qz8] at c1
  refine zR fun ds => ?_
  refine zD hF (y_buildL bd25 rf) ?_
  refine WS_store hF (i := 0) rf rf Try.sizeOf25 rf rf rf d2 ?_
  refine za (.int .i64 _) hF ?_
  refine zN ?_
  refine W_ret ?_
  refine Then_ret ?_
  refine Fin_ret [_, .int .i64 _] [] Try.results4 ⟨lvN rf Try.isAgg25 Try.sizeOf25 (Mem.own1 0 rf rf) rf, by rfl, trivial⟩ (HSub.sub sbA) ?_
  exact BstV.bad c1
 ·
  try simp only [qz1, qz2, qz3, qz4, qz5, qz6, qz7, qz8] at c1
  obtain ⟨⟨hn1, hn7⟩, hv, l, c, hr, hll, hl6⟩ := oft_len c1
  have hset : setC none [] 0 (xs.drop ([] : List Nat).length) 64 = some (l, c) := by
   unfold setC
   rw [betC_nl, addC_nil]
   exact hr
  refine W_skip ?_
  refine zS fun ds => ?_
  refine WS_new hF rf (y_alloc Try.zeroValue35 rf) (fun bb => ?_)
  refine zP fun ds => ?_
  refine WS_new hF rf (y_alloc Try.zeroValue3 rf) (fun bl => ?_)
  refine WS_store hF (i := 0) rf rf Try.sizeOf3 rf rf rf d2 ?_
  refine zP fun ds => ?_
  refine WS_new hF rf (y_alloc Try.zeroValue36 rf) (fun bs => ?_)
  refine zP fun ds => ?_
  refine zD hF (y_makeFuncL rf rf) ?_
  refine WS_store hF (i := 0) rf rf Try.sizeOf36 rf rf rf d2 ?_
  refine zP fun ds => ?_
  refine zD hF (y_load1 rf Try.isAgg36 (Mem.own1 0 rf rf)) ?_
  refine zD hF (y_buildL bd35 rf) ?_
  refine WS_subW ((SubP.hsub (SubP.pick 2 rf (SubP.pick 1 rf (SubP.pick 2 rf (SubP.pick 0 rf (SubP.pick 0 rf (SubP.nil)))))))) ?_
  refine WS_callS hF rf rf rf Try.call9 (settle_cs _ bb bl bo bs a cap xs hx hn1 hn7 hv xs.length _ _ [] 0 0 64 none [_] rfl (by simp) (fun x h => by cases h) (by decide) (by decide) (by decide) (by decide) (fun l c h => by cases h)) ?_
  rintro _ _ ⟨rfl, rfl⟩
  rw [hset]
  refine zP fun ds => ?_
  refine WS_new hF rf (y_alloc Try.zeroValue37 rf) (fun bp => ?_)
  refine zP fun ds => ?_
  refine zD hF (y_makeFuncL rf rf) ?_
  refine WS_store hF (i := 0) rf rf Try.sizeOf37 rf rf rf d2 ?_
  refine zP fun ds => ?_
  refine zD hF (y_load1 rf Try.isAgg37 (Mem.own1 0 rf rf)) ?_
  refine WS_newS hF rf (y_buildSliceL bs23_0 rf) (fun bw => ?_)
  refine WS_gen hF rf (y_callL rf rf Try.call10 (fun w hw => spellw_any bo bb bp a xs.length cap l hn1 hn7 hll hl6 xs.length [] 0 (some ⟨bw, 0, none⟩) 0 w rfl (by simp) (Mem.own (us := [_]) 4 rf rf w hw) (Mem.own (us := (szL l).cells) 2 rf rf w hw) (Mem.own (us := [_]) 1 rf rf w hw) (Rws.nil _ _ _))) ?_
  rintro v0 Hr ⟨_, hp⟩
  have hp2 := hp om0
  obtain ⟨oa, ocap, Hf, hv0, hrow, hsf⟩ : ∃ oa ocap Hf, v0 = .slice oa ((spL l xs.length []).getD []).length ocap ∧ NewRow 9 1 ((spL l xs.length []).getD []).length (sL ((spL l xs.length []).getD [])) (.slice oa ((spL l xs.length []).getD []).length ocap) Hf ∧ Hf.Sublist Hr := by
   cases hs : spL l xs.length [] with
   | none => rw [hs] at hp2; exact ⟨none, 0, [], hp2, row_none, List.nil_sublist _⟩
   | some R =>
    rw [hs] at hp2
    obtain ⟨oa, ocap, Hf, h1, h2, h3⟩ := hp2
    exact ⟨oa, ocap, Hf, h1, h2, h3⟩
  subst hv0
  refine WS_back ?_
  refine zD hF (y_buildL bd25_0 rf) ?_
  refine WS_store hF (i := 6) rf rf Try.sizeOf25 rf rf rf d2 ?_
  refine za (.int .i64 _) hF ?_
  refine zN ?_
  refine W_ret ?_
  refine Fin_ret [_, .int .i64 _] Hf Try.results4 ⟨lvN rf Try.isAgg25 Try.sizeOf25 (Mem.own1 6 rf rf) rf, by rfl, trivial⟩ (HSub.sub (hsf.trans sbA)) ?_
  exact BstV.good (R := spL l xs.length []) c1 (by rw [hr]; rfl) hrow
theorem bs22_0  : ∀ w, (Instr.buildSlice 22 0 #[]).run Try.prog w = .ok (.slice (some ⟨w.heap.size, 0, none⟩) 0 0) (w.alloc (CB [] 3)) := fun w => by kernel_rfl
theorem fa25_0 : ∀ b o w, (Instr.fieldAt 25 (.pointer (some ⟨b, o, none⟩)) 0).run Try.prog w = .ok (.pointer (some ⟨b, o + 0, none⟩)) w := fun b o w => by kernel_rfl
theorem bstL_len (xs : List Int) : (bstL xs).length ≤ 1000000 := by
 unfold bstL
 split
 ·rename_i h
  obtain ⟨⟨_, h7⟩, _⟩ := oft_len h
  cases hs : spL (bsL (lenR xs 64)) xs.length [] with
  | none => exact Nat.zero_le _
  | some R =>
   have := spL_len _ _ _ R hs
   simp only [List.length_nil, Nat.zero_add] at this
   show R.length ≤ 1000000
   omega
 ·exact Nat.zero_le _
theorem wireBest_any (a : Option Addr) (n cap : Nat) (xs : List Int) (w : World) (hx : Ints w a n cap xs) :
  Ct Try.prog 3 #[.slice a n cap] w fun v _ => v = .bool true := by
 have hl := hx.len
 subst hl
 have hb := bstL_len xs
 have hF := wide_wide
 refine Ct_start (args := [_]) Try.func3 rf Try.ntmps3 rf ?_
 refine zR fun ds => ?_
 refine za (.bool _) hF ?_
 refine zO ?_
 refine zR fun ds => ?_
 refine zm (.slice _ _ _) hF ?_
 refine zD hF (y_len rf Try.runUnderlying22) ?_
 refine zD hF (y_gtr rf rf) ?_
 refine zN ?_
 refine W_cond rf (fun c1 => ?_) (fun c1 => ?_)
 ·
  try simp only [qz1, qz2, qz3, qz4, qz5, qz6, qz7, qz8] at c1
  refine zR fun ds => ?_
  refine za (.bool _) hF ?_
  refine zN ?_
  refine W_ret ?_
  refine Then_ret ?_
  refine Fin_ret [.bool _] [] Try.results3 ⟨by rfl, trivial⟩ HSub.nil ?_
  rfl
 ·
  try simp only [qz1, qz2, qz3, qz4, qz5, qz6, qz7, qz8] at c1
  have hn : xs.length ≤ 1000000 := by omega
  refine W_skip ?_
  refine zS fun ds => ?_
  refine WS_newS hF rf (y_buildSliceL bs22_0 rf) (fun b1 => ?_)
  refine zm (.slice _ _ _) hF ?_
  refine WS_gen hF rf (y_append0 rf rf Try.underlying22 infInt rf hx.src (by rw [Nat.mul_one]; exact List.length_map _) om0 om0) ?_
  rintro _ Hm hrm
  have hrm2 := hrm
  obtain ⟨ma, mcap, rfl, _⟩ := hrm2
  refine za (.slice _ _ _) hF ?_
  refine zP fun ds => ?_
  refine zm (.slice _ _ _) hF ?_
  refine WS_gen hF rf (y_callL rf rf Try.call4 (fun w hw => best_any ma _ mcap xs w hn (NewRow.ints hrm rfl sbA w hw))) ?_
  rintro _ H1 ⟨a1, c1', rfl, hr1⟩
  refine WS_back ?_
  refine zm (.tuple _) hF ?_
  refine zD hF (y_extract (c := .agg _) rf rf) ?_
  refine zD hF (y_extract (c := .int .i64 _) rf rf) ?_
  refine WS_new hF rf (y_alloc Try.zeroValue25 rf) (fun bc => ?_)
  refine WS_store hF (i := 0) rf rf Try.sizeOf25 rf rf rf d2 ?_
  refine za (.int .i64 _) hF ?_
  refine zP fun ds => ?_
  refine zm (.slice _ _ _) hF ?_
  refine WS_gen hF rf (y_callL rf rf Try.call5 (fun w hw => rbest_any a _ cap xs w hn (hx.st w hw))) ?_
  rintro _ H2 ⟨a2, c2', rfl, hr2⟩
  refine WS_back ?_
  refine zm (.tuple _) hF ?_
  refine zD hF (y_extract (c := .agg _) rf rf) ?_
  refine zD hF (y_extract (c := .int .i64 _) rf rf) ?_
  refine WS_new hF rf (y_alloc Try.zeroValue25 rf) (fun b2 => ?_)
  refine WS_store hF (i := 0) rf rf Try.sizeOf25 rf rf rf d2 ?_
  refine za (.int .i64 _) hF ?_
  refine zP fun ds => ?_
  refine zD hF (y_fieldAddr rf fa25_0) ?_
  refine zD hF (y_load1 rf Try.isAgg23 (Mem.own1 1 rf rf)) ?_
  refine zD hF (y_fieldAddr rf fa25_0) ?_
  refine zD hF (y_load1 rf Try.isAgg23 (Mem.own1 0 rf rf)) ?_
  refine zD hF (y_callL rf rf Try.call6 (fun w hw => Ct_eq (stexts_any a1 a2 _ _ c1' c2' (bstL xs) (bstL xs) w hb (Txs.of hr1 rfl sbA w hw) (Txs.of hr2 rfl sbA w hw)) (show Value.bool (decide (_ = _)) = .bool true by rw [decide_eq_true rfl]))) ?_
  refine zm (.bool _) hF ?_
  refine zm (.int .i64 _) hF ?_
  refine zm (.int .i64 _) hF ?_
  refine zD hF (y_eqlT rf rf) ?_
  refine zD hF (zpk (.bool _)) ?_
  refine zm (.bool _) hF ?_
  refine zm (.slice _ _ _) hF ?_
  refine zm (.slice _ _ _) hF ?_
  refine zD hF (y_callL rf rf Try.call7 (fun w hw => Ct_eq (wsame_any ma a _ _ mcap cap xs xs w hn (NewRow.ints hrm rfl sbA w hw) (hx.st w hw)) (show Value.bool (decide (_ = _)) = .bool true by rw [decide_eq_true rfl]))) ?_
  refine zD hF (zpk (.bool _)) ?_
  refine za (.bool _) hF ?_
  refine zN ?_
  refine W_ret ?_
  refine Fin_ret [.bool _] [] Try.results3 ⟨by rfl, trivial⟩ HSub.nil ?_
  rfl
end Go.Proofs.Ytmpanejghmgoaaa.T
namespace Go.Proofs.Ytmpanejghmgoaaa
open Go.RowKit Go.Proofs Go.Eng Go.ChangeShapes Go.WideShapes Go.ChangeAt Go.Joins T
set_option maxRecDepth 100000
set_option maxHeartbeats 1000000
theorem walkWireBest (v0 : Value) (W : World) (h0 : ∃ (ta0 : Option Addr) (tn0 tcap0 : Nat) (D0 : List Int), v0 = .slice ta0 tn0 tcap0 ∧ Ints W ta0 tn0 tcap0 D0) :
  Calls Try.prog 3 #[v0] W fun e W' => e = .returned (.bool true) ∧ Below W.heap.size W W' := by
 obtain ⟨ta0, tn0, tcap0, D0, rfl, hD0⟩ := h0
 refine Calls.mono (wireBest_any ta0 tn0 tcap0 D0 W hD0) ?_
 rintro e W' ⟨v, rfl, Hn, hb, _, rfl⟩
 exact ⟨rfl, hb⟩
theorem liftWireBest (os : Os) (started : os.Started) (H : Type) (enc : TypeId × Value → H) :
  ReturnsInHanded {} Try.checked os 3 .any (Rows.wireBestSpec.pre6 enc Try.prog Try.f3 Rows.wireBestRow.domain false) (Rows.wireBestSpec.post enc Try.prog Try.f3 false true false false) := by
 refine returnsInHanded_of_change (C := Try.checked) own started (by kernel_rfl) Try.func3
  (ChangeSpec.witness6 (enc := enc) (C := Try.checked) false ⟨#[], #[.slice none 0 0], []⟩ 8 (by kernel_rfl) (by kernel_rfl) (by kernel_rfl) (by kernel_rfl)) ?_
 intro W base args ds gs before hval0 hW hcnd _
 have hval : ∀ (j : Nat) t v, Try.f3.params[j]? = some t → args[j]? = some v → Value.okWide Try.prog W .any base t v := hval0
 have hW' := hW
 obtain ⟨p, q, hA0, hV, rfl, hfz, hnd⟩ := hW
 have hA : DataW.TrodAll enc Try.prog W 0 (fun _ => true) true Try.f3.params.toList args.toList ds p := hA0
 rw [Try.params3] at hA hval
 obtain ⟨v0, vs0, d0, ds0, p0, q0, hargs, rfl, rfl, h0, r0⟩ := trodAll_cons hA
 obtain ⟨rfl, rfl, rfl⟩ := trodAll_nil r0
 obtain rfl : args = #[v0] := by cases args; simp_all
 obtain ⟨rfl, rfl⟩ := trodVars_none hV
 have lt0 : ∀ x ∈ p0, x.block < W.heap.size := by obtain ⟨m, hm⟩ := h0; exact DataW.trod_lt m _ _ _ hm
 have o0 : ∃ (ta0 : Option Addr) (tn0 tcap0 : Nat) (D0 : List Int), v0 = .slice ta0 tn0 tcap0 ∧ Ints W ta0 tn0 tcap0 D0 := open_intsV (hval 0 _ v0 rfl rfl) h0 (fun _ => rfl)
 clear hA0 hval0
 refine (walkWireBest v0 W o0).mono fun e W' ⟨he, bel⟩ => ?_
 subst he
 exact ⟨_, rfl, _, _, _, [], _, [], hW', trodAll_mk1 (shut_bool Try.underlying4 _),
  (trodAll_cons_mk (Below.trod laidOut (by kernel_rfl) (of_decide_eq_true (by kernel_rfl)) h0 bel lt0) trodAll_mk0), rfl, bel.frame _, fun h => by cases h⟩
theorem wireBest : Rows.WireBestSaid :=
 OpenClaim.holds_of_wide 3 Try.f3 rfl rfl rfl rfl rfl rfl rfl ⟨rfl, rfl, rfl, rfl, rfl⟩ rfl rfl rfl rfl rfl (by kernel_rfl) Try.func3 (by kernel_rfl)
  (of_decide_eq_true (by kernel_rfl)) (by unfold Func.isWrapper; first | (rw [if_pos (by decide +kernel)]; kernel_rfl) | (rw [if_neg (by decide +kernel)]; exact ⟨rfl, rfl⟩))
  (fun os started H enc _ => liftWireBest os started H enc)
end Go.Proofs.Ytmpanejghmgoaaa
